/- The marks read back by the law's functions; under the conditions that each names. -/
import Derived.Test.YtkcomfmdcmjagaaMw
namespace Go.Proofs.Ytkcomfmdcmjagaa.OFnExactAllSels
open Go.Proofs.Ytkcomfmdcmjagaa.Lay Go.Proofs.Ytkcomfmdcmjagaa.Mark
open Go.RowKit Go.Proofs.YtkcomfmdcmjagaaW.PrintWords Go.Proofs.YtkcomfmdcmjagaaW.PrintLast Go.Proofs.YtkcomfmdcmjagaaW.PrintMore
set_option linter.unusedVariables false
set_option linter.unusedSimpArgs false
theorem RowAt.later {w w' : World} {n : Nat} {c : D} {v : Value} (h : RowAt w.cell? n c v) (hb : ∀ b ∈ rbl w.cell? c v, b < w.heap.size) (hB : Below w.heap.size w w') : RowAt w'.cell? n c v ∧ ∀ b ∈ rbl w'.cell? c v, b < w'.heap.size := by
  obtain ⟨i, e⟩ := h.frame (r' := w'.cell?) (fun a ha => cell_of_heap (hB.block a.block (hb _ ha)))
  exact ⟨i, fun b hq => Nat.lt_of_lt_of_le (hb b (by rw [← e]; exact hq)) hB.size⟩
/-- What a function that reads the marks back answers. -/
abbrev HeldC (T : Int → ByteArray) (f : Nat) {α : Type} (dX : α → D) (l : List α) : Prop := ∀ (v : Value) (k k' : Int) (w : World), k' = k → RowAt w.cell? l.length ((D.list dX l).mark T k) v → (∀ b ∈ rbl w.cell? ((D.list dX l).mark T k) v, b < w.heap.size) → 0 < k → k + (D.list dX l).cnt ≤ 2305843009213693952 →
  Calls Try.prog f #[v, .int .i64 k'] w fun e w' => e = .returned (.int .i64 (k + (D.list dX l).cnt)) ∧ Below w.heap.size w w'
theorem openMT {T : Int → ByteArray} {r : Rd} {y : ByteArray} {k : Int} {g o : Nat} (h : Lay r ((dT y).mark T k) g o) : r ⟨g, o, none⟩ = some (.string (T k)) ∧ bl r ((dT y).mark T k) g o = [] := ⟨h, rfl⟩
theorem mV_eq (T : Int → ByteArray) (y : S30) (k : Int) : (dV y).mark T k = .cons (.int (k)) (.cons (.str (T (k + 1))) (.cons (.row y.f2.length ((D.list dV y.f2).mark T (k + 1 + 1))) (.cons (.row y.f3.length ((D.list dT y.f3).mark T (k + 1 + 1 + (D.list dV y.f2).cnt))) .nil))) := by
  rw [dV_eq]
  rfl
theorem openMV {T : Int → ByteArray} {r : Rd} {y : S30} {k : Int} {g o : Nat} (h : Lay r ((dV y).mark T k) g o) : ∃ A2 c2 A3 c3, r ⟨g, o, none⟩ = some (.int .i64 (k)) ∧ r ⟨g, o + 1, none⟩ = some (.string (T (k + 1))) ∧ r ⟨g, o + 2, none⟩ = some (.slice A2 y.f2.length c2) ∧ r ⟨g, o + 3, none⟩ = some (.slice A3 y.f3.length c3) ∧ RowAt r y.f2.length ((D.list dV y.f2).mark T (k + 1 + 1)) (.slice A2 y.f2.length c2) ∧ RowAt r y.f3.length ((D.list dT y.f3).mark T (k + 1 + 1 + (D.list dV y.f2).cnt)) (.slice A3 y.f3.length c3) ∧ bl r ((dV y).mark T k) g o = rbl r ((D.list dV y.f2).mark T (k + 1 + 1)) (.slice A2 y.f2.length c2) ++ (rbl r ((D.list dT y.f3).mark T (k + 1 + 1 + (D.list dV y.f2).cnt)) (.slice A3 y.f3.length c3) ++ []) := by
  rw [mV_eq] at h ⊢
  obtain ⟨e0, e1, ⟨v2, e2, h2⟩, ⟨v3, e3, h3⟩, _⟩ := h
  obtain ⟨A2, c2, rfl, _, _⟩ := RowAt.sl h2
  have q2 : r ⟨g, o + 1 + 1, none⟩ = some (.slice A2 y.f2.length c2) := e2
  obtain ⟨A3, c3, rfl, _, _⟩ := RowAt.sl h3
  have q3 : r ⟨g, o + 1 + 1 + 1, none⟩ = some (.slice A3 y.f3.length c3) := e3
  refine ⟨A2, c2, A3, c3, e0, e1, e2, e3, h2, h3, ?_⟩
  rw [bl_ci, bl_cs, bl_cr q2, bl_cr q3]; rfl
theorem mA_eq (T : Int → ByteArray) (y : S78) (k : Int) : (dA y).mark T k = .cons (.str (T (k))) (.cons (.int (k + 1)) (.cons (.str (T (k + 1 + 1))) (.cons (.row y.f1.f2.length ((D.list dV y.f1.f2).mark T (k + 1 + 1 + 1))) (.cons (.row y.f1.f3.length ((D.list dT y.f1.f3).mark T (k + 1 + 1 + 1 + (D.list dV y.f1.f2).cnt))) .nil)))) := by
  rw [dA_eq]
  rfl
theorem openMA {T : Int → ByteArray} {r : Rd} {y : S78} {k : Int} {g o : Nat} (h : Lay r ((dA y).mark T k) g o) : ∃ A3 c3 A4 c4, r ⟨g, o, none⟩ = some (.string (T (k))) ∧ r ⟨g, o + 1, none⟩ = some (.int .i64 (k + 1)) ∧ r ⟨g, o + 2, none⟩ = some (.string (T (k + 1 + 1))) ∧ r ⟨g, o + 3, none⟩ = some (.slice A3 y.f1.f2.length c3) ∧ r ⟨g, o + 4, none⟩ = some (.slice A4 y.f1.f3.length c4) ∧ RowAt r y.f1.f2.length ((D.list dV y.f1.f2).mark T (k + 1 + 1 + 1)) (.slice A3 y.f1.f2.length c3) ∧ RowAt r y.f1.f3.length ((D.list dT y.f1.f3).mark T (k + 1 + 1 + 1 + (D.list dV y.f1.f2).cnt)) (.slice A4 y.f1.f3.length c4) ∧ bl r ((dA y).mark T k) g o = rbl r ((D.list dV y.f1.f2).mark T (k + 1 + 1 + 1)) (.slice A3 y.f1.f2.length c3) ++ (rbl r ((D.list dT y.f1.f3).mark T (k + 1 + 1 + 1 + (D.list dV y.f1.f2).cnt)) (.slice A4 y.f1.f3.length c4) ++ []) := by
  rw [mA_eq] at h ⊢
  obtain ⟨e0, e1, e2, ⟨v3, e3, h3⟩, ⟨v4, e4, h4⟩, _⟩ := h
  obtain ⟨A3, c3, rfl, _, _⟩ := RowAt.sl h3
  have q3 : r ⟨g, o + 1 + 1 + 1, none⟩ = some (.slice A3 y.f1.f2.length c3) := e3
  obtain ⟨A4, c4, rfl, _, _⟩ := RowAt.sl h4
  have q4 : r ⟨g, o + 1 + 1 + 1 + 1, none⟩ = some (.slice A4 y.f1.f3.length c4) := e4
  refine ⟨A3, c3, A4, c4, e0, e1, e2, e3, e4, h3, h4, ?_⟩
  rw [bl_cs, bl_ci, bl_cs, bl_cr q3, bl_cr q4]; rfl
theorem mD_eq (T : Int → ByteArray) (y : S95) (k : Int) : (dD y).mark T k = .cons (.str (T (k))) (.cons (.row y.f1.length ((D.list dA y.f1).mark T (k + 1))) .nil) := by
  rw [dD_eq]
  rfl
theorem openMD {T : Int → ByteArray} {r : Rd} {y : S95} {k : Int} {g o : Nat} (h : Lay r ((dD y).mark T k) g o) : ∃ A1 c1, r ⟨g, o, none⟩ = some (.string (T (k))) ∧ r ⟨g, o + 1, none⟩ = some (.slice A1 y.f1.length c1) ∧ RowAt r y.f1.length ((D.list dA y.f1).mark T (k + 1)) (.slice A1 y.f1.length c1) ∧ bl r ((dD y).mark T k) g o = rbl r ((D.list dA y.f1).mark T (k + 1)) (.slice A1 y.f1.length c1) ++ [] := by
  rw [mD_eq] at h ⊢
  obtain ⟨e0, ⟨v1, e1, h1⟩, _⟩ := h
  obtain ⟨A1, c1, rfl, _, _⟩ := RowAt.sl h1
  have q1 : r ⟨g, o + 1, none⟩ = some (.slice A1 y.f1.length c1) := e1
  refine ⟨A1, c1, e0, e1, h1, ?_⟩
  rw [bl_cs, bl_cr q1]; rfl
theorem mS_eq (T : Int → ByteArray) (y : S54) (k : Int) : (dS y).mark T k = .cons (.int (k)) (.cons (.str (T (k + 1))) (.cons (.str (T (k + 1 + 1))) (.cons (.str (T (k + 1 + 1 + 1))) (.cons (.row y.f4.length ((D.list dA y.f4).mark T (k + 1 + 1 + 1 + 1))) (.cons (.row y.f5.length ((D.list dD y.f5).mark T (k + 1 + 1 + 1 + 1 + (D.list dA y.f4).cnt))) (.cons (.row y.f6.length ((D.list dS y.f6).mark T (k + 1 + 1 + 1 + 1 + (D.list dA y.f4).cnt + (D.list dD y.f5).cnt))) .nil)))))) := by
  rw [dS_eq]
  rfl
theorem openMS {T : Int → ByteArray} {r : Rd} {y : S54} {k : Int} {g o : Nat} (h : Lay r ((dS y).mark T k) g o) : ∃ A4 c4 A5 c5 A6 c6, r ⟨g, o, none⟩ = some (.int .i64 (k)) ∧ r ⟨g, o + 1, none⟩ = some (.string (T (k + 1))) ∧ r ⟨g, o + 2, none⟩ = some (.string (T (k + 1 + 1))) ∧ r ⟨g, o + 3, none⟩ = some (.string (T (k + 1 + 1 + 1))) ∧ r ⟨g, o + 4, none⟩ = some (.slice A4 y.f4.length c4) ∧ r ⟨g, o + 5, none⟩ = some (.slice A5 y.f5.length c5) ∧ r ⟨g, o + 6, none⟩ = some (.slice A6 y.f6.length c6) ∧ RowAt r y.f4.length ((D.list dA y.f4).mark T (k + 1 + 1 + 1 + 1)) (.slice A4 y.f4.length c4) ∧ RowAt r y.f5.length ((D.list dD y.f5).mark T (k + 1 + 1 + 1 + 1 + (D.list dA y.f4).cnt)) (.slice A5 y.f5.length c5) ∧ RowAt r y.f6.length ((D.list dS y.f6).mark T (k + 1 + 1 + 1 + 1 + (D.list dA y.f4).cnt + (D.list dD y.f5).cnt)) (.slice A6 y.f6.length c6) ∧ bl r ((dS y).mark T k) g o = rbl r ((D.list dA y.f4).mark T (k + 1 + 1 + 1 + 1)) (.slice A4 y.f4.length c4) ++ (rbl r ((D.list dD y.f5).mark T (k + 1 + 1 + 1 + 1 + (D.list dA y.f4).cnt)) (.slice A5 y.f5.length c5) ++ (rbl r ((D.list dS y.f6).mark T (k + 1 + 1 + 1 + 1 + (D.list dA y.f4).cnt + (D.list dD y.f5).cnt)) (.slice A6 y.f6.length c6) ++ [])) := by
  rw [mS_eq] at h ⊢
  obtain ⟨e0, e1, e2, e3, ⟨v4, e4, h4⟩, ⟨v5, e5, h5⟩, ⟨v6, e6, h6⟩, _⟩ := h
  obtain ⟨A4, c4, rfl, _, _⟩ := RowAt.sl h4
  have q4 : r ⟨g, o + 1 + 1 + 1 + 1, none⟩ = some (.slice A4 y.f4.length c4) := e4
  obtain ⟨A5, c5, rfl, _, _⟩ := RowAt.sl h5
  have q5 : r ⟨g, o + 1 + 1 + 1 + 1 + 1, none⟩ = some (.slice A5 y.f5.length c5) := e5
  obtain ⟨A6, c6, rfl, _, _⟩ := RowAt.sl h6
  have q6 : r ⟨g, o + 1 + 1 + 1 + 1 + 1 + 1, none⟩ = some (.slice A6 y.f6.length c6) := e6
  refine ⟨A4, c4, A5, c5, A6, c6, e0, e1, e2, e3, e4, e5, e6, h4, h5, h6, ?_⟩
  rw [bl_ci, bl_cs, bl_cs, bl_cs, bl_cr q4, bl_cr q5, bl_cr q6]; rfl
set_option maxHeartbeats 4000000 in
set_option maxRecDepth 100000 in
theorem heldT {T : Int → ByteArray} (hT : TextC T) : ∀ l : List ByteArray, HeldC T 21 dT l := by
  intro l
  intro v k k' w hkk hR hB h0 h1
  obtain ⟨A, cap, rfl, hn, hm⟩ := RowAt.sl hR
  have HF := Aside0.mk (show ∀ ad, A = some ad → ad = ⟨ad.block, 0, none⟩ ∧ Lay w.cell? ((D.list dT l).mark T k) ad.block 0 ∧ ∀ b ∈ bl w.cell? ((D.list dT l).mark T k) ad.block 0, b < w.heap.size from fun ad e => by
    subst e
    rcases hR with ⟨hv, _⟩ | ⟨a, cap', e, _, _, hL⟩
    · cases hv
    · cases e
      exact ⟨rfl, hL, fun b hq => hB b (List.mem_cons_of_mem _ hq)⟩)
  have HS := Aside0.mk (show A = none → l.length = 0 from fun e => by
    subst e
    rcases hR with ⟨_, hv, _⟩ | ⟨a, cap', e, _⟩
    · exact hv
    · cases e)
  have HKB := Aside0.mk h1
  revert HKB
  generalize hKF : k + ((D.list dT l).cnt : Int) = KF
  intro HKB
  have H0 := Aside0.mk h0
  have HT := Aside0.mk hT
  have hK := Aside0.mk hKF
  clear hR hB h0 h1 hKF hT
  subst hkk
  go_enter Try.func21, Try.ntmps21
  go_wp2
  go_loopg [1, 5] l.length (fun gg v1 v5 wr => ∃ (x1 x5 : Int), v1 = .int .i64 x1 ∧ v5 = .int .i64 x5 ∧ Aside0 (0 ≤ x5 ∧ x5 ≤ l.length ∧ l.length - x5.toNat ≤ gg) ∧ Aside0 (0 < x1 ∧ x1 + ((D.list dT (l.drop x5.toNat)).cnt : Int) = KF) ∧ Aside0 (∀ ad, A = some ad → ad = ⟨ad.block, 0, none⟩ ∧ Lay w.cell? ((D.list dT (l.drop x5.toNat)).mark T x1) ad.block (x5.toNat) ∧ ∀ b ∈ bl w.cell? ((D.list dT (l.drop x5.toNat)).mark T x1) ad.block (x5.toNat), b < w.heap.size) ∧ Aside0 (Below w.heap.size w wr))
  case atStart => exact ⟨k', 0, rfl, rfl, ⟨⟨by omega, by omega, by omega⟩⟩, ⟨⟨H0.out, by simpa using hK.out⟩⟩, ⟨by simpa using HF.out⟩, ⟨Below.refl _ _⟩⟩
  case round =>
    clear HF
    obtain ⟨x1, x5, rfl, rfl, HX, HK, HO, HB⟩ := hrel
    by_cases hlt : x5 < (l.length : Int)
    · have hltb : decide (x5 < (l.length : Int)) = true := decide_eq_true hlt
      have p6 : (0 ≤ x5) = True := eq_true HX.out.1
      have q6 : (x5 < (l.length : Int)) = True := eq_true hlt
      have hj : x5.toNat < l.length := by have := HX.out.1; omega
      obtain ⟨ad, ead⟩ : ∃ ad, A = some ad := by
        cases A with
        | none => have := HS.out rfl; omega
        | some ad => exact ⟨ad, rfl⟩
      obtain ⟨e0_, hl, hb⟩ := HO.out ad ead
      obtain ⟨g, rfl⟩ : ∃ g, ad = ⟨g, 0, none⟩ := ⟨_, e0_⟩
      subst ead
      clear e0_
      have hKx := HK.out
      have hyl : l[x5.toNat] ∈ l := List.getElem_mem hj
      have hnx : x5.toNat + 1 = (x5 + 1).toNat := by have := HX.out.1; omega
      rw [List.drop_eq_getElem_cons hj] at hl hb hKx
      rw [hnx] at hl hb hKx
      generalize l[x5.toNat] = y at hl hb hKx hyl
      obtain ⟨e0, hbl⟩ := openMT hl.1
      have hbl2 : ∀ b ∈ bl w.cell? ((dT y).mark T x1) g (x5.toNat) ++ bl w.cell? ((D.list dT (l.drop (x5 + 1).toNat)).mark T (x1 + ((dT y).cnt : Int))) g (x5.toNat + ((dT y).mark T x1).sz), b < w.heap.size := hb
      have hcy := cntT y
      have hcl : (D.list dT (y :: l.drop (x5 + 1).toNat)).cnt = (dT y).cnt + (D.list dT (l.drop (x5 + 1).toNat)).cnt := rfl
      rw [hcl, hcy] at hKx
      have hO2 : Lay w.cell? ((D.list dT (l.drop (x5 + 1).toNat)).mark T (x1 + ((dT y).cnt : Int))) g (x5.toNat + ((dT y).mark T x1).sz) ∧ ∀ b ∈ bl w.cell? ((D.list dT (l.drop (x5 + 1).toNat)).mark T (x1 + ((dT y).cnt : Int))) g (x5.toNat + ((dT y).mark T x1).sz), b < w.heap.size := ⟨hl.2, fun b hq => hbl2 b (List.mem_append_right _ hq)⟩
      rw [D.sz_mark, hcy, szT, show x5.toNat + 1 = (x5 + 1).toNat by rw [← hnx], show x1 + (((1 : Nat)) : Int) = x1 + 1 by omega] at hO2
      have HO2 := Aside0.mk hO2
      have HKx := Aside0.mk hKx
      have WW0 := Aside0.mk (show wrap64 (x1 + 1) = x1 + 1 by unfold wrap64; have := HK.out.1; have := HKx.out; have := HKB.out; omega)
      have W0 := Aside0.mk (show wrap64 (x5 + 1) = x5 + 1 by unfold wrap64; have := HX.out.1; omega)
      have C3 := Aside0.mk hlt
      have E0 := Aside0.mk e0
      have HY := Aside0.mk hyl
      clear HO hO2 hKx hcl hcy hl hb hbl2 hj hnx hyl hlt hbl e0 
      try go_wp2
      have n0_ := Aside0.mk (below_drew1 HB.out)
      clear HB
      have HB := n0_
      clear n0_
      refine start_ (n := 7) (S := fun w' => w'.cell? ⟨g, x5.toNat, none⟩ = some (.string (T (x1)))) (ds := []) #[false, false, false, false, false, false, false] (by kernel_rfl) rfl rfl ((HB.out.cell (World.block_lt_of_cell? w _ E0.out)).trans E0.out) (fun hHeld => ?_)
      generalize wr.drew = wd0 at HB hHeld ⊢
      refine pure_ (i := 0) (N := some 12) (v := ?_) (a' := ?_) #[true, false, false, false, false, false, false] rfl rfl (by kernel_rfl) (fun _ _ _ h => h) (Or.inl ⟨by rfl, ?_⟩) ?_ ?_
      rotate_left
      · intro w'
        go_simp
        with_reducible rfl
      rotate_left
      · simp only [Act.put, List.setIfInBounds_toArray, List.set_cons_zero, List.set_cons_succ, i64_w, i32_w]
        rfl
      refine pure_ (i := 1) (N := some 13) (v := ?_) (a' := ?_) #[true, true, false, false, false, false, false] rfl rfl (by kernel_rfl) (fun _ _ _ h => h) (Or.inl ⟨by rfl, ?_⟩) ?_ ?_
      rotate_left
      · intro w'
        go_simp
        with_reducible rfl
      rotate_left
      · simp only [Act.put, List.setIfInBounds_toArray, List.set_cons_zero, List.set_cons_succ, i64_w, i32_w]
        rfl
      refine pure_ (i := 2) (N := some 14) (v := ?_) (a' := ?_) #[true, true, true, false, false, false, false] rfl rfl (by kernel_rfl) (fun _ _ _ h => h) (Or.inl ⟨by rfl, ?_⟩) ?_ ?_
      rotate_left
      · intro w'
        go_simp
        with_reducible rfl
      rotate_left
      · simp only [Act.put, List.setIfInBounds_toArray, List.set_cons_zero, List.set_cons_succ, i64_w, i32_w]
        rfl
      refine pure_ (i := 4) (N := some 16) (v := ?_) (a' := ?_) #[true, true, true, false, true, false, false] rfl rfl (by kernel_rfl) (fun _ _ _ h => h) (Or.inl ⟨by rfl, ?_⟩) ?_ ?_
      rotate_left
      · intro w'
        go_simp
        with_reducible rfl
      rotate_left
      · simp only [Act.put, List.setIfInBounds_toArray, List.set_cons_zero, List.set_cons_succ, i64_w, i32_w]
        rfl
      refine take_ (i := 3) (N := some 15) (v := ?_) (a' := ?_) #[true, true, true, true, true, false, false] rfl rfl (by kernel_rfl) (fun _ _ _ h => h) (Or.inl ⟨by rfl, ?_⟩) hHeld ?_ ?_
      rotate_left
      · intro w' s0
        go_simp
        with_reducible rfl
      rotate_left
      · simp only [Act.put, List.setIfInBounds_toArray, List.set_cons_zero, List.set_cons_succ, i64_w, i32_w]
        rfl
      refine one_ (i := 5) (N := some 17) #[true, true, true, true, true, true, false] rfl rfl (by kernel_rfl) (by decide) (fun K hK => ?_)
      refine goes_ Try.func52 (by kernel_rfl) rfl #[.int .i64 (x1)] (by rfl) rfl rfl (by (try simp only [List.map_toArray, List.map_cons, List.map_nil]); first | done | rfl) ?_
      with_reducible refine (HT.out _ (x1) _ (rfl) (by have := HK.out.1; omega) (by have := HKx.out; have := HKB.out; omega)).mono ?_
      rintro e wt0 ⟨rfl, hb⟩
      refine ⟨_, rfl, ?_⟩
      have n0_ := Aside0.mk (below_step HB.out hb)
      clear HB hb
      have HB := n0_
      clear n0_
      refine hK.out _ _ ((HB.out.cell (World.block_lt_of_cell? w _ E0.out)).trans E0.out) (fun hHeld => ?_)
      clear hK K
      have n0a : ((T (x1)).toList != (T (x1)).toList) = false := by simp
      have n0b : ((T (x1)).toList == (T (x1)).toList) = true := by simp
      refine norm_ (a' := ?_) ?_ ?_
      rotate_left
      · show Act.put _ (some 17) _ = _
        simp only [Act.put, List.setIfInBounds_toArray, List.set_cons_zero, List.set_cons_succ, i64_w, i32_w]
        rfl
      refine pure_ (i := 6) (N := some 18) (v := ?_) (a' := ?_) #[true, true, true, true, true, true, true] rfl rfl (by kernel_rfl) (fun _ _ _ h => h) (Or.inl ⟨by rfl, ?_⟩) ?_ ?_
      rotate_left
      · intro w'
        go_simp
        with_reducible rfl
      rotate_left
      · simp only [Act.put, List.setIfInBounds_toArray, List.set_cons_zero, List.set_cons_succ, i64_w, i32_w]
        rfl
      refine done_ (by kernel_rfl) ?_
      clear hHeld
      try go_wp2
      go_roundg (l.length - (x5 + 1).toNat)
      case measure => have := HX.out; have := C3.out; omega
      case rel => exact ⟨x1 + 1, x5 + 1, by rw [WW0.out], by rw [W0.out], ⟨⟨by have := HX.out; omega, by have := C3.out; omega, by omega⟩⟩, ⟨⟨by have := HK.out.1; omega, by have := HKx.out; omega⟩⟩, ⟨fun ad e => by cases e; exact ⟨rfl, HO2.out⟩⟩, HB⟩
    · have hltb : decide (x5 < (l.length : Int)) = false := decide_eq_false hlt
      have hKx := HK.out.2
      rw [List.drop_eq_nil_of_le (by omega)] at hKx
      have hk : x1 = KF := by simpa [D.list, D.cnt] using hKx
      subst hk
      clear hKx hlt HO HK
      go_wp2
      go_ret
      exact ⟨rfl, HB.out⟩
set_option maxHeartbeats 4000000 in
set_option maxRecDepth 100000 in
theorem heldV {T : Int → ByteArray} (hT : TextC T) : ∀ l : List S30, HeldC T 77 dV l := by
  refine indVs (fun l ih => ?_)
  intro v k k' w hkk hR hB h0 h1
  obtain ⟨A, cap, rfl, hn, hm⟩ := RowAt.sl hR
  have HF := Aside0.mk (show ∀ ad, A = some ad → ad = ⟨ad.block, 0, none⟩ ∧ Lay w.cell? ((D.list dV l).mark T k) ad.block 0 ∧ ∀ b ∈ bl w.cell? ((D.list dV l).mark T k) ad.block 0, b < w.heap.size from fun ad e => by
    subst e
    rcases hR with ⟨hv, _⟩ | ⟨a, cap', e, _, _, hL⟩
    · cases hv
    · cases e
      exact ⟨rfl, hL, fun b hq => hB b (List.mem_cons_of_mem _ hq)⟩)
  have HS := Aside0.mk (show A = none → l.length = 0 from fun e => by
    subst e
    rcases hR with ⟨_, hv, _⟩ | ⟨a, cap', e, _⟩
    · exact hv
    · cases e)
  have HKB := Aside0.mk h1
  revert HKB
  generalize hKF : k + ((D.list dV l).cnt : Int) = KF
  intro HKB
  have H0 := Aside0.mk h0
  have HT := Aside0.mk hT
  have hK := Aside0.mk hKF
  have IH := Aside0.mk ih
  clear hR hB h0 h1 hKF hT ih
  subst hkk
  go_enter Try.func77, Try.ntmps77
  go_wp2
  go_loopg [1, 5] l.length (fun gg v1 v5 wr => ∃ (x1 x5 : Int), v1 = .int .i64 x1 ∧ v5 = .int .i64 x5 ∧ Aside0 (0 ≤ x5 ∧ x5 ≤ l.length ∧ l.length - x5.toNat ≤ gg) ∧ Aside0 (0 < x1 ∧ x1 + ((D.list dV (l.drop x5.toNat)).cnt : Int) = KF) ∧ Aside0 (∀ ad, A = some ad → ad = ⟨ad.block, 0, none⟩ ∧ Lay w.cell? ((D.list dV (l.drop x5.toNat)).mark T x1) ad.block (x5.toNat * 4) ∧ ∀ b ∈ bl w.cell? ((D.list dV (l.drop x5.toNat)).mark T x1) ad.block (x5.toNat * 4), b < w.heap.size) ∧ Aside0 (Below w.heap.size w wr))
  case atStart => exact ⟨k', 0, rfl, rfl, ⟨⟨by omega, by omega, by omega⟩⟩, ⟨⟨H0.out, by simpa using hK.out⟩⟩, ⟨by simpa using HF.out⟩, ⟨Below.refl _ _⟩⟩
  case round =>
    clear HF
    obtain ⟨x1, x5, rfl, rfl, HX, HK, HO, HB⟩ := hrel
    by_cases hlt : x5 < (l.length : Int)
    · have hltb : decide (x5 < (l.length : Int)) = true := decide_eq_true hlt
      have p6 : (0 ≤ x5) = True := eq_true HX.out.1
      have q6 : (x5 < (l.length : Int)) = True := eq_true hlt
      have hj : x5.toNat < l.length := by have := HX.out.1; omega
      obtain ⟨ad, ead⟩ : ∃ ad, A = some ad := by
        cases A with
        | none => have := HS.out rfl; omega
        | some ad => exact ⟨ad, rfl⟩
      obtain ⟨e0_, hl, hb⟩ := HO.out ad ead
      obtain ⟨g, rfl⟩ : ∃ g, ad = ⟨g, 0, none⟩ := ⟨_, e0_⟩
      subst ead
      clear e0_
      have hKx := HK.out
      have hyl : l[x5.toNat] ∈ l := List.getElem_mem hj
      have hnx : x5.toNat + 1 = (x5 + 1).toNat := by have := HX.out.1; omega
      rw [List.drop_eq_getElem_cons hj] at hl hb hKx
      rw [hnx] at hl hb hKx
      generalize l[x5.toNat] = y at hl hb hKx hyl
      obtain ⟨A2, c2, A3, c3, e0, e1, e2, e3, h2, h3, hbl⟩ := openMV hl.1
      have hbl2 : ∀ b ∈ bl w.cell? ((dV y).mark T x1) g (x5.toNat * 4) ++ bl w.cell? ((D.list dV (l.drop (x5 + 1).toNat)).mark T (x1 + ((dV y).cnt : Int))) g (x5.toNat * 4 + ((dV y).mark T x1).sz), b < w.heap.size := hb
      have B2 := Aside0.mk (show ∀ b ∈ rbl w.cell? ((D.list dV y.f2).mark T (x1 + 1 + 1)) (.slice A2 y.f2.length c2), b < w.heap.size from fun b hq => hbl2 b (List.mem_append_left _ (by rw [hbl]; exact List.mem_append_left _ hq)))
      have B3 := Aside0.mk (show ∀ b ∈ rbl w.cell? ((D.list dT y.f3).mark T (x1 + 1 + 1 + ((D.list dV y.f2).cnt : Int))) (.slice A3 y.f3.length c3), b < w.heap.size from fun b hq => hbl2 b (List.mem_append_left _ (by rw [hbl]; exact List.mem_append_right _ (List.mem_append_left _ hq))))
      have hcy := cntV y
      have hcl : (D.list dV (y :: l.drop (x5 + 1).toNat)).cnt = (dV y).cnt + (D.list dV (l.drop (x5 + 1).toNat)).cnt := rfl
      rw [hcl, hcy] at hKx
      have hO2 : Lay w.cell? ((D.list dV (l.drop (x5 + 1).toNat)).mark T (x1 + ((dV y).cnt : Int))) g (x5.toNat * 4 + ((dV y).mark T x1).sz) ∧ ∀ b ∈ bl w.cell? ((D.list dV (l.drop (x5 + 1).toNat)).mark T (x1 + ((dV y).cnt : Int))) g (x5.toNat * 4 + ((dV y).mark T x1).sz), b < w.heap.size := ⟨hl.2, fun b hq => hbl2 b (List.mem_append_right _ hq)⟩
      rw [D.sz_mark, hcy, szV, show x5.toNat * 4 + 4 = (x5 + 1).toNat * 4 by rw [← hnx]; omega, show x1 + (((2 + (D.list dV y.f2).cnt + (D.list dT y.f3).cnt : Nat)) : Int) = x1 + 1 + 1 + ((D.list dV y.f2).cnt : Int) + ((D.list dT y.f3).cnt : Int) by omega] at hO2
      have HO2 := Aside0.mk hO2
      have HKx := Aside0.mk hKx
      have WW0 := Aside0.mk (show wrap64 (x1 + 1) = x1 + 1 by unfold wrap64; have := HK.out.1; have := HKx.out; have := HKB.out; omega)
      have WW1 := Aside0.mk (show wrap64 (x1 + 1 + 1) = x1 + 1 + 1 by unfold wrap64; have := HK.out.1; have := HKx.out; have := HKB.out; omega)
      have W0 := Aside0.mk (show wrap64 (x5 + 1) = x5 + 1 by unfold wrap64; have := HX.out.1; omega)
      have C3 := Aside0.mk hlt
      have E0 := Aside0.mk e0
      have E1 := Aside0.mk e1
      have E2 := Aside0.mk e2
      have E3 := Aside0.mk e3
      have R2 := Aside0.mk h2
      have R3 := Aside0.mk h3
      have HY := Aside0.mk hyl
      clear HO hO2 hKx hcl hcy hl hb hbl2 hj hnx hyl hlt hbl e0 e1 e2 e3 h2 h3
      have hx0 := (HB.out.cell (World.block_lt_of_cell? w _ E0.out)).trans E0.out
      have n0a : ((x1 : Int) != x1) = false := bne_eq_false_iff_eq.mpr (rfl : (x1 : Int) = x1).symm
      have n0b : ((x1 : Int) == x1) = true := beq_iff_eq.mpr (rfl : (x1 : Int) = x1).symm
      have n0c : ((x1 : Int) = x1) = True := eq_true (rfl : (x1 : Int) = x1).symm
      try go_wp2
      clear hx0 n0a n0b n0c
      have n0_ := Aside0.mk (below_drew1 HB.out)
      clear HB
      have HB := n0_
      clear n0_
      refine start_ (n := 8) (S := fun w' => w'.cell? ⟨g, x5.toNat * 4 + 1, none⟩ = some (.string (T (x1 + 1)))) (ds := []) #[false, false, false, false, false, false, false, false] (by kernel_rfl) rfl rfl ((HB.out.cell (World.block_lt_of_cell? w _ E1.out)).trans E1.out) (fun hHeld => ?_)
      generalize wr.drew = wd1 at HB hHeld ⊢
      refine pure_ (i := 0) (N := some 21) (v := ?_) (a' := ?_) #[true, false, false, false, false, false, false, false] rfl rfl (by kernel_rfl) (fun _ _ _ h => h) (Or.inl ⟨by rfl, ?_⟩) ?_ ?_
      rotate_left
      · intro w'
        go_simp
        with_reducible rfl
      rotate_left
      · simp only [Act.put, List.setIfInBounds_toArray, List.set_cons_zero, List.set_cons_succ, i64_w, i32_w]
        rfl
      refine pure_ (i := 1) (N := some 22) (v := ?_) (a' := ?_) #[true, true, false, false, false, false, false, false] rfl rfl (by kernel_rfl) (fun _ _ _ h => h) (Or.inl ⟨by rfl, ?_⟩) ?_ ?_
      rotate_left
      · intro w'
        go_simp
        with_reducible rfl
      rotate_left
      · simp only [Act.put, List.setIfInBounds_toArray, List.set_cons_zero, List.set_cons_succ, i64_w, i32_w]
        rfl
      refine pure_ (i := 2) (N := some 23) (v := ?_) (a' := ?_) #[true, true, true, false, false, false, false, false] rfl rfl (by kernel_rfl) (fun _ _ _ h => h) (Or.inl ⟨by rfl, ?_⟩) ?_ ?_
      rotate_left
      · intro w'
        go_simp
        with_reducible rfl
      rotate_left
      · simp only [Act.put, List.setIfInBounds_toArray, List.set_cons_zero, List.set_cons_succ, i64_w, i32_w]
        rfl
      refine pure_ (i := 3) (N := some 24) (v := ?_) (a' := ?_) #[true, true, true, true, false, false, false, false] rfl rfl (by kernel_rfl) (fun _ _ _ h => h) (Or.inl ⟨by rfl, ?_⟩) ?_ ?_
      rotate_left
      · intro w'
        go_simp
        with_reducible rfl
      rotate_left
      · simp only [Act.put, List.setIfInBounds_toArray, List.set_cons_zero, List.set_cons_succ, i64_w, i32_w]
        rfl
      refine pure_ (i := 5) (N := some 26) (v := ?_) (a' := ?_) #[true, true, true, true, false, true, false, false] rfl rfl (by kernel_rfl) (fun _ _ _ h => h) (Or.inl ⟨by rfl, ?_⟩) ?_ ?_
      rotate_left
      · intro w'
        go_simp
        with_reducible rfl
      rotate_left
      · simp only [Act.put, List.setIfInBounds_toArray, List.set_cons_zero, List.set_cons_succ, i64_w, i32_w]
        rfl
      refine take_ (i := 4) (N := some 25) (v := ?_) (a' := ?_) #[true, true, true, true, true, true, false, false] rfl rfl (by kernel_rfl) (fun _ _ _ h => h) (Or.inl ⟨by rfl, ?_⟩) hHeld ?_ ?_
      rotate_left
      · intro w' s0
        go_simp
        with_reducible rfl
      rotate_left
      · simp only [Act.put, List.setIfInBounds_toArray, List.set_cons_zero, List.set_cons_succ, i64_w, i32_w]
        rfl
      refine one_ (i := 6) (N := some 27) #[true, true, true, true, true, true, true, false] rfl rfl (by kernel_rfl) (by decide) (fun K hK => ?_)
      refine goes_ Try.func52 (by kernel_rfl) rfl #[.int .i64 (wrap64 (x1 + 1))] (by rfl) rfl rfl (by (try simp only [List.map_toArray, List.map_cons, List.map_nil]); first | done | rfl) ?_
      with_reducible refine (HT.out _ (x1 + 1) _ (by rw [WW0.out]) (by have := HK.out.1; omega) (by have := HKx.out; have := HKB.out; omega)).mono ?_
      rintro e wt1 ⟨rfl, hb⟩
      refine ⟨_, rfl, ?_⟩
      have n0_ := Aside0.mk (below_step HB.out hb)
      clear HB hb
      have HB := n0_
      clear n0_
      refine hK.out _ _ ((HB.out.cell (World.block_lt_of_cell? w _ E1.out)).trans E1.out) (fun hHeld => ?_)
      clear hK K
      have n1a : ((T (x1 + 1)).toList != (T (x1 + 1)).toList) = false := by simp
      have n1b : ((T (x1 + 1)).toList == (T (x1 + 1)).toList) = true := by simp
      refine norm_ (a' := ?_) ?_ ?_
      rotate_left
      · show Act.put _ (some 27) _ = _
        simp only [Act.put, List.setIfInBounds_toArray, List.set_cons_zero, List.set_cons_succ, i64_w, i32_w]
        rfl
      refine pure_ (i := 7) (N := some 28) (v := ?_) (a' := ?_) #[true, true, true, true, true, true, true, true] rfl rfl (by kernel_rfl) (fun _ _ _ h => h) (Or.inl ⟨by rfl, ?_⟩) ?_ ?_
      rotate_left
      · intro w'
        go_simp
        with_reducible rfl
      rotate_left
      · simp only [Act.put, List.setIfInBounds_toArray, List.set_cons_zero, List.set_cons_succ, i64_w, i32_w]
        rfl
      refine done_ (by kernel_rfl) ?_
      clear hHeld
      have hx2 := (HB.out.cell (World.block_lt_of_cell? w _ E2.out)).trans E2.out
      have l2a : decide (x1 + 1 + 1 + ((D.list dV y.f2).cnt : Int) < 0) = false := decide_eq_false (by have := HK.out.1; omega)
      have l2b : (x1 + 1 + 1 + ((D.list dV y.f2).cnt : Int) < 0) = False := eq_false (by have := HK.out.1; omega)
      have l3a : decide (x1 + 1 + 1 + ((D.list dV y.f2).cnt : Int) + ((D.list dT y.f3).cnt : Int) < 0) = false := decide_eq_false (by have := HK.out.1; omega)
      have l3b : (x1 + 1 + 1 + ((D.list dV y.f2).cnt : Int) + ((D.list dT y.f3).cnt : Int) < 0) = False := eq_false (by have := HK.out.1; omega)
      go_wp2_with (first
        | ((with_reducible refine gate_callee (f := 77) rfl ?_); refine goesL_ (some 37) rfl rfl Try.func77 (by kernel_rfl) rfl #[.slice A2 y.f2.length c2, .int .i64 (wrap64 (wrap64 (x1 + 1) + 1))] rfl (by (try simp only [List.map_toArray, List.map_cons, List.map_nil]); first | done | rfl) ?_
           obtain ⟨r2, b2⟩ := RowAt.later R2.out B2.out HB.out
           (with_reducible refine (IH.out y HY.out _ (x1 + 1 + 1) _ _ (by rw [WW0.out, WW1.out]) r2 b2 (by have := HK.out.1; omega) (by have := HKx.out; have := HKB.out; omega)).mono ?_)
           rintro e wc2 ⟨rfl, hb⟩
           refine ⟨_, rfl, ?_⟩
           clear r2 b2 hx2
           have n0_ := Aside0.mk (below_step HB.out hb)
           clear HB hb
           have HB := n0_
           clear n0_
           have hx3 := (HB.out.cell (World.block_lt_of_cell? w _ E3.out)).trans E3.out)
        | ((with_reducible refine gate_callee (f := 21) rfl ?_); refine goesL_ (some 46) rfl rfl Try.func21 (by kernel_rfl) rfl #[.slice A3 y.f3.length c3, .int .i64 (x1 + 1 + 1 + ((D.list dV y.f2).cnt : Int))] rfl (by (try simp only [List.map_toArray, List.map_cons, List.map_nil]); first | done | rfl) ?_
           obtain ⟨r3, b3⟩ := RowAt.later R3.out B3.out HB.out
           (with_reducible refine (heldT HT.out y.f3 _ (x1 + 1 + 1 + ((D.list dV y.f2).cnt : Int)) _ _ (rfl) r3 b3 (by have := HK.out.1; omega) (by have := HKx.out; have := HKB.out; omega)).mono ?_)
           rintro e wc3 ⟨rfl, hb⟩
           refine ⟨_, rfl, ?_⟩
           clear r3 b3 hx3
           have n0_ := Aside0.mk (below_step HB.out hb)
           clear HB hb
           have HB := n0_
           clear n0_))
      go_roundg (l.length - (x5 + 1).toNat)
      case measure => have := HX.out; have := C3.out; omega
      case rel => exact ⟨x1 + 1 + 1 + ((D.list dV y.f2).cnt : Int) + ((D.list dT y.f3).cnt : Int), x5 + 1, rfl, by rw [W0.out], ⟨⟨by have := HX.out; omega, by have := C3.out; omega, by omega⟩⟩, ⟨⟨by have := HK.out.1; omega, by have := HKx.out; omega⟩⟩, ⟨fun ad e => by cases e; exact ⟨rfl, HO2.out⟩⟩, HB⟩
    · have hltb : decide (x5 < (l.length : Int)) = false := decide_eq_false hlt
      have hKx := HK.out.2
      rw [List.drop_eq_nil_of_le (by omega)] at hKx
      have hk : x1 = KF := by simpa [D.list, D.cnt] using hKx
      subst hk
      clear hKx hlt HO HK
      go_wp2
      go_ret
      exact ⟨rfl, HB.out⟩
set_option maxHeartbeats 4000000 in
set_option maxRecDepth 100000 in
theorem heldA {T : Int → ByteArray} (hT : TextC T) : ∀ l : List S78, HeldC T 66 dA l := by
  intro l
  intro v k k' w hkk hR hB h0 h1
  obtain ⟨A, cap, rfl, hn, hm⟩ := RowAt.sl hR
  have HF := Aside0.mk (show ∀ ad, A = some ad → ad = ⟨ad.block, 0, none⟩ ∧ Lay w.cell? ((D.list dA l).mark T k) ad.block 0 ∧ ∀ b ∈ bl w.cell? ((D.list dA l).mark T k) ad.block 0, b < w.heap.size from fun ad e => by
    subst e
    rcases hR with ⟨hv, _⟩ | ⟨a, cap', e, _, _, hL⟩
    · cases hv
    · cases e
      exact ⟨rfl, hL, fun b hq => hB b (List.mem_cons_of_mem _ hq)⟩)
  have HS := Aside0.mk (show A = none → l.length = 0 from fun e => by
    subst e
    rcases hR with ⟨_, hv, _⟩ | ⟨a, cap', e, _⟩
    · exact hv
    · cases e)
  have HKB := Aside0.mk h1
  revert HKB
  generalize hKF : k + ((D.list dA l).cnt : Int) = KF
  intro HKB
  have H0 := Aside0.mk h0
  have HT := Aside0.mk hT
  have hK := Aside0.mk hKF
  clear hR hB h0 h1 hKF hT
  subst hkk
  go_enter Try.func66, Try.ntmps66
  go_wp2
  go_loopg [1, 5] l.length (fun gg v1 v5 wr => ∃ (x1 x5 : Int), v1 = .int .i64 x1 ∧ v5 = .int .i64 x5 ∧ Aside0 (0 ≤ x5 ∧ x5 ≤ l.length ∧ l.length - x5.toNat ≤ gg) ∧ Aside0 (0 < x1 ∧ x1 + ((D.list dA (l.drop x5.toNat)).cnt : Int) = KF) ∧ Aside0 (∀ ad, A = some ad → ad = ⟨ad.block, 0, none⟩ ∧ Lay w.cell? ((D.list dA (l.drop x5.toNat)).mark T x1) ad.block (x5.toNat * 5) ∧ ∀ b ∈ bl w.cell? ((D.list dA (l.drop x5.toNat)).mark T x1) ad.block (x5.toNat * 5), b < w.heap.size) ∧ Aside0 (Below w.heap.size w wr))
  case atStart => exact ⟨k', 0, rfl, rfl, ⟨⟨by omega, by omega, by omega⟩⟩, ⟨⟨H0.out, by simpa using hK.out⟩⟩, ⟨by simpa using HF.out⟩, ⟨Below.refl _ _⟩⟩
  case round =>
    clear HF
    obtain ⟨x1, x5, rfl, rfl, HX, HK, HO, HB⟩ := hrel
    by_cases hlt : x5 < (l.length : Int)
    · have hltb : decide (x5 < (l.length : Int)) = true := decide_eq_true hlt
      have p6 : (0 ≤ x5) = True := eq_true HX.out.1
      have q6 : (x5 < (l.length : Int)) = True := eq_true hlt
      have hj : x5.toNat < l.length := by have := HX.out.1; omega
      obtain ⟨ad, ead⟩ : ∃ ad, A = some ad := by
        cases A with
        | none => have := HS.out rfl; omega
        | some ad => exact ⟨ad, rfl⟩
      obtain ⟨e0_, hl, hb⟩ := HO.out ad ead
      obtain ⟨g, rfl⟩ : ∃ g, ad = ⟨g, 0, none⟩ := ⟨_, e0_⟩
      subst ead
      clear e0_
      have hKx := HK.out
      have hyl : l[x5.toNat] ∈ l := List.getElem_mem hj
      have hnx : x5.toNat + 1 = (x5 + 1).toNat := by have := HX.out.1; omega
      rw [List.drop_eq_getElem_cons hj] at hl hb hKx
      rw [hnx] at hl hb hKx
      generalize l[x5.toNat] = y at hl hb hKx hyl
      obtain ⟨A3, c3, A4, c4, e0, e1, e2, e3, e4, h3, h4, hbl⟩ := openMA hl.1
      have hbl2 : ∀ b ∈ bl w.cell? ((dA y).mark T x1) g (x5.toNat * 5) ++ bl w.cell? ((D.list dA (l.drop (x5 + 1).toNat)).mark T (x1 + ((dA y).cnt : Int))) g (x5.toNat * 5 + ((dA y).mark T x1).sz), b < w.heap.size := hb
      have B3 := Aside0.mk (show ∀ b ∈ rbl w.cell? ((D.list dV y.f1.f2).mark T (x1 + 1 + 1 + 1)) (.slice A3 y.f1.f2.length c3), b < w.heap.size from fun b hq => hbl2 b (List.mem_append_left _ (by rw [hbl]; exact List.mem_append_left _ hq)))
      have B4 := Aside0.mk (show ∀ b ∈ rbl w.cell? ((D.list dT y.f1.f3).mark T (x1 + 1 + 1 + 1 + ((D.list dV y.f1.f2).cnt : Int))) (.slice A4 y.f1.f3.length c4), b < w.heap.size from fun b hq => hbl2 b (List.mem_append_left _ (by rw [hbl]; exact List.mem_append_right _ (List.mem_append_left _ hq))))
      have hcy := cntA y
      have hcl : (D.list dA (y :: l.drop (x5 + 1).toNat)).cnt = (dA y).cnt + (D.list dA (l.drop (x5 + 1).toNat)).cnt := rfl
      rw [hcl, hcy] at hKx
      have hO2 : Lay w.cell? ((D.list dA (l.drop (x5 + 1).toNat)).mark T (x1 + ((dA y).cnt : Int))) g (x5.toNat * 5 + ((dA y).mark T x1).sz) ∧ ∀ b ∈ bl w.cell? ((D.list dA (l.drop (x5 + 1).toNat)).mark T (x1 + ((dA y).cnt : Int))) g (x5.toNat * 5 + ((dA y).mark T x1).sz), b < w.heap.size := ⟨hl.2, fun b hq => hbl2 b (List.mem_append_right _ hq)⟩
      rw [D.sz_mark, hcy, szA, show x5.toNat * 5 + 5 = (x5 + 1).toNat * 5 by rw [← hnx]; omega, show x1 + (((3 + (D.list dV y.f1.f2).cnt + (D.list dT y.f1.f3).cnt : Nat)) : Int) = x1 + 1 + 1 + 1 + ((D.list dV y.f1.f2).cnt : Int) + ((D.list dT y.f1.f3).cnt : Int) by omega] at hO2
      have HO2 := Aside0.mk hO2
      have HKx := Aside0.mk hKx
      have WW0 := Aside0.mk (show wrap64 (x1 + 1) = x1 + 1 by unfold wrap64; have := HK.out.1; have := HKx.out; have := HKB.out; omega)
      have WW1 := Aside0.mk (show wrap64 (x1 + 1 + 1) = x1 + 1 + 1 by unfold wrap64; have := HK.out.1; have := HKx.out; have := HKB.out; omega)
      have WW2 := Aside0.mk (show wrap64 (x1 + 1 + 1 + 1) = x1 + 1 + 1 + 1 by unfold wrap64; have := HK.out.1; have := HKx.out; have := HKB.out; omega)
      have W0 := Aside0.mk (show wrap64 (x5 + 1) = x5 + 1 by unfold wrap64; have := HX.out.1; omega)
      have C3 := Aside0.mk hlt
      have E0 := Aside0.mk e0
      have E1 := Aside0.mk e1
      have E2 := Aside0.mk e2
      have E3 := Aside0.mk e3
      have E4 := Aside0.mk e4
      have R3 := Aside0.mk h3
      have R4 := Aside0.mk h4
      have HY := Aside0.mk hyl
      clear HO hO2 hKx hcl hcy hl hb hbl2 hj hnx hyl hlt hbl e0 e1 e2 e3 e4 h3 h4
      try go_wp2
      have n0_ := Aside0.mk (below_drew1 HB.out)
      clear HB
      have HB := n0_
      clear n0_
      refine start_ (n := 8) (S := fun w' => w'.cell? ⟨g, x5.toNat * 5, none⟩ = some (.string (T (x1)))) (ds := []) #[false, false, false, false, false, false, false, false] (by kernel_rfl) rfl rfl ((HB.out.cell (World.block_lt_of_cell? w _ E0.out)).trans E0.out) (fun hHeld => ?_)
      generalize wr.drew = wd0 at HB hHeld ⊢
      refine pure_ (i := 0) (N := some 12) (v := ?_) (a' := ?_) #[true, false, false, false, false, false, false, false] rfl rfl (by kernel_rfl) (fun _ _ _ h => h) (Or.inl ⟨by rfl, ?_⟩) ?_ ?_
      rotate_left
      · intro w'
        go_simp
        with_reducible rfl
      rotate_left
      · simp only [Act.put, List.setIfInBounds_toArray, List.set_cons_zero, List.set_cons_succ, i64_w, i32_w]
        rfl
      refine pure_ (i := 1) (N := some 13) (v := ?_) (a' := ?_) #[true, true, false, false, false, false, false, false] rfl rfl (by kernel_rfl) (fun _ _ _ h => h) (Or.inl ⟨by rfl, ?_⟩) ?_ ?_
      rotate_left
      · intro w'
        go_simp
        with_reducible rfl
      rotate_left
      · simp only [Act.put, List.setIfInBounds_toArray, List.set_cons_zero, List.set_cons_succ, i64_w, i32_w]
        rfl
      refine pure_ (i := 2) (N := some 14) (v := ?_) (a' := ?_) #[true, true, true, false, false, false, false, false] rfl rfl (by kernel_rfl) (fun _ _ _ h => h) (Or.inl ⟨by rfl, ?_⟩) ?_ ?_
      rotate_left
      · intro w'
        go_simp
        with_reducible rfl
      rotate_left
      · simp only [Act.put, List.setIfInBounds_toArray, List.set_cons_zero, List.set_cons_succ, i64_w, i32_w]
        rfl
      refine pure_ (i := 3) (N := some 15) (v := ?_) (a' := ?_) #[true, true, true, true, false, false, false, false] rfl rfl (by kernel_rfl) (fun _ _ _ h => h) (Or.inl ⟨by rfl, ?_⟩) ?_ ?_
      rotate_left
      · intro w'
        go_simp
        with_reducible rfl
      rotate_left
      · simp only [Act.put, List.setIfInBounds_toArray, List.set_cons_zero, List.set_cons_succ, i64_w, i32_w]
        rfl
      refine pure_ (i := 5) (N := some 17) (v := ?_) (a' := ?_) #[true, true, true, true, false, true, false, false] rfl rfl (by kernel_rfl) (fun _ _ _ h => h) (Or.inl ⟨by rfl, ?_⟩) ?_ ?_
      rotate_left
      · intro w'
        go_simp
        with_reducible rfl
      rotate_left
      · simp only [Act.put, List.setIfInBounds_toArray, List.set_cons_zero, List.set_cons_succ, i64_w, i32_w]
        rfl
      refine take_ (i := 4) (N := some 16) (v := ?_) (a' := ?_) #[true, true, true, true, true, true, false, false] rfl rfl (by kernel_rfl) (fun _ _ _ h => h) (Or.inl ⟨by rfl, ?_⟩) hHeld ?_ ?_
      rotate_left
      · intro w' s0
        go_simp
        with_reducible rfl
      rotate_left
      · simp only [Act.put, List.setIfInBounds_toArray, List.set_cons_zero, List.set_cons_succ, i64_w, i32_w]
        rfl
      refine one_ (i := 6) (N := some 18) #[true, true, true, true, true, true, true, false] rfl rfl (by kernel_rfl) (by decide) (fun K hK => ?_)
      refine goes_ Try.func52 (by kernel_rfl) rfl #[.int .i64 (x1)] (by rfl) rfl rfl (by (try simp only [List.map_toArray, List.map_cons, List.map_nil]); first | done | rfl) ?_
      with_reducible refine (HT.out _ (x1) _ (rfl) (by have := HK.out.1; omega) (by have := HKx.out; have := HKB.out; omega)).mono ?_
      rintro e wt0 ⟨rfl, hb⟩
      refine ⟨_, rfl, ?_⟩
      have n0_ := Aside0.mk (below_step HB.out hb)
      clear HB hb
      have HB := n0_
      clear n0_
      refine hK.out _ _ ((HB.out.cell (World.block_lt_of_cell? w _ E0.out)).trans E0.out) (fun hHeld => ?_)
      clear hK K
      have n0a : ((T (x1)).toList != (T (x1)).toList) = false := by simp
      have n0b : ((T (x1)).toList == (T (x1)).toList) = true := by simp
      refine norm_ (a' := ?_) ?_ ?_
      rotate_left
      · show Act.put _ (some 18) _ = _
        simp only [Act.put, List.setIfInBounds_toArray, List.set_cons_zero, List.set_cons_succ, i64_w, i32_w]
        rfl
      refine pure_ (i := 7) (N := some 19) (v := ?_) (a' := ?_) #[true, true, true, true, true, true, true, true] rfl rfl (by kernel_rfl) (fun _ _ _ h => h) (Or.inl ⟨by rfl, ?_⟩) ?_ ?_
      rotate_left
      · intro w'
        go_simp
        with_reducible rfl
      rotate_left
      · simp only [Act.put, List.setIfInBounds_toArray, List.set_cons_zero, List.set_cons_succ, i64_w, i32_w]
        rfl
      refine done_ (by kernel_rfl) ?_
      clear hHeld
      have hx1 := (HB.out.cell (World.block_lt_of_cell? w _ E1.out)).trans E1.out
      have n1a : ((x1 + 1 : Int) != wrap64 (x1 + 1)) = false := bne_eq_false_iff_eq.mpr (by rw [WW0.out] : (wrap64 (x1 + 1) : Int) = x1 + 1).symm
      have n1b : ((x1 + 1 : Int) == wrap64 (x1 + 1)) = true := beq_iff_eq.mpr (by rw [WW0.out] : (wrap64 (x1 + 1) : Int) = x1 + 1).symm
      have n1c : ((x1 + 1 : Int) = wrap64 (x1 + 1)) = True := eq_true (by rw [WW0.out] : (wrap64 (x1 + 1) : Int) = x1 + 1).symm
      try go_wp2
      clear n0a n0b hx1 n1a n1b n1c
      have n0_ := Aside0.mk (below_drew1 HB.out)
      clear HB
      have HB := n0_
      clear n0_
      refine start_ (n := 9) (S := fun w' => w'.cell? ⟨g, x5.toNat * 5 + 2, none⟩ = some (.string (T (x1 + 1 + 1)))) (ds := []) #[false, false, false, false, false, false, false, false, false] (by kernel_rfl) rfl rfl ((HB.out.cell (World.block_lt_of_cell? w _ E2.out)).trans E2.out) (fun hHeld => ?_)
      generalize wt0.drew = wd2 at HB hHeld ⊢
      refine pure_ (i := 0) (N := some 32) (v := ?_) (a' := ?_) #[true, false, false, false, false, false, false, false, false] rfl rfl (by kernel_rfl) (fun _ _ _ h => h) (Or.inl ⟨by rfl, ?_⟩) ?_ ?_
      rotate_left
      · intro w'
        go_simp
        with_reducible rfl
      rotate_left
      · simp only [Act.put, List.setIfInBounds_toArray, List.set_cons_zero, List.set_cons_succ, i64_w, i32_w]
        rfl
      refine pure_ (i := 1) (N := some 33) (v := ?_) (a' := ?_) #[true, true, false, false, false, false, false, false, false] rfl rfl (by kernel_rfl) (fun _ _ _ h => h) (Or.inl ⟨by rfl, ?_⟩) ?_ ?_
      rotate_left
      · intro w'
        go_simp
        with_reducible rfl
      rotate_left
      · simp only [Act.put, List.setIfInBounds_toArray, List.set_cons_zero, List.set_cons_succ, i64_w, i32_w]
        rfl
      refine pure_ (i := 2) (N := some 34) (v := ?_) (a' := ?_) #[true, true, true, false, false, false, false, false, false] rfl rfl (by kernel_rfl) (fun _ _ _ h => h) (Or.inl ⟨by rfl, ?_⟩) ?_ ?_
      rotate_left
      · intro w'
        go_simp
        with_reducible rfl
      rotate_left
      · simp only [Act.put, List.setIfInBounds_toArray, List.set_cons_zero, List.set_cons_succ, i64_w, i32_w]
        rfl
      refine pure_ (i := 3) (N := some 35) (v := ?_) (a' := ?_) #[true, true, true, true, false, false, false, false, false] rfl rfl (by kernel_rfl) (fun _ _ _ h => h) (Or.inl ⟨by rfl, ?_⟩) ?_ ?_
      rotate_left
      · intro w'
        go_simp
        with_reducible rfl
      rotate_left
      · simp only [Act.put, List.setIfInBounds_toArray, List.set_cons_zero, List.set_cons_succ, i64_w, i32_w]
        rfl
      refine pure_ (i := 4) (N := some 36) (v := ?_) (a' := ?_) #[true, true, true, true, true, false, false, false, false] rfl rfl (by kernel_rfl) (fun _ _ _ h => h) (Or.inl ⟨by rfl, ?_⟩) ?_ ?_
      rotate_left
      · intro w'
        go_simp
        with_reducible rfl
      rotate_left
      · simp only [Act.put, List.setIfInBounds_toArray, List.set_cons_zero, List.set_cons_succ, i64_w, i32_w]
        rfl
      refine pure_ (i := 6) (N := some 38) (v := ?_) (a' := ?_) #[true, true, true, true, true, false, true, false, false] rfl rfl (by kernel_rfl) (fun _ _ _ h => h) (Or.inl ⟨by rfl, ?_⟩) ?_ ?_
      rotate_left
      · intro w'
        go_simp
        with_reducible rfl
      rotate_left
      · simp only [Act.put, List.setIfInBounds_toArray, List.set_cons_zero, List.set_cons_succ, i64_w, i32_w]
        rfl
      refine take_ (i := 5) (N := some 37) (v := ?_) (a' := ?_) #[true, true, true, true, true, true, true, false, false] rfl rfl (by kernel_rfl) (fun _ _ _ h => h) (Or.inl ⟨by rfl, ?_⟩) hHeld ?_ ?_
      rotate_left
      · intro w' s0
        go_simp
        with_reducible rfl
      rotate_left
      · simp only [Act.put, List.setIfInBounds_toArray, List.set_cons_zero, List.set_cons_succ, i64_w, i32_w]
        rfl
      refine one_ (i := 7) (N := some 39) #[true, true, true, true, true, true, true, true, false] rfl rfl (by kernel_rfl) (by decide) (fun K hK => ?_)
      refine goes_ Try.func52 (by kernel_rfl) rfl #[.int .i64 (wrap64 (wrap64 (x1 + 1) + 1))] (by rfl) rfl rfl (by (try simp only [List.map_toArray, List.map_cons, List.map_nil]); first | done | rfl) ?_
      with_reducible refine (HT.out _ (x1 + 1 + 1) _ (by rw [WW0.out, WW1.out]) (by have := HK.out.1; omega) (by have := HKx.out; have := HKB.out; omega)).mono ?_
      rintro e wt2 ⟨rfl, hb⟩
      refine ⟨_, rfl, ?_⟩
      have n0_ := Aside0.mk (below_step HB.out hb)
      clear HB hb
      have HB := n0_
      clear n0_
      refine hK.out _ _ ((HB.out.cell (World.block_lt_of_cell? w _ E2.out)).trans E2.out) (fun hHeld => ?_)
      clear hK K
      have n2a : ((T (x1 + 1 + 1)).toList != (T (x1 + 1 + 1)).toList) = false := by simp
      have n2b : ((T (x1 + 1 + 1)).toList == (T (x1 + 1 + 1)).toList) = true := by simp
      refine norm_ (a' := ?_) ?_ ?_
      rotate_left
      · show Act.put _ (some 39) _ = _
        simp only [Act.put, List.setIfInBounds_toArray, List.set_cons_zero, List.set_cons_succ, i64_w, i32_w]
        rfl
      refine pure_ (i := 8) (N := some 40) (v := ?_) (a' := ?_) #[true, true, true, true, true, true, true, true, true] rfl rfl (by kernel_rfl) (fun _ _ _ h => h) (Or.inl ⟨by rfl, ?_⟩) ?_ ?_
      rotate_left
      · intro w'
        go_simp
        with_reducible rfl
      rotate_left
      · simp only [Act.put, List.setIfInBounds_toArray, List.set_cons_zero, List.set_cons_succ, i64_w, i32_w]
        rfl
      refine done_ (by kernel_rfl) ?_
      clear hHeld
      have hx3 := (HB.out.cell (World.block_lt_of_cell? w _ E3.out)).trans E3.out
      have l3a : decide (x1 + 1 + 1 + 1 + ((D.list dV y.f1.f2).cnt : Int) < 0) = false := decide_eq_false (by have := HK.out.1; omega)
      have l3b : (x1 + 1 + 1 + 1 + ((D.list dV y.f1.f2).cnt : Int) < 0) = False := eq_false (by have := HK.out.1; omega)
      have l4a : decide (x1 + 1 + 1 + 1 + ((D.list dV y.f1.f2).cnt : Int) + ((D.list dT y.f1.f3).cnt : Int) < 0) = false := decide_eq_false (by have := HK.out.1; omega)
      have l4b : (x1 + 1 + 1 + 1 + ((D.list dV y.f1.f2).cnt : Int) + ((D.list dT y.f1.f3).cnt : Int) < 0) = False := eq_false (by have := HK.out.1; omega)
      go_wp2_with (first
        | ((with_reducible refine gate_callee (f := 77) rfl ?_); refine goesL_ (some 50) rfl rfl Try.func77 (by kernel_rfl) rfl #[.slice A3 y.f1.f2.length c3, .int .i64 (wrap64 (wrap64 (wrap64 (x1 + 1) + 1) + 1))] rfl (by (try simp only [List.map_toArray, List.map_cons, List.map_nil]); first | done | rfl) ?_
           obtain ⟨r3, b3⟩ := RowAt.later R3.out B3.out HB.out
           (with_reducible refine (heldV HT.out y.f1.f2 _ (x1 + 1 + 1 + 1) _ _ (by rw [WW0.out, WW1.out, WW2.out]) r3 b3 (by have := HK.out.1; omega) (by have := HKx.out; have := HKB.out; omega)).mono ?_)
           rintro e wc3 ⟨rfl, hb⟩
           refine ⟨_, rfl, ?_⟩
           clear r3 b3 hx3
           have n0_ := Aside0.mk (below_step HB.out hb)
           clear HB hb
           have HB := n0_
           clear n0_
           have hx4 := (HB.out.cell (World.block_lt_of_cell? w _ E4.out)).trans E4.out)
        | ((with_reducible refine gate_callee (f := 21) rfl ?_); refine goesL_ (some 60) rfl rfl Try.func21 (by kernel_rfl) rfl #[.slice A4 y.f1.f3.length c4, .int .i64 (x1 + 1 + 1 + 1 + ((D.list dV y.f1.f2).cnt : Int))] rfl (by (try simp only [List.map_toArray, List.map_cons, List.map_nil]); first | done | rfl) ?_
           obtain ⟨r4, b4⟩ := RowAt.later R4.out B4.out HB.out
           (with_reducible refine (heldT HT.out y.f1.f3 _ (x1 + 1 + 1 + 1 + ((D.list dV y.f1.f2).cnt : Int)) _ _ (rfl) r4 b4 (by have := HK.out.1; omega) (by have := HKx.out; have := HKB.out; omega)).mono ?_)
           rintro e wc4 ⟨rfl, hb⟩
           refine ⟨_, rfl, ?_⟩
           clear r4 b4 hx4
           have n0_ := Aside0.mk (below_step HB.out hb)
           clear HB hb
           have HB := n0_
           clear n0_))
      go_roundg (l.length - (x5 + 1).toNat)
      case measure => have := HX.out; have := C3.out; omega
      case rel => exact ⟨x1 + 1 + 1 + 1 + ((D.list dV y.f1.f2).cnt : Int) + ((D.list dT y.f1.f3).cnt : Int), x5 + 1, rfl, by rw [W0.out], ⟨⟨by have := HX.out; omega, by have := C3.out; omega, by omega⟩⟩, ⟨⟨by have := HK.out.1; omega, by have := HKx.out; omega⟩⟩, ⟨fun ad e => by cases e; exact ⟨rfl, HO2.out⟩⟩, HB⟩
    · have hltb : decide (x5 < (l.length : Int)) = false := decide_eq_false hlt
      have hKx := HK.out.2
      rw [List.drop_eq_nil_of_le (by omega)] at hKx
      have hk : x1 = KF := by simpa [D.list, D.cnt] using hKx
      subst hk
      clear hKx hlt HO HK
      go_wp2
      go_ret
      exact ⟨rfl, HB.out⟩
set_option maxHeartbeats 4000000 in
set_option maxRecDepth 100000 in
theorem heldD {T : Int → ByteArray} (hT : TextC T) : ∀ l : List S95, HeldC T 67 dD l := by
  intro l
  intro v k k' w hkk hR hB h0 h1
  obtain ⟨A, cap, rfl, hn, hm⟩ := RowAt.sl hR
  have HF := Aside0.mk (show ∀ ad, A = some ad → ad = ⟨ad.block, 0, none⟩ ∧ Lay w.cell? ((D.list dD l).mark T k) ad.block 0 ∧ ∀ b ∈ bl w.cell? ((D.list dD l).mark T k) ad.block 0, b < w.heap.size from fun ad e => by
    subst e
    rcases hR with ⟨hv, _⟩ | ⟨a, cap', e, _, _, hL⟩
    · cases hv
    · cases e
      exact ⟨rfl, hL, fun b hq => hB b (List.mem_cons_of_mem _ hq)⟩)
  have HS := Aside0.mk (show A = none → l.length = 0 from fun e => by
    subst e
    rcases hR with ⟨_, hv, _⟩ | ⟨a, cap', e, _⟩
    · exact hv
    · cases e)
  have HKB := Aside0.mk h1
  revert HKB
  generalize hKF : k + ((D.list dD l).cnt : Int) = KF
  intro HKB
  have H0 := Aside0.mk h0
  have HT := Aside0.mk hT
  have hK := Aside0.mk hKF
  clear hR hB h0 h1 hKF hT
  subst hkk
  go_enter Try.func67, Try.ntmps67
  go_wp2
  go_loopg [1, 5] l.length (fun gg v1 v5 wr => ∃ (x1 x5 : Int), v1 = .int .i64 x1 ∧ v5 = .int .i64 x5 ∧ Aside0 (0 ≤ x5 ∧ x5 ≤ l.length ∧ l.length - x5.toNat ≤ gg) ∧ Aside0 (0 < x1 ∧ x1 + ((D.list dD (l.drop x5.toNat)).cnt : Int) = KF) ∧ Aside0 (∀ ad, A = some ad → ad = ⟨ad.block, 0, none⟩ ∧ Lay w.cell? ((D.list dD (l.drop x5.toNat)).mark T x1) ad.block (x5.toNat * 2) ∧ ∀ b ∈ bl w.cell? ((D.list dD (l.drop x5.toNat)).mark T x1) ad.block (x5.toNat * 2), b < w.heap.size) ∧ Aside0 (Below w.heap.size w wr))
  case atStart => exact ⟨k', 0, rfl, rfl, ⟨⟨by omega, by omega, by omega⟩⟩, ⟨⟨H0.out, by simpa using hK.out⟩⟩, ⟨by simpa using HF.out⟩, ⟨Below.refl _ _⟩⟩
  case round =>
    clear HF
    obtain ⟨x1, x5, rfl, rfl, HX, HK, HO, HB⟩ := hrel
    by_cases hlt : x5 < (l.length : Int)
    · have hltb : decide (x5 < (l.length : Int)) = true := decide_eq_true hlt
      have p6 : (0 ≤ x5) = True := eq_true HX.out.1
      have q6 : (x5 < (l.length : Int)) = True := eq_true hlt
      have hj : x5.toNat < l.length := by have := HX.out.1; omega
      obtain ⟨ad, ead⟩ : ∃ ad, A = some ad := by
        cases A with
        | none => have := HS.out rfl; omega
        | some ad => exact ⟨ad, rfl⟩
      obtain ⟨e0_, hl, hb⟩ := HO.out ad ead
      obtain ⟨g, rfl⟩ : ∃ g, ad = ⟨g, 0, none⟩ := ⟨_, e0_⟩
      subst ead
      clear e0_
      have hKx := HK.out
      have hyl : l[x5.toNat] ∈ l := List.getElem_mem hj
      have hnx : x5.toNat + 1 = (x5 + 1).toNat := by have := HX.out.1; omega
      rw [List.drop_eq_getElem_cons hj] at hl hb hKx
      rw [hnx] at hl hb hKx
      generalize l[x5.toNat] = y at hl hb hKx hyl
      obtain ⟨A1, c1, e0, e1, h1, hbl⟩ := openMD hl.1
      have hbl2 : ∀ b ∈ bl w.cell? ((dD y).mark T x1) g (x5.toNat * 2) ++ bl w.cell? ((D.list dD (l.drop (x5 + 1).toNat)).mark T (x1 + ((dD y).cnt : Int))) g (x5.toNat * 2 + ((dD y).mark T x1).sz), b < w.heap.size := hb
      have B1 := Aside0.mk (show ∀ b ∈ rbl w.cell? ((D.list dA y.f1).mark T (x1 + 1)) (.slice A1 y.f1.length c1), b < w.heap.size from fun b hq => hbl2 b (List.mem_append_left _ (by rw [hbl]; exact List.mem_append_left _ hq)))
      have hcy := cntD y
      have hcl : (D.list dD (y :: l.drop (x5 + 1).toNat)).cnt = (dD y).cnt + (D.list dD (l.drop (x5 + 1).toNat)).cnt := rfl
      rw [hcl, hcy] at hKx
      have hO2 : Lay w.cell? ((D.list dD (l.drop (x5 + 1).toNat)).mark T (x1 + ((dD y).cnt : Int))) g (x5.toNat * 2 + ((dD y).mark T x1).sz) ∧ ∀ b ∈ bl w.cell? ((D.list dD (l.drop (x5 + 1).toNat)).mark T (x1 + ((dD y).cnt : Int))) g (x5.toNat * 2 + ((dD y).mark T x1).sz), b < w.heap.size := ⟨hl.2, fun b hq => hbl2 b (List.mem_append_right _ hq)⟩
      rw [D.sz_mark, hcy, szD, show x5.toNat * 2 + 2 = (x5 + 1).toNat * 2 by rw [← hnx]; omega, show x1 + (((1 + (D.list dA y.f1).cnt : Nat)) : Int) = x1 + 1 + ((D.list dA y.f1).cnt : Int) by omega] at hO2
      have HO2 := Aside0.mk hO2
      have HKx := Aside0.mk hKx
      have WW0 := Aside0.mk (show wrap64 (x1 + 1) = x1 + 1 by unfold wrap64; have := HK.out.1; have := HKx.out; have := HKB.out; omega)
      have W0 := Aside0.mk (show wrap64 (x5 + 1) = x5 + 1 by unfold wrap64; have := HX.out.1; omega)
      have C3 := Aside0.mk hlt
      have E0 := Aside0.mk e0
      have E1 := Aside0.mk e1
      have R1 := Aside0.mk h1
      have HY := Aside0.mk hyl
      clear HO hO2 hKx hcl hcy hl hb hbl2 hj hnx hyl hlt hbl e0 e1 h1
      try go_wp2
      have n0_ := Aside0.mk (below_drew1 HB.out)
      clear HB
      have HB := n0_
      clear n0_
      refine start_ (n := 8) (S := fun w' => w'.cell? ⟨g, x5.toNat * 2, none⟩ = some (.string (T (x1)))) (ds := []) #[false, false, false, false, false, false, false, false] (by kernel_rfl) rfl rfl ((HB.out.cell (World.block_lt_of_cell? w _ E0.out)).trans E0.out) (fun hHeld => ?_)
      generalize wr.drew = wd0 at HB hHeld ⊢
      refine pure_ (i := 0) (N := some 12) (v := ?_) (a' := ?_) #[true, false, false, false, false, false, false, false] rfl rfl (by kernel_rfl) (fun _ _ _ h => h) (Or.inl ⟨by rfl, ?_⟩) ?_ ?_
      rotate_left
      · intro w'
        go_simp
        with_reducible rfl
      rotate_left
      · simp only [Act.put, List.setIfInBounds_toArray, List.set_cons_zero, List.set_cons_succ, i64_w, i32_w]
        rfl
      refine pure_ (i := 1) (N := some 13) (v := ?_) (a' := ?_) #[true, true, false, false, false, false, false, false] rfl rfl (by kernel_rfl) (fun _ _ _ h => h) (Or.inl ⟨by rfl, ?_⟩) ?_ ?_
      rotate_left
      · intro w'
        go_simp
        with_reducible rfl
      rotate_left
      · simp only [Act.put, List.setIfInBounds_toArray, List.set_cons_zero, List.set_cons_succ, i64_w, i32_w]
        rfl
      refine pure_ (i := 2) (N := some 14) (v := ?_) (a' := ?_) #[true, true, true, false, false, false, false, false] rfl rfl (by kernel_rfl) (fun _ _ _ h => h) (Or.inl ⟨by rfl, ?_⟩) ?_ ?_
      rotate_left
      · intro w'
        go_simp
        with_reducible rfl
      rotate_left
      · simp only [Act.put, List.setIfInBounds_toArray, List.set_cons_zero, List.set_cons_succ, i64_w, i32_w]
        rfl
      refine pure_ (i := 3) (N := some 15) (v := ?_) (a' := ?_) #[true, true, true, true, false, false, false, false] rfl rfl (by kernel_rfl) (fun _ _ _ h => h) (Or.inl ⟨by rfl, ?_⟩) ?_ ?_
      rotate_left
      · intro w'
        go_simp
        with_reducible rfl
      rotate_left
      · simp only [Act.put, List.setIfInBounds_toArray, List.set_cons_zero, List.set_cons_succ, i64_w, i32_w]
        rfl
      refine pure_ (i := 5) (N := some 17) (v := ?_) (a' := ?_) #[true, true, true, true, false, true, false, false] rfl rfl (by kernel_rfl) (fun _ _ _ h => h) (Or.inl ⟨by rfl, ?_⟩) ?_ ?_
      rotate_left
      · intro w'
        go_simp
        with_reducible rfl
      rotate_left
      · simp only [Act.put, List.setIfInBounds_toArray, List.set_cons_zero, List.set_cons_succ, i64_w, i32_w]
        rfl
      refine take_ (i := 4) (N := some 16) (v := ?_) (a' := ?_) #[true, true, true, true, true, true, false, false] rfl rfl (by kernel_rfl) (fun _ _ _ h => h) (Or.inl ⟨by rfl, ?_⟩) hHeld ?_ ?_
      rotate_left
      · intro w' s0
        go_simp
        with_reducible rfl
      rotate_left
      · simp only [Act.put, List.setIfInBounds_toArray, List.set_cons_zero, List.set_cons_succ, i64_w, i32_w]
        rfl
      refine one_ (i := 6) (N := some 18) #[true, true, true, true, true, true, true, false] rfl rfl (by kernel_rfl) (by decide) (fun K hK => ?_)
      refine goes_ Try.func52 (by kernel_rfl) rfl #[.int .i64 (x1)] (by rfl) rfl rfl (by (try simp only [List.map_toArray, List.map_cons, List.map_nil]); first | done | rfl) ?_
      with_reducible refine (HT.out _ (x1) _ (rfl) (by have := HK.out.1; omega) (by have := HKx.out; have := HKB.out; omega)).mono ?_
      rintro e wt0 ⟨rfl, hb⟩
      refine ⟨_, rfl, ?_⟩
      have n0_ := Aside0.mk (below_step HB.out hb)
      clear HB hb
      have HB := n0_
      clear n0_
      refine hK.out _ _ ((HB.out.cell (World.block_lt_of_cell? w _ E0.out)).trans E0.out) (fun hHeld => ?_)
      clear hK K
      have n0a : ((T (x1)).toList != (T (x1)).toList) = false := by simp
      have n0b : ((T (x1)).toList == (T (x1)).toList) = true := by simp
      refine norm_ (a' := ?_) ?_ ?_
      rotate_left
      · show Act.put _ (some 18) _ = _
        simp only [Act.put, List.setIfInBounds_toArray, List.set_cons_zero, List.set_cons_succ, i64_w, i32_w]
        rfl
      refine pure_ (i := 7) (N := some 19) (v := ?_) (a' := ?_) #[true, true, true, true, true, true, true, true] rfl rfl (by kernel_rfl) (fun _ _ _ h => h) (Or.inl ⟨by rfl, ?_⟩) ?_ ?_
      rotate_left
      · intro w'
        go_simp
        with_reducible rfl
      rotate_left
      · simp only [Act.put, List.setIfInBounds_toArray, List.set_cons_zero, List.set_cons_succ, i64_w, i32_w]
        rfl
      refine done_ (by kernel_rfl) ?_
      clear hHeld
      have hx1 := (HB.out.cell (World.block_lt_of_cell? w _ E1.out)).trans E1.out
      have l1a : decide (x1 + 1 + ((D.list dA y.f1).cnt : Int) < 0) = false := decide_eq_false (by have := HK.out.1; omega)
      have l1b : (x1 + 1 + ((D.list dA y.f1).cnt : Int) < 0) = False := eq_false (by have := HK.out.1; omega)
      go_wp2_with (first
        | ((with_reducible refine gate_callee (f := 66) rfl ?_); refine goesL_ (some 28) rfl rfl Try.func66 (by kernel_rfl) rfl #[.slice A1 y.f1.length c1, .int .i64 (wrap64 (x1 + 1))] rfl (by (try simp only [List.map_toArray, List.map_cons, List.map_nil]); first | done | rfl) ?_
           obtain ⟨r1, b1⟩ := RowAt.later R1.out B1.out HB.out
           (with_reducible refine (heldA HT.out y.f1 _ (x1 + 1) _ _ (by rw [WW0.out]) r1 b1 (by have := HK.out.1; omega) (by have := HKx.out; have := HKB.out; omega)).mono ?_)
           rintro e wc1 ⟨rfl, hb⟩
           refine ⟨_, rfl, ?_⟩
           clear r1 b1 hx1
           have n0_ := Aside0.mk (below_step HB.out hb)
           clear HB hb
           have HB := n0_
           clear n0_))
      go_roundg (l.length - (x5 + 1).toNat)
      case measure => have := HX.out; have := C3.out; omega
      case rel => exact ⟨x1 + 1 + ((D.list dA y.f1).cnt : Int), x5 + 1, rfl, by rw [W0.out], ⟨⟨by have := HX.out; omega, by have := C3.out; omega, by omega⟩⟩, ⟨⟨by have := HK.out.1; omega, by have := HKx.out; omega⟩⟩, ⟨fun ad e => by cases e; exact ⟨rfl, HO2.out⟩⟩, HB⟩
    · have hltb : decide (x5 < (l.length : Int)) = false := decide_eq_false hlt
      have hKx := HK.out.2
      rw [List.drop_eq_nil_of_le (by omega)] at hKx
      have hk : x1 = KF := by simpa [D.list, D.cnt] using hKx
      subst hk
      clear hKx hlt HO HK
      go_wp2
      go_ret
      exact ⟨rfl, HB.out⟩
set_option maxHeartbeats 4000000 in
set_option maxRecDepth 100000 in
theorem heldS {T : Int → ByteArray} (hT : TextC T) : ∀ l : List S54, HeldC T 38 dS l := by
  refine indSs (fun l ih => ?_)
  intro v k k' w hkk hR hB h0 h1
  obtain ⟨A, cap, rfl, hn, hm⟩ := RowAt.sl hR
  have HF := Aside0.mk (show ∀ ad, A = some ad → ad = ⟨ad.block, 0, none⟩ ∧ Lay w.cell? ((D.list dS l).mark T k) ad.block 0 ∧ ∀ b ∈ bl w.cell? ((D.list dS l).mark T k) ad.block 0, b < w.heap.size from fun ad e => by
    subst e
    rcases hR with ⟨hv, _⟩ | ⟨a, cap', e, _, _, hL⟩
    · cases hv
    · cases e
      exact ⟨rfl, hL, fun b hq => hB b (List.mem_cons_of_mem _ hq)⟩)
  have HS := Aside0.mk (show A = none → l.length = 0 from fun e => by
    subst e
    rcases hR with ⟨_, hv, _⟩ | ⟨a, cap', e, _⟩
    · exact hv
    · cases e)
  have HKB := Aside0.mk h1
  revert HKB
  generalize hKF : k + ((D.list dS l).cnt : Int) = KF
  intro HKB
  have H0 := Aside0.mk h0
  have HT := Aside0.mk hT
  have hK := Aside0.mk hKF
  have IH := Aside0.mk ih
  clear hR hB h0 h1 hKF hT ih
  subst hkk
  go_enter Try.func38, Try.ntmps38
  go_wp2
  go_loopg [1, 5] l.length (fun gg v1 v5 wr => ∃ (x1 x5 : Int), v1 = .int .i64 x1 ∧ v5 = .int .i64 x5 ∧ Aside0 (0 ≤ x5 ∧ x5 ≤ l.length ∧ l.length - x5.toNat ≤ gg) ∧ Aside0 (0 < x1 ∧ x1 + ((D.list dS (l.drop x5.toNat)).cnt : Int) = KF) ∧ Aside0 (∀ ad, A = some ad → ad = ⟨ad.block, 0, none⟩ ∧ Lay w.cell? ((D.list dS (l.drop x5.toNat)).mark T x1) ad.block (x5.toNat * 7) ∧ ∀ b ∈ bl w.cell? ((D.list dS (l.drop x5.toNat)).mark T x1) ad.block (x5.toNat * 7), b < w.heap.size) ∧ Aside0 (Below w.heap.size w wr))
  case atStart => exact ⟨k', 0, rfl, rfl, ⟨⟨by omega, by omega, by omega⟩⟩, ⟨⟨H0.out, by simpa using hK.out⟩⟩, ⟨by simpa using HF.out⟩, ⟨Below.refl _ _⟩⟩
  case round =>
    clear HF
    obtain ⟨x1, x5, rfl, rfl, HX, HK, HO, HB⟩ := hrel
    by_cases hlt : x5 < (l.length : Int)
    · have hltb : decide (x5 < (l.length : Int)) = true := decide_eq_true hlt
      have p6 : (0 ≤ x5) = True := eq_true HX.out.1
      have q6 : (x5 < (l.length : Int)) = True := eq_true hlt
      have hj : x5.toNat < l.length := by have := HX.out.1; omega
      obtain ⟨ad, ead⟩ : ∃ ad, A = some ad := by
        cases A with
        | none => have := HS.out rfl; omega
        | some ad => exact ⟨ad, rfl⟩
      obtain ⟨e0_, hl, hb⟩ := HO.out ad ead
      obtain ⟨g, rfl⟩ : ∃ g, ad = ⟨g, 0, none⟩ := ⟨_, e0_⟩
      subst ead
      clear e0_
      have hKx := HK.out
      have hyl : l[x5.toNat] ∈ l := List.getElem_mem hj
      have hnx : x5.toNat + 1 = (x5 + 1).toNat := by have := HX.out.1; omega
      rw [List.drop_eq_getElem_cons hj] at hl hb hKx
      rw [hnx] at hl hb hKx
      generalize l[x5.toNat] = y at hl hb hKx hyl
      obtain ⟨A4, c4, A5, c5, A6, c6, e0, e1, e2, e3, e4, e5, e6, h4, h5, h6, hbl⟩ := openMS hl.1
      have hbl2 : ∀ b ∈ bl w.cell? ((dS y).mark T x1) g (x5.toNat * 7) ++ bl w.cell? ((D.list dS (l.drop (x5 + 1).toNat)).mark T (x1 + ((dS y).cnt : Int))) g (x5.toNat * 7 + ((dS y).mark T x1).sz), b < w.heap.size := hb
      have B4 := Aside0.mk (show ∀ b ∈ rbl w.cell? ((D.list dA y.f4).mark T (x1 + 1 + 1 + 1 + 1)) (.slice A4 y.f4.length c4), b < w.heap.size from fun b hq => hbl2 b (List.mem_append_left _ (by rw [hbl]; exact List.mem_append_left _ hq)))
      have B5 := Aside0.mk (show ∀ b ∈ rbl w.cell? ((D.list dD y.f5).mark T (x1 + 1 + 1 + 1 + 1 + ((D.list dA y.f4).cnt : Int))) (.slice A5 y.f5.length c5), b < w.heap.size from fun b hq => hbl2 b (List.mem_append_left _ (by rw [hbl]; exact List.mem_append_right _ (List.mem_append_left _ hq))))
      have B6 := Aside0.mk (show ∀ b ∈ rbl w.cell? ((D.list dS y.f6).mark T (x1 + 1 + 1 + 1 + 1 + ((D.list dA y.f4).cnt : Int) + ((D.list dD y.f5).cnt : Int))) (.slice A6 y.f6.length c6), b < w.heap.size from fun b hq => hbl2 b (List.mem_append_left _ (by rw [hbl]; exact List.mem_append_right _ (List.mem_append_right _ (List.mem_append_left _ hq)))))
      have hcy := cntS y
      have hcl : (D.list dS (y :: l.drop (x5 + 1).toNat)).cnt = (dS y).cnt + (D.list dS (l.drop (x5 + 1).toNat)).cnt := rfl
      rw [hcl, hcy] at hKx
      have hO2 : Lay w.cell? ((D.list dS (l.drop (x5 + 1).toNat)).mark T (x1 + ((dS y).cnt : Int))) g (x5.toNat * 7 + ((dS y).mark T x1).sz) ∧ ∀ b ∈ bl w.cell? ((D.list dS (l.drop (x5 + 1).toNat)).mark T (x1 + ((dS y).cnt : Int))) g (x5.toNat * 7 + ((dS y).mark T x1).sz), b < w.heap.size := ⟨hl.2, fun b hq => hbl2 b (List.mem_append_right _ hq)⟩
      rw [D.sz_mark, hcy, szS, show x5.toNat * 7 + 7 = (x5 + 1).toNat * 7 by rw [← hnx]; omega, show x1 + (((4 + (D.list dA y.f4).cnt + (D.list dD y.f5).cnt + (D.list dS y.f6).cnt : Nat)) : Int) = x1 + 1 + 1 + 1 + 1 + ((D.list dA y.f4).cnt : Int) + ((D.list dD y.f5).cnt : Int) + ((D.list dS y.f6).cnt : Int) by omega] at hO2
      have HO2 := Aside0.mk hO2
      have HKx := Aside0.mk hKx
      have WW0 := Aside0.mk (show wrap64 (x1 + 1) = x1 + 1 by unfold wrap64; have := HK.out.1; have := HKx.out; have := HKB.out; omega)
      have WW1 := Aside0.mk (show wrap64 (x1 + 1 + 1) = x1 + 1 + 1 by unfold wrap64; have := HK.out.1; have := HKx.out; have := HKB.out; omega)
      have WW2 := Aside0.mk (show wrap64 (x1 + 1 + 1 + 1) = x1 + 1 + 1 + 1 by unfold wrap64; have := HK.out.1; have := HKx.out; have := HKB.out; omega)
      have WW3 := Aside0.mk (show wrap64 (x1 + 1 + 1 + 1 + 1) = x1 + 1 + 1 + 1 + 1 by unfold wrap64; have := HK.out.1; have := HKx.out; have := HKB.out; omega)
      have W0 := Aside0.mk (show wrap64 (x5 + 1) = x5 + 1 by unfold wrap64; have := HX.out.1; omega)
      have C3 := Aside0.mk hlt
      have E0 := Aside0.mk e0
      have E1 := Aside0.mk e1
      have E2 := Aside0.mk e2
      have E3 := Aside0.mk e3
      have E4 := Aside0.mk e4
      have E5 := Aside0.mk e5
      have E6 := Aside0.mk e6
      have R4 := Aside0.mk h4
      have R5 := Aside0.mk h5
      have R6 := Aside0.mk h6
      have HY := Aside0.mk hyl
      clear HO hO2 hKx hcl hcy hl hb hbl2 hj hnx hyl hlt hbl e0 e1 e2 e3 e4 e5 e6 h4 h5 h6
      have hx0 := (HB.out.cell (World.block_lt_of_cell? w _ E0.out)).trans E0.out
      have n0a : ((x1 : Int) != x1) = false := bne_eq_false_iff_eq.mpr (rfl : (x1 : Int) = x1).symm
      have n0b : ((x1 : Int) == x1) = true := beq_iff_eq.mpr (rfl : (x1 : Int) = x1).symm
      have n0c : ((x1 : Int) = x1) = True := eq_true (rfl : (x1 : Int) = x1).symm
      try go_wp2
      clear hx0 n0a n0b n0c
      have n0_ := Aside0.mk (below_drew1 HB.out)
      clear HB
      have HB := n0_
      clear n0_
      refine start_ (n := 8) (S := fun w' => w'.cell? ⟨g, x5.toNat * 7 + 1, none⟩ = some (.string (T (x1 + 1)))) (ds := []) #[false, false, false, false, false, false, false, false] (by kernel_rfl) rfl rfl ((HB.out.cell (World.block_lt_of_cell? w _ E1.out)).trans E1.out) (fun hHeld => ?_)
      generalize wr.drew = wd1 at HB hHeld ⊢
      refine pure_ (i := 0) (N := some 21) (v := ?_) (a' := ?_) #[true, false, false, false, false, false, false, false] rfl rfl (by kernel_rfl) (fun _ _ _ h => h) (Or.inl ⟨by rfl, ?_⟩) ?_ ?_
      rotate_left
      · intro w'
        go_simp
        with_reducible rfl
      rotate_left
      · simp only [Act.put, List.setIfInBounds_toArray, List.set_cons_zero, List.set_cons_succ, i64_w, i32_w]
        rfl
      refine pure_ (i := 1) (N := some 22) (v := ?_) (a' := ?_) #[true, true, false, false, false, false, false, false] rfl rfl (by kernel_rfl) (fun _ _ _ h => h) (Or.inl ⟨by rfl, ?_⟩) ?_ ?_
      rotate_left
      · intro w'
        go_simp
        with_reducible rfl
      rotate_left
      · simp only [Act.put, List.setIfInBounds_toArray, List.set_cons_zero, List.set_cons_succ, i64_w, i32_w]
        rfl
      refine pure_ (i := 2) (N := some 23) (v := ?_) (a' := ?_) #[true, true, true, false, false, false, false, false] rfl rfl (by kernel_rfl) (fun _ _ _ h => h) (Or.inl ⟨by rfl, ?_⟩) ?_ ?_
      rotate_left
      · intro w'
        go_simp
        with_reducible rfl
      rotate_left
      · simp only [Act.put, List.setIfInBounds_toArray, List.set_cons_zero, List.set_cons_succ, i64_w, i32_w]
        rfl
      refine pure_ (i := 3) (N := some 24) (v := ?_) (a' := ?_) #[true, true, true, true, false, false, false, false] rfl rfl (by kernel_rfl) (fun _ _ _ h => h) (Or.inl ⟨by rfl, ?_⟩) ?_ ?_
      rotate_left
      · intro w'
        go_simp
        with_reducible rfl
      rotate_left
      · simp only [Act.put, List.setIfInBounds_toArray, List.set_cons_zero, List.set_cons_succ, i64_w, i32_w]
        rfl
      refine pure_ (i := 5) (N := some 26) (v := ?_) (a' := ?_) #[true, true, true, true, false, true, false, false] rfl rfl (by kernel_rfl) (fun _ _ _ h => h) (Or.inl ⟨by rfl, ?_⟩) ?_ ?_
      rotate_left
      · intro w'
        go_simp
        with_reducible rfl
      rotate_left
      · simp only [Act.put, List.setIfInBounds_toArray, List.set_cons_zero, List.set_cons_succ, i64_w, i32_w]
        rfl
      refine take_ (i := 4) (N := some 25) (v := ?_) (a' := ?_) #[true, true, true, true, true, true, false, false] rfl rfl (by kernel_rfl) (fun _ _ _ h => h) (Or.inl ⟨by rfl, ?_⟩) hHeld ?_ ?_
      rotate_left
      · intro w' s0
        go_simp
        with_reducible rfl
      rotate_left
      · simp only [Act.put, List.setIfInBounds_toArray, List.set_cons_zero, List.set_cons_succ, i64_w, i32_w]
        rfl
      refine one_ (i := 6) (N := some 27) #[true, true, true, true, true, true, true, false] rfl rfl (by kernel_rfl) (by decide) (fun K hK => ?_)
      refine goes_ Try.func52 (by kernel_rfl) rfl #[.int .i64 (wrap64 (x1 + 1))] (by rfl) rfl rfl (by (try simp only [List.map_toArray, List.map_cons, List.map_nil]); first | done | rfl) ?_
      with_reducible refine (HT.out _ (x1 + 1) _ (by rw [WW0.out]) (by have := HK.out.1; omega) (by have := HKx.out; have := HKB.out; omega)).mono ?_
      rintro e wt1 ⟨rfl, hb⟩
      refine ⟨_, rfl, ?_⟩
      have n0_ := Aside0.mk (below_step HB.out hb)
      clear HB hb
      have HB := n0_
      clear n0_
      refine hK.out _ _ ((HB.out.cell (World.block_lt_of_cell? w _ E1.out)).trans E1.out) (fun hHeld => ?_)
      clear hK K
      have n1a : ((T (x1 + 1)).toList != (T (x1 + 1)).toList) = false := by simp
      have n1b : ((T (x1 + 1)).toList == (T (x1 + 1)).toList) = true := by simp
      refine norm_ (a' := ?_) ?_ ?_
      rotate_left
      · show Act.put _ (some 27) _ = _
        simp only [Act.put, List.setIfInBounds_toArray, List.set_cons_zero, List.set_cons_succ, i64_w, i32_w]
        rfl
      refine pure_ (i := 7) (N := some 28) (v := ?_) (a' := ?_) #[true, true, true, true, true, true, true, true] rfl rfl (by kernel_rfl) (fun _ _ _ h => h) (Or.inl ⟨by rfl, ?_⟩) ?_ ?_
      rotate_left
      · intro w'
        go_simp
        with_reducible rfl
      rotate_left
      · simp only [Act.put, List.setIfInBounds_toArray, List.set_cons_zero, List.set_cons_succ, i64_w, i32_w]
        rfl
      refine done_ (by kernel_rfl) ?_
      clear hHeld
      try go_wp2
      clear n1a n1b
      have n0_ := Aside0.mk (below_drew1 HB.out)
      clear HB
      have HB := n0_
      clear n0_
      refine start_ (n := 8) (S := fun w' => w'.cell? ⟨g, x5.toNat * 7 + 2, none⟩ = some (.string (T (x1 + 1 + 1)))) (ds := []) #[false, false, false, false, false, false, false, false] (by kernel_rfl) rfl rfl ((HB.out.cell (World.block_lt_of_cell? w _ E2.out)).trans E2.out) (fun hHeld => ?_)
      generalize wt1.drew = wd2 at HB hHeld ⊢
      refine pure_ (i := 0) (N := some 31) (v := ?_) (a' := ?_) #[true, false, false, false, false, false, false, false] rfl rfl (by kernel_rfl) (fun _ _ _ h => h) (Or.inl ⟨by rfl, ?_⟩) ?_ ?_
      rotate_left
      · intro w'
        go_simp
        with_reducible rfl
      rotate_left
      · simp only [Act.put, List.setIfInBounds_toArray, List.set_cons_zero, List.set_cons_succ, i64_w, i32_w]
        rfl
      refine pure_ (i := 1) (N := some 32) (v := ?_) (a' := ?_) #[true, true, false, false, false, false, false, false] rfl rfl (by kernel_rfl) (fun _ _ _ h => h) (Or.inl ⟨by rfl, ?_⟩) ?_ ?_
      rotate_left
      · intro w'
        go_simp
        with_reducible rfl
      rotate_left
      · simp only [Act.put, List.setIfInBounds_toArray, List.set_cons_zero, List.set_cons_succ, i64_w, i32_w]
        rfl
      refine pure_ (i := 2) (N := some 33) (v := ?_) (a' := ?_) #[true, true, true, false, false, false, false, false] rfl rfl (by kernel_rfl) (fun _ _ _ h => h) (Or.inl ⟨by rfl, ?_⟩) ?_ ?_
      rotate_left
      · intro w'
        go_simp
        with_reducible rfl
      rotate_left
      · simp only [Act.put, List.setIfInBounds_toArray, List.set_cons_zero, List.set_cons_succ, i64_w, i32_w]
        rfl
      refine pure_ (i := 3) (N := some 34) (v := ?_) (a' := ?_) #[true, true, true, true, false, false, false, false] rfl rfl (by kernel_rfl) (fun _ _ _ h => h) (Or.inl ⟨by rfl, ?_⟩) ?_ ?_
      rotate_left
      · intro w'
        go_simp
        with_reducible rfl
      rotate_left
      · simp only [Act.put, List.setIfInBounds_toArray, List.set_cons_zero, List.set_cons_succ, i64_w, i32_w]
        rfl
      refine pure_ (i := 5) (N := some 36) (v := ?_) (a' := ?_) #[true, true, true, true, false, true, false, false] rfl rfl (by kernel_rfl) (fun _ _ _ h => h) (Or.inl ⟨by rfl, ?_⟩) ?_ ?_
      rotate_left
      · intro w'
        go_simp
        with_reducible rfl
      rotate_left
      · simp only [Act.put, List.setIfInBounds_toArray, List.set_cons_zero, List.set_cons_succ, i64_w, i32_w]
        rfl
      refine take_ (i := 4) (N := some 35) (v := ?_) (a' := ?_) #[true, true, true, true, true, true, false, false] rfl rfl (by kernel_rfl) (fun _ _ _ h => h) (Or.inl ⟨by rfl, ?_⟩) hHeld ?_ ?_
      rotate_left
      · intro w' s0
        go_simp
        with_reducible rfl
      rotate_left
      · simp only [Act.put, List.setIfInBounds_toArray, List.set_cons_zero, List.set_cons_succ, i64_w, i32_w]
        rfl
      refine one_ (i := 6) (N := some 37) #[true, true, true, true, true, true, true, false] rfl rfl (by kernel_rfl) (by decide) (fun K hK => ?_)
      refine goes_ Try.func52 (by kernel_rfl) rfl #[.int .i64 (wrap64 (wrap64 (x1 + 1) + 1))] (by rfl) rfl rfl (by (try simp only [List.map_toArray, List.map_cons, List.map_nil]); first | done | rfl) ?_
      with_reducible refine (HT.out _ (x1 + 1 + 1) _ (by rw [WW0.out, WW1.out]) (by have := HK.out.1; omega) (by have := HKx.out; have := HKB.out; omega)).mono ?_
      rintro e wt2 ⟨rfl, hb⟩
      refine ⟨_, rfl, ?_⟩
      have n0_ := Aside0.mk (below_step HB.out hb)
      clear HB hb
      have HB := n0_
      clear n0_
      refine hK.out _ _ ((HB.out.cell (World.block_lt_of_cell? w _ E2.out)).trans E2.out) (fun hHeld => ?_)
      clear hK K
      have n2a : ((T (x1 + 1 + 1)).toList != (T (x1 + 1 + 1)).toList) = false := by simp
      have n2b : ((T (x1 + 1 + 1)).toList == (T (x1 + 1 + 1)).toList) = true := by simp
      refine norm_ (a' := ?_) ?_ ?_
      rotate_left
      · show Act.put _ (some 37) _ = _
        simp only [Act.put, List.setIfInBounds_toArray, List.set_cons_zero, List.set_cons_succ, i64_w, i32_w]
        rfl
      refine pure_ (i := 7) (N := some 38) (v := ?_) (a' := ?_) #[true, true, true, true, true, true, true, true] rfl rfl (by kernel_rfl) (fun _ _ _ h => h) (Or.inl ⟨by rfl, ?_⟩) ?_ ?_
      rotate_left
      · intro w'
        go_simp
        with_reducible rfl
      rotate_left
      · simp only [Act.put, List.setIfInBounds_toArray, List.set_cons_zero, List.set_cons_succ, i64_w, i32_w]
        rfl
      refine done_ (by kernel_rfl) ?_
      clear hHeld
      try go_wp2
      clear n2a n2b
      have n0_ := Aside0.mk (below_drew1 HB.out)
      clear HB
      have HB := n0_
      clear n0_
      refine start_ (n := 8) (S := fun w' => w'.cell? ⟨g, x5.toNat * 7 + 3, none⟩ = some (.string (T (x1 + 1 + 1 + 1)))) (ds := []) #[false, false, false, false, false, false, false, false] (by kernel_rfl) rfl rfl ((HB.out.cell (World.block_lt_of_cell? w _ E3.out)).trans E3.out) (fun hHeld => ?_)
      generalize wt2.drew = wd3 at HB hHeld ⊢
      refine pure_ (i := 0) (N := some 41) (v := ?_) (a' := ?_) #[true, false, false, false, false, false, false, false] rfl rfl (by kernel_rfl) (fun _ _ _ h => h) (Or.inl ⟨by rfl, ?_⟩) ?_ ?_
      rotate_left
      · intro w'
        go_simp
        with_reducible rfl
      rotate_left
      · simp only [Act.put, List.setIfInBounds_toArray, List.set_cons_zero, List.set_cons_succ, i64_w, i32_w]
        rfl
      refine pure_ (i := 1) (N := some 42) (v := ?_) (a' := ?_) #[true, true, false, false, false, false, false, false] rfl rfl (by kernel_rfl) (fun _ _ _ h => h) (Or.inl ⟨by rfl, ?_⟩) ?_ ?_
      rotate_left
      · intro w'
        go_simp
        with_reducible rfl
      rotate_left
      · simp only [Act.put, List.setIfInBounds_toArray, List.set_cons_zero, List.set_cons_succ, i64_w, i32_w]
        rfl
      refine pure_ (i := 2) (N := some 43) (v := ?_) (a' := ?_) #[true, true, true, false, false, false, false, false] rfl rfl (by kernel_rfl) (fun _ _ _ h => h) (Or.inl ⟨by rfl, ?_⟩) ?_ ?_
      rotate_left
      · intro w'
        go_simp
        with_reducible rfl
      rotate_left
      · simp only [Act.put, List.setIfInBounds_toArray, List.set_cons_zero, List.set_cons_succ, i64_w, i32_w]
        rfl
      refine pure_ (i := 3) (N := some 44) (v := ?_) (a' := ?_) #[true, true, true, true, false, false, false, false] rfl rfl (by kernel_rfl) (fun _ _ _ h => h) (Or.inl ⟨by rfl, ?_⟩) ?_ ?_
      rotate_left
      · intro w'
        go_simp
        with_reducible rfl
      rotate_left
      · simp only [Act.put, List.setIfInBounds_toArray, List.set_cons_zero, List.set_cons_succ, i64_w, i32_w]
        rfl
      refine pure_ (i := 5) (N := some 46) (v := ?_) (a' := ?_) #[true, true, true, true, false, true, false, false] rfl rfl (by kernel_rfl) (fun _ _ _ h => h) (Or.inl ⟨by rfl, ?_⟩) ?_ ?_
      rotate_left
      · intro w'
        go_simp
        with_reducible rfl
      rotate_left
      · simp only [Act.put, List.setIfInBounds_toArray, List.set_cons_zero, List.set_cons_succ, i64_w, i32_w]
        rfl
      refine take_ (i := 4) (N := some 45) (v := ?_) (a' := ?_) #[true, true, true, true, true, true, false, false] rfl rfl (by kernel_rfl) (fun _ _ _ h => h) (Or.inl ⟨by rfl, ?_⟩) hHeld ?_ ?_
      rotate_left
      · intro w' s0
        go_simp
        with_reducible rfl
      rotate_left
      · simp only [Act.put, List.setIfInBounds_toArray, List.set_cons_zero, List.set_cons_succ, i64_w, i32_w]
        rfl
      refine one_ (i := 6) (N := some 47) #[true, true, true, true, true, true, true, false] rfl rfl (by kernel_rfl) (by decide) (fun K hK => ?_)
      refine goes_ Try.func52 (by kernel_rfl) rfl #[.int .i64 (wrap64 (wrap64 (wrap64 (x1 + 1) + 1) + 1))] (by rfl) rfl rfl (by (try simp only [List.map_toArray, List.map_cons, List.map_nil]); first | done | rfl) ?_
      with_reducible refine (HT.out _ (x1 + 1 + 1 + 1) _ (by rw [WW0.out, WW1.out, WW2.out]) (by have := HK.out.1; omega) (by have := HKx.out; have := HKB.out; omega)).mono ?_
      rintro e wt3 ⟨rfl, hb⟩
      refine ⟨_, rfl, ?_⟩
      have n0_ := Aside0.mk (below_step HB.out hb)
      clear HB hb
      have HB := n0_
      clear n0_
      refine hK.out _ _ ((HB.out.cell (World.block_lt_of_cell? w _ E3.out)).trans E3.out) (fun hHeld => ?_)
      clear hK K
      have n3a : ((T (x1 + 1 + 1 + 1)).toList != (T (x1 + 1 + 1 + 1)).toList) = false := by simp
      have n3b : ((T (x1 + 1 + 1 + 1)).toList == (T (x1 + 1 + 1 + 1)).toList) = true := by simp
      refine norm_ (a' := ?_) ?_ ?_
      rotate_left
      · show Act.put _ (some 47) _ = _
        simp only [Act.put, List.setIfInBounds_toArray, List.set_cons_zero, List.set_cons_succ, i64_w, i32_w]
        rfl
      refine pure_ (i := 7) (N := some 48) (v := ?_) (a' := ?_) #[true, true, true, true, true, true, true, true] rfl rfl (by kernel_rfl) (fun _ _ _ h => h) (Or.inl ⟨by rfl, ?_⟩) ?_ ?_
      rotate_left
      · intro w'
        go_simp
        with_reducible rfl
      rotate_left
      · simp only [Act.put, List.setIfInBounds_toArray, List.set_cons_zero, List.set_cons_succ, i64_w, i32_w]
        rfl
      refine done_ (by kernel_rfl) ?_
      clear hHeld
      have hx4 := (HB.out.cell (World.block_lt_of_cell? w _ E4.out)).trans E4.out
      have l4a : decide (x1 + 1 + 1 + 1 + 1 + ((D.list dA y.f4).cnt : Int) < 0) = false := decide_eq_false (by have := HK.out.1; omega)
      have l4b : (x1 + 1 + 1 + 1 + 1 + ((D.list dA y.f4).cnt : Int) < 0) = False := eq_false (by have := HK.out.1; omega)
      have l5a : decide (x1 + 1 + 1 + 1 + 1 + ((D.list dA y.f4).cnt : Int) + ((D.list dD y.f5).cnt : Int) < 0) = false := decide_eq_false (by have := HK.out.1; omega)
      have l5b : (x1 + 1 + 1 + 1 + 1 + ((D.list dA y.f4).cnt : Int) + ((D.list dD y.f5).cnt : Int) < 0) = False := eq_false (by have := HK.out.1; omega)
      have l6a : decide (x1 + 1 + 1 + 1 + 1 + ((D.list dA y.f4).cnt : Int) + ((D.list dD y.f5).cnt : Int) + ((D.list dS y.f6).cnt : Int) < 0) = false := decide_eq_false (by have := HK.out.1; omega)
      have l6b : (x1 + 1 + 1 + 1 + 1 + ((D.list dA y.f4).cnt : Int) + ((D.list dD y.f5).cnt : Int) + ((D.list dS y.f6).cnt : Int) < 0) = False := eq_false (by have := HK.out.1; omega)
      go_wp2_with (first
        | ((with_reducible refine gate_callee (f := 66) rfl ?_); refine goesL_ (some 57) rfl rfl Try.func66 (by kernel_rfl) rfl #[.slice A4 y.f4.length c4, .int .i64 (wrap64 (wrap64 (wrap64 (wrap64 (x1 + 1) + 1) + 1) + 1))] rfl (by (try simp only [List.map_toArray, List.map_cons, List.map_nil]); first | done | rfl) ?_
           obtain ⟨r4, b4⟩ := RowAt.later R4.out B4.out HB.out
           (with_reducible refine (heldA HT.out y.f4 _ (x1 + 1 + 1 + 1 + 1) _ _ (by rw [WW0.out, WW1.out, WW2.out, WW3.out]) r4 b4 (by have := HK.out.1; omega) (by have := HKx.out; have := HKB.out; omega)).mono ?_)
           rintro e wc4 ⟨rfl, hb⟩
           refine ⟨_, rfl, ?_⟩
           clear r4 b4 hx4
           have n0_ := Aside0.mk (below_step HB.out hb)
           clear HB hb
           have HB := n0_
           clear n0_
           have hx5 := (HB.out.cell (World.block_lt_of_cell? w _ E5.out)).trans E5.out)
        | ((with_reducible refine gate_callee (f := 67) rfl ?_); refine goesL_ (some 66) rfl rfl Try.func67 (by kernel_rfl) rfl #[.slice A5 y.f5.length c5, .int .i64 (x1 + 1 + 1 + 1 + 1 + ((D.list dA y.f4).cnt : Int))] rfl (by (try simp only [List.map_toArray, List.map_cons, List.map_nil]); first | done | rfl) ?_
           obtain ⟨r5, b5⟩ := RowAt.later R5.out B5.out HB.out
           (with_reducible refine (heldD HT.out y.f5 _ (x1 + 1 + 1 + 1 + 1 + ((D.list dA y.f4).cnt : Int)) _ _ (rfl) r5 b5 (by have := HK.out.1; omega) (by have := HKx.out; have := HKB.out; omega)).mono ?_)
           rintro e wc5 ⟨rfl, hb⟩
           refine ⟨_, rfl, ?_⟩
           clear r5 b5 hx5
           have n0_ := Aside0.mk (below_step HB.out hb)
           clear HB hb
           have HB := n0_
           clear n0_
           have hx6 := (HB.out.cell (World.block_lt_of_cell? w _ E6.out)).trans E6.out)
        | ((with_reducible refine gate_callee (f := 38) rfl ?_); refine goesL_ (some 75) rfl rfl Try.func38 (by kernel_rfl) rfl #[.slice A6 y.f6.length c6, .int .i64 (x1 + 1 + 1 + 1 + 1 + ((D.list dA y.f4).cnt : Int) + ((D.list dD y.f5).cnt : Int))] rfl (by (try simp only [List.map_toArray, List.map_cons, List.map_nil]); first | done | rfl) ?_
           obtain ⟨r6, b6⟩ := RowAt.later R6.out B6.out HB.out
           (with_reducible refine (IH.out y HY.out _ (x1 + 1 + 1 + 1 + 1 + ((D.list dA y.f4).cnt : Int) + ((D.list dD y.f5).cnt : Int)) _ _ (rfl) r6 b6 (by have := HK.out.1; omega) (by have := HKx.out; have := HKB.out; omega)).mono ?_)
           rintro e wc6 ⟨rfl, hb⟩
           refine ⟨_, rfl, ?_⟩
           clear r6 b6 hx6
           have n0_ := Aside0.mk (below_step HB.out hb)
           clear HB hb
           have HB := n0_
           clear n0_))
      go_roundg (l.length - (x5 + 1).toNat)
      case measure => have := HX.out; have := C3.out; omega
      case rel => exact ⟨x1 + 1 + 1 + 1 + 1 + ((D.list dA y.f4).cnt : Int) + ((D.list dD y.f5).cnt : Int) + ((D.list dS y.f6).cnt : Int), x5 + 1, rfl, by rw [W0.out], ⟨⟨by have := HX.out; omega, by have := C3.out; omega, by omega⟩⟩, ⟨⟨by have := HK.out.1; omega, by have := HKx.out; omega⟩⟩, ⟨fun ad e => by cases e; exact ⟨rfl, HO2.out⟩⟩, HB⟩
    · have hltb : decide (x5 < (l.length : Int)) = false := decide_eq_false hlt
      have hKx := HK.out.2
      rw [List.drop_eq_nil_of_le (by omega)] at hKx
      have hk : x1 = KF := by simpa [D.list, D.cnt] using hKx
      subst hk
      clear hKx hlt HO HK
      go_wp2
      go_ret
      exact ⟨rfl, HB.out⟩
end Go.Proofs.Ytkcomfmdcmjagaa.OFnExactAllSels
