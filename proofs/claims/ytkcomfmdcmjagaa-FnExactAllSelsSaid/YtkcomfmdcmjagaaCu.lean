/- The reference's l11All: a list that shares what it lists; under the conditions that it names. -/
import Derived.Test.YtkcomfmdcmjagaaCt
namespace Go.Proofs.Ytkcomfmdcmjagaa.OFnExactAllSels
open Go.Proofs.Ytkcomfmdcmjagaa.Lay Go.Proofs.Ytkcomfmdcmjagaa.Mark
open Go.RowKit Go.Proofs.YtkcomfmdcmjagaaW.PrintWords Go.Proofs.YtkcomfmdcmjagaaW.PrintLast Go.Proofs.YtkcomfmdcmjagaaW.PrintMore
set_option linter.unusedVariables false
set_option linter.unusedSimpArgs false
/-- A row of the call's own whose elements' rows are elder. -/
structure Ob (W : World) (lo n : Nat) (v : Value) (c : D) : Prop where
  ex : ∃ inner, W.ownsRow lo 54 7 v n inner ∧ Cells W.cell? c inner ∧ ∀ b ∈ cb W.cell? c inner, b < lo
theorem Ob.sl {W : World} {lo n : Nat} {v : Value} {c : D} (h : Ob W lo n v c) : ∃ A cap, v = .slice A n cap := by
  obtain ⟨inner, ho, _, _⟩ := h.ex
  exact own_slice ho
theorem Ob.base {W : World} {lo n : Nat} {v : Value} {c : D} (h : Ob W lo n v c) : ∀ k, v.ownBlock = some k → lo ≤ k := by
  obtain ⟨inner, ho, _, _⟩ := h.ex
  exact own_base ho
/-- What is elder than lo stays. -/
theorem RowAt.old {w w' : World} {n : Nat} {c : D} {v : Value} {lo : Nat} (h : RowAt w.cell? n c v) (hb : ∀ b ∈ rbl w.cell? c v, b < lo) (hB : Below lo w w') : RowAt w'.cell? n c v ∧ ∀ b ∈ rbl w'.cell? c v, b < lo := by
  obtain ⟨i, e⟩ := h.frame (r' := w'.cell?) (fun a ha => cell_of_heap (hB.block a.block (hb _ ha)))
  exact ⟨i, fun b hq => hb b (by rw [← e]; exact hq)⟩
theorem fresh1 {r : Rd} {y : S54} {A4 A5 A6 : Option Addr} {c4 c5 c6 : Nat} (t4 : RowAt r y.f4.length (D.list dA y.f4) (.slice A4 y.f4.length c4)) (t5 : RowAt r y.f5.length (D.list dD y.f5) (.slice A5 y.f5.length c5)) (t6 : RowAt r y.f6.length (D.list dS y.f6) (.slice A6 y.f6.length c6)) :
    Cells r (dS y) [.int .i64 y.f0, .string y.f1, .string y.f2, .string y.f3, .slice A4 y.f4.length c4, .slice A5 y.f5.length c5, .slice A6 y.f6.length c6] ∧ cb r (dS y) [.int .i64 y.f0, .string y.f1, .string y.f2, .string y.f3, .slice A4 y.f4.length c4, .slice A5 y.f5.length c5, .slice A6 y.f6.length c6] = rbl r (D.list dA y.f4) (.slice A4 y.f4.length c4) ++ (rbl r (D.list dD y.f5) (.slice A5 y.f5.length c5) ++ (rbl r (D.list dS y.f6) (.slice A6 y.f6.length c6) ++ [])) := by
  constructor
  · rw [dS_eq]
    exact ⟨[_], _, rfl, rfl, [_], _, rfl, rfl, [_], _, rfl, rfl, [_], _, rfl, rfl, [_], _, rfl, ⟨_, rfl, t4⟩, [_], _, rfl, ⟨_, rfl, t5⟩, [_], [], rfl, ⟨_, rfl, t6⟩, rfl⟩
  · rw [dS_eq]
    rfl
theorem fresh1b {r : Rd} {y : S54} {A4 A5 A6 : Option Addr} {c4 c5 c6 lo : Nat} (t4 : RowAt r y.f4.length (D.list dA y.f4) (.slice A4 y.f4.length c4)) (t5 : RowAt r y.f5.length (D.list dD y.f5) (.slice A5 y.f5.length c5)) (t6 : RowAt r y.f6.length (D.list dS y.f6) (.slice A6 y.f6.length c6))
    (b4 : ∀ b ∈ rbl r (D.list dA y.f4) (.slice A4 y.f4.length c4), b < lo) (b5 : ∀ b ∈ rbl r (D.list dD y.f5) (.slice A5 y.f5.length c5), b < lo) (b6 : ∀ b ∈ rbl r (D.list dS y.f6) (.slice A6 y.f6.length c6), b < lo) : ∀ b ∈ cb r (dS y) [.int .i64 y.f0, .string y.f1, .string y.f2, .string y.f3, .slice A4 y.f4.length c4, .slice A5 y.f5.length c5, .slice A6 y.f6.length c6], b < lo := by
  rw [(fresh1 t4 t5 t6).2, List.append_nil]
  intro b hb
  rcases List.mem_append.1 hb with hb | hb
  · exact b4 b hb
  · rcases List.mem_append.1 hb with hb | hb
    · exact b5 b hb
    · exact b6 b hb
theorem aSs_len : ∀ l : List S54, l.length ≤ (aSs l).length
  | [] => Nat.zero_le _
  | x :: l => by
    have := aSs_len l
    rw [aSs, aS_eq]
    simp
    omega
theorem Ob.append1 {P : Program} {ops : Array Oper} {rest : List Oper} {o : Oper} {a : Act} {Q : Exit → Act → World → Prop} {W : World} {l : List S54} (lo : Nat) (hgd : o.guard = none) (s x : Operand) (t e : TypeId) (z : Value) (bytes : Nat)
    (ho : o.op = .call { callee := .builtin .append, args := #[s, x], argTypes := #[t, t] })
    (ht : P.underlying t = some (.slice 54)) (hinfo : (P.info? 54).map (fun i => (i.zero, i.size, i.bytes)) = some (some z, 7, bytes)) (hz : z.cells.size = 7) (hb0 : 0 < bytes)
    (v : Value) (y : S54) (cs : List Value) (hs : a.eval s = v) (hx : a.eval x = .slice (some ⟨W.heap.size, 0, none⟩) 1 1)
    (hO : Ob W lo l.length v (D.list dS l)) (hc : Cells W.cell? (dS y) cs) (hk : ∀ b ∈ cb W.cell? (dS y) cs, b < lo) (hlo : lo ≤ W.heap.size) (hl : (l.length + 1) * bytes ≤ 140737488355328)
    (h : ∀ v1 w1, Ob w1 lo (l ++ [y]).length v1 (D.list dS (l ++ [y])) → W.grownBy w1 v.ownBlock → wpList P ops Q rest (a.put o.dst v1) w1) :
    wpList P ops Q (o :: rest) a (W.alloc (.cells cs.toArray 54)) := by
  obtain ⟨inner, ho1, hcl, hb⟩ := hO.ex
  obtain ⟨i1, e1⟩ := Cells.single (f := dS) hc
  refine print_append_cells lo hgd s x t 54 z 7 bytes ho ht hinfo hz (by decide) hb0 v l.length inner cs hs hx (hc.len.trans (szS y)) (Cells.one _ _ hc) ho1 (Below.refl lo W) hlo hl ?_
  intro v1 w1 hown1 _ hg1 _
  have hm : ∀ b, b < lo → w1.heap[b]? = W.heap[b]? := fun b hq => hg1.block b (Nat.lt_of_lt_of_le hq hlo) (fun he => Nat.not_le.2 hq (own_base ho1 b he.symm))
  obtain ⟨j1, f1⟩ := Cells.frame (r' := w1.cell?) _ _ hcl (fun a ha => cell_of_heap (hm _ (hb _ ha)))
  obtain ⟨j2, f2⟩ := Cells.frame (r' := w1.cell?) _ _ i1 (fun a ha => cell_of_heap (hm _ (hk _ (by rw [← e1]; exact ha))))
  obtain ⟨j3, f3⟩ := Cells.app l [y] inner cs j1 j2
  refine h v1 w1 ⟨⟨inner ++ cs, by rw [List.length_append, List.length_singleton]; exact hown1, j3, fun b hq => ?_⟩⟩ hg1
  rw [f3, f1, f2, e1] at hq
  rcases List.mem_append.1 hq with hq | hq
  · exact hb b hq
  · exact hk b hq
set_option maxHeartbeats 8000000 in
set_option maxRecDepth 100000 in
theorem l11All : ∀ (l : List S54) (v u : Value) (lo : Nat) (acc : List S54) (w : World), lo ≤ w.heap.size → RowAt w.cell? l.length (D.list dS l) v → (∀ b ∈ rbl w.cell? (D.list dS l) v, b < lo) → Ob w lo acc.length u (D.list dS acc) → (acc ++ aSs l).length ≤ 1073741824 → l.length ≤ 1073741824 →
    Calls Try.prog 62 #[v, u] w fun e w' => ∃ A c, e = .returned (.slice A (acc ++ aSs l).length c) ∧ Ob w' lo (acc ++ aSs l).length (.slice A (acc ++ aSs l).length c) (D.list dS (acc ++ aSs l)) ∧ Below lo w w' := by
  refine indSs (fun l ih => ?_)
  intro v u lo acc w hlo hR hRb hO hal hll
  obtain ⟨A, cap, rfl, hn, hm⟩ := RowAt.sl hR
  obtain ⟨Au0, cu0, rfl⟩ := Ob.sl hO
  have IN0 := Aside0.mk (And.intro hR hRb)
  have HLO := Aside0.mk hlo
  have HO0 := Aside0.mk hO
  have HAL := Aside0.mk hal
  have HL := Aside0.mk hll
  have IH := Aside0.mk ih
  have hu54 := Try.underlying54
  have HB0 := Aside0.mk (Below.refl lo w)
  clear ih hlo hR hRb hO hal hll
  go_enter Try.func62, Try.ntmps62
  go_wp2
  go_loopg [1, 5] l.length (fun gg v1 v5 wr => ∃ (x5 : Int) (Au : Option Addr) (cu : Nat) (tk : List S54), v1 = .slice Au tk.length cu ∧ v5 = .int .i64 x5 ∧ Aside0 (0 ≤ x5 ∧ x5 ≤ l.length ∧ l.length - x5.toNat ≤ gg) ∧ Aside0 (Ob wr lo tk.length (.slice Au tk.length cu) (D.list dS tk)) ∧ Aside0 (tk = acc ++ aSs (l.take x5.toNat)) ∧ Aside0 (Below lo w wr))
  case atStart => exact ⟨0, Au0, cu0, acc, rfl, rfl, ⟨⟨by omega, by omega, by omega⟩⟩, HO0, ⟨by simp [aSs]⟩, HB0⟩
  case round =>
    clear HO0 HB0
    obtain ⟨x5, Au, cu, tk, rfl, rfl, HX, HO, HTk, HB⟩ := hrel
    by_cases hlt : x5 < (l.length : Int)
    · have hltb : decide (x5 < (l.length : Int)) = true := decide_eq_true hlt
      have p6 : (0 ≤ x5) = True := eq_true HX.out.1
      have q6 : (x5 < (l.length : Int)) = True := eq_true hlt
      have hj : x5.toNat < l.length := by have := HX.out.1; omega
      obtain ⟨ga, ead, hga, hL, hbl⟩ : ∃ ga, A = some ⟨ga, 0, none⟩ ∧ ga < lo ∧ Lay w.cell? (D.list dS l) ga 0 ∧ ∀ b ∈ bl w.cell? (D.list dS l) ga 0, b < lo := by
        rcases IN0.out with ⟨hq, hr⟩
        rcases hq with ⟨_, hn0, _⟩ | ⟨a, cap', e, _, _, hL⟩
        · omega
        · injection e with e1 e2 e3
          subst e1
          exact ⟨a, rfl, hr a List.mem_cons_self, hL, fun b hb => hr b (List.mem_cons_of_mem _ hb)⟩
      obtain ⟨hl, hb⟩ := Lay.drop szS l 0 x5.toNat hL
      have hyl : l[x5.toNat] ∈ l := List.getElem_mem hj
      have htk : l.take (x5.toNat + 1) = l.take x5.toNat ++ [l[x5.toNat]] := by rw [List.take_succ_eq_append_getElem hj]
      have hnx : x5.toNat + 1 = (x5 + 1).toNat := by have := HX.out.1; omega
      rw [hnx] at htk
      rw [List.drop_eq_getElem_cons hj, Nat.zero_add] at hl hb
      generalize l[x5.toNat] = y at hl hb hyl htk
      obtain ⟨B4, d4, B5, d5, B6, d6, e0, e1, e2, e3, e4, e5, e6, r4, r5, r6, hbl2, _⟩ := openS hl.1
      have hrows : ∀ b ∈ bl w.cell? (dS y) ga (x5.toNat * 7), b < lo := fun b hq => hbl b (hb b (by rw [D.list, bl]; exact List.mem_append_left _ hq))
      rw [hbl2] at hrows
      have R4 := Aside0.mk (And.intro r4 (fun b hq => hrows b (List.mem_append_left _ hq)))
      have R5 := Aside0.mk (And.intro r5 (fun b hq => hrows b (List.mem_append_right _ (List.mem_append_left _ hq))))
      have R6 := Aside0.mk (And.intro r6 (fun b hq => hrows b (List.mem_append_right _ (List.mem_append_right _ (List.mem_append_left _ hq)))))
      have HY := Aside0.mk hyl
      have HTK := Aside0.mk (show acc ++ aSs (l.take (x5 + 1).toNat) = (tk ++ [y]) ++ aSs y.f6 by rw [htk, aSs_app, HTk.out]; simp [aSs, aS_eq])
      have W0 := Aside0.mk (show wrap64 (x5 + 1) = x5 + 1 by unfold wrap64; have := HX.out; have := HL.out; omega)
      have CLT := Aside0.mk hlt
      have HSZ := Aside0.mk (show tk.length + 1 + (aSs y.f6).length ≤ 1073741824 by have h1 := HTK.out; have h2 := aSs_take l (x5 + 1).toNat; have h3 := congrArg List.length h1; simp at h3; have := HAL.out; simp at this; omega)
      have HSY := Aside0.mk (show y.f6.length ≤ 1073741824 by have h1 := aSs_len y.f6; have := HSZ.out; omega)
      have HGA := Aside0.mk hga
      have hx0 := (HB.out.cell (p := ⟨ga, x5.toNat * 7, none⟩) (show ga < lo from hga)).trans e0
      have hx1 := (HB.out.cell (p := ⟨ga, x5.toNat * 7 + 1, none⟩) (show ga < lo from hga)).trans e1
      have hx2 := (HB.out.cell (p := ⟨ga, x5.toNat * 7 + 2, none⟩) (show ga < lo from hga)).trans e2
      have hx3 := (HB.out.cell (p := ⟨ga, x5.toNat * 7 + 3, none⟩) (show ga < lo from hga)).trans e3
      have hx4 := (HB.out.cell (p := ⟨ga, x5.toNat * 7 + 4, none⟩) (show ga < lo from hga)).trans e4
      have hx5 := (HB.out.cell (p := ⟨ga, x5.toNat * 7 + 5, none⟩) (show ga < lo from hga)).trans e5
      have hx6 := (HB.out.cell (p := ⟨ga, x5.toNat * 7 + 6, none⟩) (show ga < lo from hga)).trans e6
      have E6 := Aside0.mk e6
      subst ead
      clear hL hbl hl hb hyl htk hnx hbl2 hlt hj hrows hga r4 r5 r6 e0 e1 e2 e3 e4 e5 e6
      go_wp2_with (first
        | ((with_reducible refine gate_builtin (b := .append) (xs := #[.tmp 12, .tmp 17]) rfl ?_); at_builtin
           refine Ob.append1 (W := wr) (l := tk) lo rfl (.tmp 12) (.tmp 17) 52 54 (.agg #[(.int .i64 0), (.string ⟨#[]⟩), (.string ⟨#[]⟩), (.string ⟨#[]⟩), (.slice none 0 0), (.slice none 0 0), (.slice none 0 0)]) 128 rfl Try.underlying52 info54 rfl (by decide) (.slice Au tk.length cu) y [.int .i64 y.f0, .string y.f1, .string y.f2, .string y.f3, .slice B4 y.f4.length d4, .slice B5 y.f5.length d5, .slice B6 y.f6.length d6] rfl rfl HO.out (fresh1 (RowAt.old R4.out.1 R4.out.2 HB.out).1 (RowAt.old R5.out.1 R5.out.2 HB.out).1 (RowAt.old R6.out.1 R6.out.2 HB.out).1).1 (fresh1b (RowAt.old R4.out.1 R4.out.2 HB.out).1 (RowAt.old R5.out.1 R5.out.2 HB.out).1 (RowAt.old R6.out.1 R6.out.2 HB.out).1 (RowAt.old R4.out.1 R4.out.2 HB.out).2 (RowAt.old R5.out.1 R5.out.2 HB.out).2 (RowAt.old R6.out.1 R6.out.2 HB.out).2) (Nat.le_trans HLO.out HB.out.size) (by have := HSZ.out; omega) ?_
           intro v1 w31 hO1 hg1
           generalize htn : tk ++ [y] = t1 at hO1
           have HTN := Aside0.mk htn
           clear htn
           obtain ⟨A1, k1, ev1⟩ := Ob.sl hO1
           subst ev1
           have n5_ := Aside0.mk (HB.out.grown hg1 (Nat.le_trans HLO.out HB.out.size) (fun k hk => HO.out.base k hk))
           have n6_ := Aside0.mk hO1
           clear HB HO hg1 hO1 hx0 hx1 hx2 hx3 hx4 hx5 hx6
           have HB := n5_
           have HO := n6_
           clear n5_ n6_
           have hx6 := (HB.out.cell (p := ⟨ga, x5.toNat * 7 + 6, none⟩) (show ga < lo from HGA.out)).trans E6.out)
        | ((with_reducible refine gate_callee (f := 62) rfl ?_); refine goesL_ (some 25) rfl rfl Try.func62 (by kernel_rfl) rfl #[.slice B6 y.f6.length d6, .slice A1 t1.length k1] rfl (by (try simp only [List.map_toArray, List.map_cons, List.map_nil]); first | done | rfl) ?_
           clear hx6
           have h7 := congrArg List.length HTN.out
           simp only [List.length_append, List.length_singleton] at h7
           (with_reducible refine (IH.out y HY.out _ _ lo t1 _ (Nat.le_trans HLO.out HB.out.size) (RowAt.old R6.out.1 R6.out.2 HB.out).1 (RowAt.old R6.out.1 R6.out.2 HB.out).2 HO.out (by rw [List.length_append]; have := HSZ.out; omega) HSY.out).mono ?_)
           rintro e w32 ⟨A2, k2, rfl, hO2, hb2⟩
           refine ⟨_, rfl, ?_⟩
           generalize htn : t1 ++ aSs y.f6 = t2 at hO2 ⊢
           have HTN2 := Aside0.mk htn
           have n5_ := Aside0.mk (HB.out.trans hb2)
           have n6_ := Aside0.mk hO2
           clear htn HB HO hO2 hb2 h7
           have HB := n5_
           have HO := n6_
           clear n5_ n6_))
      go_roundg (l.length - (x5 + 1).toNat)
      case measure => have := HX.out; have := CLT.out; omega
      case rel => exact ⟨x5 + 1, A2, k2, t2, rfl, by rw [W0.out], ⟨⟨by have := HX.out; omega, by have := CLT.out; omega, by omega⟩⟩, HO, ⟨by rw [← HTN2.out, ← HTN.out]; exact HTK.out.symm⟩, HB⟩
    · have hltb : decide (x5 < (l.length : Int)) = false := decide_eq_false hlt
      have htk : tk = acc ++ aSs l := HTk.out.trans (by rw [List.take_of_length_le (by omega)])
      have HTK := Aside0.mk htk
      clear hlt htk
      go_wp2
      go_ret
      have htk := HTK.out
      subst htk
      exact ⟨_, _, rfl, HO.out, HB.out⟩
end Go.Proofs.Ytkcomfmdcmjagaa.OFnExactAllSels
