/- The marks that the law's functions write over a row of texts, values, arguments, directives, selections; under the conditions that each names. -/
import Derived.Test.YtkcomfmdcmjagaaOp
namespace Go.Proofs.Ytkcomfmdcmjagaa.OFnExactAllSels
open Go.Proofs.Ytkcomfmdcmjagaa.Lay Go.Proofs.Ytkcomfmdcmjagaa.Mark
open Go.RowKit Go.Proofs.YtkcomfmdcmjagaaW.PrintWords Go.Proofs.YtkcomfmdcmjagaaW.PrintLast Go.Proofs.YtkcomfmdcmjagaaW.PrintMore
set_option linter.unusedVariables false
set_option linter.unusedSimpArgs false
/-- The world's cells below W's height read as r. -/
structure St (W : World) (base : Nat) (S : Nat → Prop) (w : World) (r : Rd) : Prop where
  M : Mk base S W w
  rd : ∀ a : Addr, a.block < W.heap.size → w.cell? a = r a
section
variable {W : World} {base : Nat} {S : Nat → Prop} {w w' : World} {r : Rd}
theorem St.below (h : St W base S w r) (hb : Below w.heap.size w w') : St W base S w' r := ⟨h.M.below hb, fun a ha => (cell_of_heap (hb.block a.block (Nat.lt_of_lt_of_le ha h.M.kept.1))).trans (h.rd a ha)⟩
theorem St.putInt (h : St W base S w r) {a : Addr} {k : Int} (hc : w.cell? a = some (.int .i64 k)) (hS : S a.block) (hl : base ≤ a.block) (k' : Int) : St W base S (w.setCell a (.int .i64 k')) (upd r a (.int .i64 k')) := ⟨h.M.putInt hc hS hl k', fun b hb => by
  by_cases e : b = a
  · subst e
    rw [upd_same]
    exact World.cell?_setCell_same _ _ _ hc
  · rw [upd_other e]
    exact (World.cell?_setCell_other _ _ _ _ (fun q => e q.symm)).trans (h.rd b hb)⟩
theorem St.putStr (h : St W base S w r) {a : Addr} {k : ByteArray} (hc : w.cell? a = some (.string k)) (hS : S a.block) (hl : base ≤ a.block) (k' : ByteArray) : St W base S (w.setCell a (.string k')) (upd r a (.string k')) := ⟨h.M.putStr hc hS hl k', fun b hb => by
  by_cases e : b = a
  · subst e
    rw [upd_same]
    exact World.cell?_setCell_same _ _ _ hc
  · rw [upd_other e]
    exact (World.cell?_setCell_other _ _ _ _ (fun q => e q.symm)).trans (h.rd b hb)⟩
end
/-- What markText answers. -/
abbrev TextC (T : Int → ByteArray) : Prop := ∀ (a b : Int) (w : World), a = b → 0 < b → b ≤ 2305843009213693952 → Calls Try.prog 52 #[.int .i64 a] w fun e w' => e = .returned (.string (T b)) ∧ Below w.heap.size w w'
/-- What a function that marks a row leaves. -/
abbrev MarkC (T : Int → ByteArray) (W : World) (base : Nat) (S : Nat → Prop) (f : Nat) {α : Type} (dX : α → D) (l : List α) : Prop := ∀ (v : Value) (k k' : Int) (r : Rd) (w : World), k' = k → RowAt W.cell? l.length (D.list dX l) v → (∀ b ∈ rbl W.cell? (D.list dX l) v, S b ∧ Blk W base W.heap.size b) → 0 < k → k + (D.list dX l).cnt ≤ 2305843009213693952 → St W base S w r →
  Calls Try.prog f #[v, .int .i64 k'] w fun e w' => e = .returned (.int .i64 (k + (D.list dX l).cnt)) ∧ St W base S w' (rov T W.cell? (D.list dX l) v k r)
def rest (T : Int → ByteArray) (W : World) (A : Option Addr) (d : D) (o : Nat) (k : Int) (q : Rd) : Rd := match A with
  | some ad => ov T W.cell? d ad.block o k q
  | none => q
theorem openT {r : Rd} {y : ByteArray} {g o : Nat} (h : Lay r (dT y) g o) : r ⟨g, o, none⟩ = some (.string y) ∧ bl r (dT y) g o = [] ∧ ∀ (T : Int → ByteArray) (k : Int) (q : Rd), ov T r (dT y) g o k q = upd q ⟨g, o, none⟩ (.string (T k)) := ⟨h, rfl, fun _ _ _ => rfl⟩
theorem cntT (y : ByteArray) : (dT y).cnt = 1 := rfl
set_option maxHeartbeats 4000000 in
set_option maxRecDepth 100000 in
theorem markT {T : Int → ByteArray} (hT : TextC T) (W : World) (base : Nat) (S : Nat → Prop) : ∀ l : List ByteArray, MarkC T W base S 20 dT l := by
  intro l
  intro v k k' r w hkk hR hB h0 h1 hSt
  obtain ⟨A, cap, rfl, hn, hm⟩ := RowAt.sl hR
  have HF := Aside0.mk (show rest T W A (D.list dT l) 0 k r = rov T W.cell? (D.list dT l) (.slice A l.length cap) k r by cases A <;> rfl)
  have HKF := Aside0.mk (show k + ((D.list dT l).cnt : Int) = k + ((D.list dT l).cnt : Int) from rfl)
  generalize rov T W.cell? (D.list dT l) (.slice A l.length cap) k r = RF at HF ⊢
  have HKB := Aside0.mk h1
  revert HKF HKB
  generalize hKF : k + ((D.list dT l).cnt : Int) = KF
  intro HKF HKB
  have HR := Aside0.mk hR
  have HBk := Aside0.mk hB
  have HSt := Aside0.mk hSt
  have H0 := Aside0.mk h0
  have HT := Aside0.mk hT
  have hK := Aside0.mk hKF
  clear hR hB h0 h1 hSt hKF hT
  subst hkk
  go_enter Try.func20, Try.ntmps20
  go_wp2
  go_loopg [1, 5] l.length (fun gg v1 v5 wr => ∃ (x1 x5 : Int) (q : Rd), v1 = .int .i64 x1 ∧ v5 = .int .i64 x5 ∧ Aside0 (0 ≤ x5 ∧ x5 ≤ l.length ∧ l.length - x5.toNat ≤ gg) ∧ Aside0 (0 < x1 ∧ x1 + ((D.list dT (l.drop x5.toNat)).cnt : Int) = KF) ∧ Aside0 (rest T W A (D.list dT (l.drop x5.toNat)) (x5.toNat) x1 q = RF) ∧ Aside0 (St W base S wr q))
  case atStart => exact ⟨k', 0, r, rfl, rfl, ⟨⟨by omega, by omega, by omega⟩⟩, ⟨⟨H0.out, by simpa using hK.out⟩⟩, ⟨by simpa using HF.out⟩, HSt⟩
  case round =>
    clear HSt HF
    obtain ⟨x1, x5, q, rfl, rfl, HX, HK, HO, HS⟩ := hrel
    by_cases hlt : x5 < (l.length : Int)
    · have hltb : decide (x5 < (l.length : Int)) = true := decide_eq_true hlt
      have p6 : (0 ≤ x5) = True := eq_true HX.out.1
      have q6 : (x5 < (l.length : Int)) = True := eq_true hlt
      have hj : x5.toNat < l.length := by have := HX.out.1; omega
      obtain ⟨g, ead, hL⟩ : ∃ g, A = some ⟨g, 0, none⟩ ∧ Lay W.cell? (D.list dT l) g 0 := by
        rcases HR.out with ⟨_, hn0, _⟩ | ⟨a, cap', e, _, _, hL⟩
        · omega
        · injection e with e1 e2 e3
          exact ⟨a, e1, hL⟩
      subst ead
      have hG : ∀ b, b = g ∨ b ∈ bl W.cell? (D.list dT l) g 0 → S b ∧ Blk W base W.heap.size b := fun b hb => HBk.out b (by
        unfold rbl hd
        rcases hb with rfl | hb
        · exact List.mem_cons_self
        · exact List.mem_cons_of_mem _ hb)
      obtain ⟨hl, hb⟩ := Lay.drop szT l 0 x5.toNat hL
      have hO := HO.out
      have hKx := HK.out
      have hyl : l[x5.toNat] ∈ l := List.getElem_mem hj
      have hnx : x5.toNat + 1 = (x5 + 1).toNat := by have := HX.out.1; omega
      rw [List.drop_eq_getElem_cons hj, Nat.zero_add] at hl hb
      rw [List.drop_eq_getElem_cons hj] at hO hKx
      rw [hnx] at hl hb hO hKx
      generalize l[x5.toNat] = y at hl hb hO hKx hyl
      rw [Nat.mul_one] at hl hb
      obtain ⟨e0, hbl, hov⟩ := openT hl.1
      have GG := Aside0.mk (hG g (.inl rfl))
      have hcy := cntT y
      have hcl : (D.list dT (y :: l.drop (x5 + 1).toNat)).cnt = (dT y).cnt + (D.list dT (l.drop (x5 + 1).toNat)).cnt := rfl
      rw [hcl, hcy] at hKx
      have hO2 : ov T W.cell? (D.list dT (l.drop (x5 + 1).toNat)) g (x5.toNat + (dT y).sz) (x1 + ((dT y).cnt : Int)) (ov T W.cell? (dT y) g (x5.toNat) x1 q) = RF := hO
      rw [hov, hcy, szT, show x5.toNat + 1 = (x5 + 1).toNat by rw [← hnx], show x1 + (((1 : Nat)) : Int) = x1 + 1 by omega] at hO2
      have HO2 := Aside0.mk hO2
      have HKx := Aside0.mk hKx
      have HKB2 := HKB.out
      have WW0 := Aside0.mk (show wrap64 (x1 + 1) = x1 + 1 by unfold wrap64; have := HK.out.1; omega)
      have W0 := Aside0.mk (show wrap64 (x5 + 1) = x5 + 1 by unfold wrap64; have := HX.out.1; omega)
      have C3 := Aside0.mk hlt
      have E0 := Aside0.mk e0
      have HY := Aside0.mk hyl
      clear HO HKB2 hO hO2 hKx hcl hcy hl hb hL hG hj hnx hyl hlt hbl hov e0 
      go_wp2_with (first
        | ((with_reducible refine gate_callee (f := 52) rfl ?_); refine goesL_ (some 15) rfl rfl Try.func52 (by kernel_rfl) rfl #[.int .i64 (x1)] rfl (by (try simp only [List.map_toArray, List.map_cons, List.map_nil]); first | done | rfl) ?_
           (with_reducible refine (HT.out _ (x1) _ (rfl) (by have := HK.out.1; omega) (by have := HKx.out; have := HKB.out; omega)).mono ?_)
           rintro e wt0 ⟨rfl, hb⟩
           refine ⟨_, rfl, ?_⟩
           have n0_ := Aside0.mk (HS.out.below hb)
           clear HS hb
           have HS := n0_
           clear n0_
           obtain ⟨j0, hx0⟩ := HS.out.M.str _ _ E0.out
           have hz0 := (HS.out.M.froz ⟨g, x5.toNat, none⟩ GG.out.2.2.1).trans (GG.out.2.2.2 _)
           have HX0 := Aside0.mk hx0)
        | ((with_reducible refine gate_store (t := 9) (p := 16) rfl ?_); refine store_event (t := 9) (p := 16) (v := ?vo_ws0) (w1 := (wt0.setCell ⟨g, x5.toNat, none⟩ (.string (T (x1))))) ?hg ?ho ?hn ?hr ?_; (case ho => rfl); (case hg => rfl); (case hn => rfl); (case hr => first | (go_simp; done) | (go_simp; rfl)); intro ws0 hw
           have n0_ := Aside0.mk (show St W base S ws0 (upd (q) ⟨g, x5.toNat, none⟩ (.string (T (x1)))) by rw [hw]; exact HS.out.putStr HX0.out GG.out.1 GG.out.2.1 _)
           clear HS hw hx0 hz0
           have HS := n0_
           clear n0_))
      go_roundg (l.length - (x5 + 1).toNat)
      case measure => have := HX.out; have := C3.out; omega
      case rel => exact ⟨x1 + 1, x5 + 1, _, by rw [WW0.out], by rw [W0.out], ⟨⟨by have := HX.out; omega, by have := C3.out; omega, by omega⟩⟩, ⟨⟨by have := HK.out.1; omega, by have := HKx.out; omega⟩⟩, ⟨HO2.out⟩, HS⟩
    · have hltb : decide (x5 < (l.length : Int)) = false := decide_eq_false hlt
      have hO := HO.out
      have hKx := HK.out.2
      rw [List.drop_eq_nil_of_le (by omega)] at hO hKx
      have hq : q = RF := by cases A <;> exact hO
      have hk : x1 = KF := by simpa [D.list, D.cnt] using hKx
      subst hq hk
      clear hO hKx hlt HO HK
      go_wp2
      go_ret
      exact ⟨rfl, HS.out⟩
set_option maxHeartbeats 4000000 in
set_option maxRecDepth 100000 in
theorem markV {T : Int → ByteArray} (hT : TextC T) (W : World) (base : Nat) (S : Nat → Prop) : ∀ l : List S30, MarkC T W base S 51 dV l := by
  refine indVs (fun l ih => ?_)
  intro v k k' r w hkk hR hB h0 h1 hSt
  obtain ⟨A, cap, rfl, hn, hm⟩ := RowAt.sl hR
  have HF := Aside0.mk (show rest T W A (D.list dV l) 0 k r = rov T W.cell? (D.list dV l) (.slice A l.length cap) k r by cases A <;> rfl)
  have HKF := Aside0.mk (show k + ((D.list dV l).cnt : Int) = k + ((D.list dV l).cnt : Int) from rfl)
  generalize rov T W.cell? (D.list dV l) (.slice A l.length cap) k r = RF at HF ⊢
  have HKB := Aside0.mk h1
  revert HKF HKB
  generalize hKF : k + ((D.list dV l).cnt : Int) = KF
  intro HKF HKB
  have HR := Aside0.mk hR
  have HBk := Aside0.mk hB
  have HSt := Aside0.mk hSt
  have H0 := Aside0.mk h0
  have HT := Aside0.mk hT
  have hK := Aside0.mk hKF
  have IH := Aside0.mk ih
  clear hR hB h0 h1 hSt hKF hT ih
  subst hkk
  go_enter Try.func51, Try.ntmps51
  go_wp2
  go_loopg [1, 5] l.length (fun gg v1 v5 wr => ∃ (x1 x5 : Int) (q : Rd), v1 = .int .i64 x1 ∧ v5 = .int .i64 x5 ∧ Aside0 (0 ≤ x5 ∧ x5 ≤ l.length ∧ l.length - x5.toNat ≤ gg) ∧ Aside0 (0 < x1 ∧ x1 + ((D.list dV (l.drop x5.toNat)).cnt : Int) = KF) ∧ Aside0 (rest T W A (D.list dV (l.drop x5.toNat)) (x5.toNat * 4) x1 q = RF) ∧ Aside0 (St W base S wr q))
  case atStart => exact ⟨k', 0, r, rfl, rfl, ⟨⟨by omega, by omega, by omega⟩⟩, ⟨⟨H0.out, by simpa using hK.out⟩⟩, ⟨by simpa using HF.out⟩, HSt⟩
  case round =>
    clear HSt HF
    obtain ⟨x1, x5, q, rfl, rfl, HX, HK, HO, HS⟩ := hrel
    by_cases hlt : x5 < (l.length : Int)
    · have hltb : decide (x5 < (l.length : Int)) = true := decide_eq_true hlt
      have p6 : (0 ≤ x5) = True := eq_true HX.out.1
      have q6 : (x5 < (l.length : Int)) = True := eq_true hlt
      have hj : x5.toNat < l.length := by have := HX.out.1; omega
      obtain ⟨g, ead, hL⟩ : ∃ g, A = some ⟨g, 0, none⟩ ∧ Lay W.cell? (D.list dV l) g 0 := by
        rcases HR.out with ⟨_, hn0, _⟩ | ⟨a, cap', e, _, _, hL⟩
        · omega
        · injection e with e1 e2 e3
          exact ⟨a, e1, hL⟩
      subst ead
      have hG : ∀ b, b = g ∨ b ∈ bl W.cell? (D.list dV l) g 0 → S b ∧ Blk W base W.heap.size b := fun b hb => HBk.out b (by
        unfold rbl hd
        rcases hb with rfl | hb
        · exact List.mem_cons_self
        · exact List.mem_cons_of_mem _ hb)
      obtain ⟨hl, hb⟩ := Lay.drop szV l 0 x5.toNat hL
      have hO := HO.out
      have hKx := HK.out
      have hyl : l[x5.toNat] ∈ l := List.getElem_mem hj
      have hnx : x5.toNat + 1 = (x5 + 1).toNat := by have := HX.out.1; omega
      rw [List.drop_eq_getElem_cons hj, Nat.zero_add] at hl hb
      rw [List.drop_eq_getElem_cons hj] at hO hKx
      rw [hnx] at hl hb hO hKx
      generalize l[x5.toNat] = y at hl hb hO hKx hyl
      obtain ⟨A2, c2, A3, c3, e0, e1, e2, e3, h2, h3, hbl, hov⟩ := openV hl.1
      have B2 := Aside0.mk (show ∀ b ∈ rbl W.cell? (D.list dV y.f2) (.slice A2 y.f2.length c2), S b ∧ Blk W base W.heap.size b from fun b hq => hG b (.inr (hb b (by rw [D.list, bl, hbl]; exact List.mem_append_left _ (List.mem_append_left _ hq)))))
      have B3 := Aside0.mk (show ∀ b ∈ rbl W.cell? (D.list dT y.f3) (.slice A3 y.f3.length c3), S b ∧ Blk W base W.heap.size b from fun b hq => hG b (.inr (hb b (by rw [D.list, bl, hbl]; exact List.mem_append_left _ (List.mem_append_right _ (List.mem_append_left _ hq))))))
      have GG := Aside0.mk (hG g (.inl rfl))
      have hcy := cntV y
      have hcl : (D.list dV (y :: l.drop (x5 + 1).toNat)).cnt = (dV y).cnt + (D.list dV (l.drop (x5 + 1).toNat)).cnt := rfl
      rw [hcl, hcy] at hKx
      have hO2 : ov T W.cell? (D.list dV (l.drop (x5 + 1).toNat)) g (x5.toNat * 4 + (dV y).sz) (x1 + ((dV y).cnt : Int)) (ov T W.cell? (dV y) g (x5.toNat * 4) x1 q) = RF := hO
      rw [hov, hcy, szV, show x5.toNat * 4 + 4 = (x5 + 1).toNat * 4 by rw [← hnx]; omega, show x1 + (((2 + (D.list dV y.f2).cnt + (D.list dT y.f3).cnt : Nat)) : Int) = x1 + 1 + 1 + ((D.list dV y.f2).cnt : Int) + ((D.list dT y.f3).cnt : Int) by omega] at hO2
      have HO2 := Aside0.mk hO2
      have HKx := Aside0.mk hKx
      have HKB2 := HKB.out
      have WW0 := Aside0.mk (show wrap64 (x1 + 1) = x1 + 1 by unfold wrap64; have := HK.out.1; omega)
      have WW1 := Aside0.mk (show wrap64 (x1 + 1 + 1) = x1 + 1 + 1 by unfold wrap64; have := HK.out.1; omega)
      have W0 := Aside0.mk (show wrap64 (x5 + 1) = x5 + 1 by unfold wrap64; have := HX.out.1; omega)
      have C3 := Aside0.mk hlt
      have E0 := Aside0.mk e0
      have E1 := Aside0.mk e1
      have E2 := Aside0.mk e2
      have E3 := Aside0.mk e3
      have R2 := Aside0.mk h2
      have R3 := Aside0.mk h3
      have HY := Aside0.mk hyl
      clear HO HKB2 hO hO2 hKx hcl hcy hl hb hL hG hj hnx hyl hlt hbl hov e0 e1 e2 e3 h2 h3
      obtain ⟨j0, hx0⟩ := HS.out.M.int _ _ E0.out
      have hz0 := (HS.out.M.froz ⟨g, x5.toNat * 4, none⟩ GG.out.2.2.1).trans (GG.out.2.2.2 _)
      have HX0 := Aside0.mk hx0
      go_wp2_with (first
        | ((with_reducible refine gate_store (t := 3) (p := 16) rfl ?_); refine store_event (t := 3) (p := 16) (v := ?vo_ws0) (w1 := (wr.setCell ⟨g, x5.toNat * 4, none⟩ (.int .i64 (x1)))) ?hg ?ho ?hn ?hr ?_; (case ho => rfl); (case hg => rfl); (case hn => rfl); (case hr => first | (go_simp; done) | (go_simp; rfl)); intro ws0 hw
           have n0_ := Aside0.mk (show St W base S ws0 (upd (q) ⟨g, x5.toNat * 4, none⟩ (.int .i64 (x1))) by rw [hw]; exact HS.out.putInt HX0.out GG.out.1 GG.out.2.1 _)
           clear HS hw hx0 hz0
           have HS := n0_
           clear n0_)
        | ((with_reducible refine gate_callee (f := 52) rfl ?_); refine goesL_ (some 22) rfl rfl Try.func52 (by kernel_rfl) rfl #[.int .i64 (wrap64 (x1 + 1))] rfl (by (try simp only [List.map_toArray, List.map_cons, List.map_nil]); first | done | rfl) ?_
           (with_reducible refine (HT.out _ (x1 + 1) _ (by rw [WW0.out]) (by have := HK.out.1; omega) (by have := HKx.out; have := HKB.out; omega)).mono ?_)
           rintro e wt1 ⟨rfl, hb⟩
           refine ⟨_, rfl, ?_⟩
           have n0_ := Aside0.mk (HS.out.below hb)
           clear HS hb
           have HS := n0_
           clear n0_
           obtain ⟨j1, hx1⟩ := HS.out.M.str _ _ E1.out
           have hz1 := (HS.out.M.froz ⟨g, x5.toNat * 4 + 1, none⟩ GG.out.2.2.1).trans (GG.out.2.2.2 _)
           have HX1 := Aside0.mk hx1)
        | ((with_reducible refine gate_store (t := 9) (p := 24) rfl ?_); refine store_event (t := 9) (p := 24) (v := ?vo_ws1) (w1 := (wt1.setCell ⟨g, x5.toNat * 4 + 1, none⟩ (.string (T (x1 + 1))))) ?hg ?ho ?hn ?hr ?_; (case ho => rfl); (case hg => rfl); (case hn => rfl); (case hr => first | (go_simp; done) | (go_simp; rfl)); intro ws1 hw
           have n0_ := Aside0.mk (show St W base S ws1 (upd (upd (q) ⟨g, x5.toNat * 4, none⟩ (.int .i64 (x1))) ⟨g, x5.toNat * 4 + 1, none⟩ (.string (T (x1 + 1)))) by rw [hw]; exact HS.out.putStr HX1.out GG.out.1 GG.out.2.1 _)
           clear HS hw hx1 hz1
           have HS := n0_
           clear n0_
           have hx2 := HS.out.M.row _ _ _ _ E2.out)
        | ((with_reducible refine gate_callee (f := 51) rfl ?_); refine goesL_ (some 33) rfl rfl Try.func51 (by kernel_rfl) rfl #[.slice A2 y.f2.length c2, .int .i64 (wrap64 (wrap64 (x1 + 1) + 1))] rfl (by (try simp only [List.map_toArray, List.map_cons, List.map_nil]); first | done | rfl) ?_
           (with_reducible refine (IH.out y HY.out _ (x1 + 1 + 1) _ _ _ (by rw [WW0.out, WW1.out]) R2.out B2.out (by have := HK.out.1; omega) (by have := HKx.out; have := HKB.out; omega) HS.out).mono ?_)
           rintro e wc2 ⟨rfl, hs2⟩
           refine ⟨_, rfl, ?_⟩
           clear HS hx2
           have HS := Aside0.mk hs2
           clear hs2
           have hx3 := HS.out.M.row _ _ _ _ E3.out)
        | ((with_reducible refine gate_callee (f := 20) rfl ?_); refine goesL_ (some 40) rfl rfl Try.func20 (by kernel_rfl) rfl #[.slice A3 y.f3.length c3, .int .i64 (x1 + 1 + 1 + ((D.list dV y.f2).cnt : Int))] rfl (by (try simp only [List.map_toArray, List.map_cons, List.map_nil]); first | done | rfl) ?_
           (with_reducible refine (markT HT.out W base S y.f3 _ (x1 + 1 + 1 + ((D.list dV y.f2).cnt : Int)) _ _ _ (rfl) R3.out B3.out (by have := HK.out.1; omega) (by have := HKx.out; have := HKB.out; omega) HS.out).mono ?_)
           rintro e wc3 ⟨rfl, hs2⟩
           refine ⟨_, rfl, ?_⟩
           clear HS hx3
           have HS := Aside0.mk hs2
           clear hs2))
      go_roundg (l.length - (x5 + 1).toNat)
      case measure => have := HX.out; have := C3.out; omega
      case rel => exact ⟨x1 + 1 + 1 + ((D.list dV y.f2).cnt : Int) + ((D.list dT y.f3).cnt : Int), x5 + 1, _, rfl, by rw [W0.out], ⟨⟨by have := HX.out; omega, by have := C3.out; omega, by omega⟩⟩, ⟨⟨by have := HK.out.1; omega, by have := HKx.out; omega⟩⟩, ⟨HO2.out⟩, HS⟩
    · have hltb : decide (x5 < (l.length : Int)) = false := decide_eq_false hlt
      have hO := HO.out
      have hKx := HK.out.2
      rw [List.drop_eq_nil_of_le (by omega)] at hO hKx
      have hq : q = RF := by cases A <;> exact hO
      have hk : x1 = KF := by simpa [D.list, D.cnt] using hKx
      subst hq hk
      clear hO hKx hlt HO HK
      go_wp2
      go_ret
      exact ⟨rfl, HS.out⟩
set_option maxHeartbeats 4000000 in
set_option maxRecDepth 100000 in
theorem markA {T : Int → ByteArray} (hT : TextC T) (W : World) (base : Nat) (S : Nat → Prop) : ∀ l : List S78, MarkC T W base S 64 dA l := by
  intro l
  intro v k k' r w hkk hR hB h0 h1 hSt
  obtain ⟨A, cap, rfl, hn, hm⟩ := RowAt.sl hR
  have HF := Aside0.mk (show rest T W A (D.list dA l) 0 k r = rov T W.cell? (D.list dA l) (.slice A l.length cap) k r by cases A <;> rfl)
  have HKF := Aside0.mk (show k + ((D.list dA l).cnt : Int) = k + ((D.list dA l).cnt : Int) from rfl)
  generalize rov T W.cell? (D.list dA l) (.slice A l.length cap) k r = RF at HF ⊢
  have HKB := Aside0.mk h1
  revert HKF HKB
  generalize hKF : k + ((D.list dA l).cnt : Int) = KF
  intro HKF HKB
  have HR := Aside0.mk hR
  have HBk := Aside0.mk hB
  have HSt := Aside0.mk hSt
  have H0 := Aside0.mk h0
  have HT := Aside0.mk hT
  have hK := Aside0.mk hKF
  clear hR hB h0 h1 hSt hKF hT
  subst hkk
  go_enter Try.func64, Try.ntmps64
  go_wp2
  go_loopg [1, 5] l.length (fun gg v1 v5 wr => ∃ (x1 x5 : Int) (q : Rd), v1 = .int .i64 x1 ∧ v5 = .int .i64 x5 ∧ Aside0 (0 ≤ x5 ∧ x5 ≤ l.length ∧ l.length - x5.toNat ≤ gg) ∧ Aside0 (0 < x1 ∧ x1 + ((D.list dA (l.drop x5.toNat)).cnt : Int) = KF) ∧ Aside0 (rest T W A (D.list dA (l.drop x5.toNat)) (x5.toNat * 5) x1 q = RF) ∧ Aside0 (St W base S wr q))
  case atStart => exact ⟨k', 0, r, rfl, rfl, ⟨⟨by omega, by omega, by omega⟩⟩, ⟨⟨H0.out, by simpa using hK.out⟩⟩, ⟨by simpa using HF.out⟩, HSt⟩
  case round =>
    clear HSt HF
    obtain ⟨x1, x5, q, rfl, rfl, HX, HK, HO, HS⟩ := hrel
    by_cases hlt : x5 < (l.length : Int)
    · have hltb : decide (x5 < (l.length : Int)) = true := decide_eq_true hlt
      have p6 : (0 ≤ x5) = True := eq_true HX.out.1
      have q6 : (x5 < (l.length : Int)) = True := eq_true hlt
      have hj : x5.toNat < l.length := by have := HX.out.1; omega
      obtain ⟨g, ead, hL⟩ : ∃ g, A = some ⟨g, 0, none⟩ ∧ Lay W.cell? (D.list dA l) g 0 := by
        rcases HR.out with ⟨_, hn0, _⟩ | ⟨a, cap', e, _, _, hL⟩
        · omega
        · injection e with e1 e2 e3
          exact ⟨a, e1, hL⟩
      subst ead
      have hG : ∀ b, b = g ∨ b ∈ bl W.cell? (D.list dA l) g 0 → S b ∧ Blk W base W.heap.size b := fun b hb => HBk.out b (by
        unfold rbl hd
        rcases hb with rfl | hb
        · exact List.mem_cons_self
        · exact List.mem_cons_of_mem _ hb)
      obtain ⟨hl, hb⟩ := Lay.drop szA l 0 x5.toNat hL
      have hO := HO.out
      have hKx := HK.out
      have hyl : l[x5.toNat] ∈ l := List.getElem_mem hj
      have hnx : x5.toNat + 1 = (x5 + 1).toNat := by have := HX.out.1; omega
      rw [List.drop_eq_getElem_cons hj, Nat.zero_add] at hl hb
      rw [List.drop_eq_getElem_cons hj] at hO hKx
      rw [hnx] at hl hb hO hKx
      generalize l[x5.toNat] = y at hl hb hO hKx hyl
      obtain ⟨A3, c3, A4, c4, e0, e1, e2, e3, e4, h3, h4, hbl, hov⟩ := openA hl.1
      have B3 := Aside0.mk (show ∀ b ∈ rbl W.cell? (D.list dV y.f1.f2) (.slice A3 y.f1.f2.length c3), S b ∧ Blk W base W.heap.size b from fun b hq => hG b (.inr (hb b (by rw [D.list, bl, hbl]; exact List.mem_append_left _ (List.mem_append_left _ hq)))))
      have B4 := Aside0.mk (show ∀ b ∈ rbl W.cell? (D.list dT y.f1.f3) (.slice A4 y.f1.f3.length c4), S b ∧ Blk W base W.heap.size b from fun b hq => hG b (.inr (hb b (by rw [D.list, bl, hbl]; exact List.mem_append_left _ (List.mem_append_right _ (List.mem_append_left _ hq))))))
      have GG := Aside0.mk (hG g (.inl rfl))
      have hcy := cntA y
      have hcl : (D.list dA (y :: l.drop (x5 + 1).toNat)).cnt = (dA y).cnt + (D.list dA (l.drop (x5 + 1).toNat)).cnt := rfl
      rw [hcl, hcy] at hKx
      have hO2 : ov T W.cell? (D.list dA (l.drop (x5 + 1).toNat)) g (x5.toNat * 5 + (dA y).sz) (x1 + ((dA y).cnt : Int)) (ov T W.cell? (dA y) g (x5.toNat * 5) x1 q) = RF := hO
      rw [hov, hcy, szA, show x5.toNat * 5 + 5 = (x5 + 1).toNat * 5 by rw [← hnx]; omega, show x1 + (((3 + (D.list dV y.f1.f2).cnt + (D.list dT y.f1.f3).cnt : Nat)) : Int) = x1 + 1 + 1 + 1 + ((D.list dV y.f1.f2).cnt : Int) + ((D.list dT y.f1.f3).cnt : Int) by omega] at hO2
      have HO2 := Aside0.mk hO2
      have HKx := Aside0.mk hKx
      have HKB2 := HKB.out
      have WW0 := Aside0.mk (show wrap64 (x1 + 1) = x1 + 1 by unfold wrap64; have := HK.out.1; omega)
      have WW1 := Aside0.mk (show wrap64 (x1 + 1 + 1) = x1 + 1 + 1 by unfold wrap64; have := HK.out.1; omega)
      have WW2 := Aside0.mk (show wrap64 (x1 + 1 + 1 + 1) = x1 + 1 + 1 + 1 by unfold wrap64; have := HK.out.1; omega)
      have W0 := Aside0.mk (show wrap64 (x5 + 1) = x5 + 1 by unfold wrap64; have := HX.out.1; omega)
      have C3 := Aside0.mk hlt
      have E0 := Aside0.mk e0
      have E1 := Aside0.mk e1
      have E2 := Aside0.mk e2
      have E3 := Aside0.mk e3
      have E4 := Aside0.mk e4
      have R3 := Aside0.mk h3
      have R4 := Aside0.mk h4
      have HY := Aside0.mk hyl
      clear HO HKB2 hO hO2 hKx hcl hcy hl hb hL hG hj hnx hyl hlt hbl hov e0 e1 e2 e3 e4 h3 h4
      go_wp2_with (first
        | ((with_reducible refine gate_callee (f := 52) rfl ?_); refine goesL_ (some 15) rfl rfl Try.func52 (by kernel_rfl) rfl #[.int .i64 (x1)] rfl (by (try simp only [List.map_toArray, List.map_cons, List.map_nil]); first | done | rfl) ?_
           (with_reducible refine (HT.out _ (x1) _ (rfl) (by have := HK.out.1; omega) (by have := HKx.out; have := HKB.out; omega)).mono ?_)
           rintro e wt0 ⟨rfl, hb⟩
           refine ⟨_, rfl, ?_⟩
           have n0_ := Aside0.mk (HS.out.below hb)
           clear HS hb
           have HS := n0_
           clear n0_
           obtain ⟨j0, hx0⟩ := HS.out.M.str _ _ E0.out
           have hz0 := (HS.out.M.froz ⟨g, x5.toNat * 5, none⟩ GG.out.2.2.1).trans (GG.out.2.2.2 _)
           have HX0 := Aside0.mk hx0)
        | ((with_reducible refine gate_store (t := 9) (p := 17) rfl ?_); refine store_event (t := 9) (p := 17) (v := ?vo_ws0) (w1 := (wt0.setCell ⟨g, x5.toNat * 5, none⟩ (.string (T (x1))))) ?hg ?ho ?hn ?hr ?_; (case ho => rfl); (case hg => rfl); (case hn => rfl); (case hr => first | (go_simp; done) | (go_simp; rfl)); intro ws0 hw
           have n0_ := Aside0.mk (show St W base S ws0 (upd (q) ⟨g, x5.toNat * 5, none⟩ (.string (T (x1)))) by rw [hw]; exact HS.out.putStr HX0.out GG.out.1 GG.out.2.1 _)
           clear HS hw hx0 hz0
           have HS := n0_
           clear n0_
           obtain ⟨j1, hx1⟩ := HS.out.M.int _ _ E1.out
           have hz1 := (HS.out.M.froz ⟨g, x5.toNat * 5 + 1, none⟩ GG.out.2.2.1).trans (GG.out.2.2.2 _)
           have HX1 := Aside0.mk hx1)
        | ((with_reducible refine gate_store (t := 3) (p := 25) rfl ?_); refine store_event (t := 3) (p := 25) (v := ?vo_ws1) (w1 := (ws0.setCell ⟨g, x5.toNat * 5 + 1, none⟩ (.int .i64 (wrap64 (x1 + 1))))) ?hg ?ho ?hn ?hr ?_; (case ho => rfl); (case hg => rfl); (case hn => rfl); (case hr => first | (go_simp; done) | (go_simp; rfl)); intro ws1 hw
           have n0_ := Aside0.mk (show St W base S ws1 (upd (upd (q) ⟨g, x5.toNat * 5, none⟩ (.string (T (x1)))) ⟨g, x5.toNat * 5 + 1, none⟩ (.int .i64 (x1 + 1))) by rw [hw, show wrap64 (x1 + 1) = x1 + 1 from by rw [WW0.out]]; exact HS.out.putInt HX1.out GG.out.1 GG.out.2.1 _)
           clear HS hw hx1 hz1
           have HS := n0_
           clear n0_)
        | ((with_reducible refine gate_callee (f := 52) rfl ?_); refine goesL_ (some 31) rfl rfl Try.func52 (by kernel_rfl) rfl #[.int .i64 (wrap64 (wrap64 (x1 + 1) + 1))] rfl (by (try simp only [List.map_toArray, List.map_cons, List.map_nil]); first | done | rfl) ?_
           (with_reducible refine (HT.out _ (x1 + 1 + 1) _ (by rw [WW0.out, WW1.out]) (by have := HK.out.1; omega) (by have := HKx.out; have := HKB.out; omega)).mono ?_)
           rintro e wt2 ⟨rfl, hb⟩
           refine ⟨_, rfl, ?_⟩
           have n0_ := Aside0.mk (HS.out.below hb)
           clear HS hb
           have HS := n0_
           clear n0_
           obtain ⟨j2, hx2⟩ := HS.out.M.str _ _ E2.out
           have hz2 := (HS.out.M.froz ⟨g, x5.toNat * 5 + 2, none⟩ GG.out.2.2.1).trans (GG.out.2.2.2 _)
           have HX2 := Aside0.mk hx2)
        | ((with_reducible refine gate_store (t := 9) (p := 34) rfl ?_); refine store_event (t := 9) (p := 34) (v := ?vo_ws2) (w1 := (wt2.setCell ⟨g, x5.toNat * 5 + 2, none⟩ (.string (T (x1 + 1 + 1))))) ?hg ?ho ?hn ?hr ?_; (case ho => rfl); (case hg => rfl); (case hn => rfl); (case hr => first | (go_simp; done) | (go_simp; rfl)); intro ws2 hw
           have n0_ := Aside0.mk (show St W base S ws2 (upd (upd (upd (q) ⟨g, x5.toNat * 5, none⟩ (.string (T (x1)))) ⟨g, x5.toNat * 5 + 1, none⟩ (.int .i64 (x1 + 1))) ⟨g, x5.toNat * 5 + 2, none⟩ (.string (T (x1 + 1 + 1)))) by rw [hw]; exact HS.out.putStr HX2.out GG.out.1 GG.out.2.1 _)
           clear HS hw hx2 hz2
           have HS := n0_
           clear n0_
           have hx3 := HS.out.M.row _ _ _ _ E3.out)
        | ((with_reducible refine gate_callee (f := 51) rfl ?_); refine goesL_ (some 44) rfl rfl Try.func51 (by kernel_rfl) rfl #[.slice A3 y.f1.f2.length c3, .int .i64 (wrap64 (wrap64 (wrap64 (x1 + 1) + 1) + 1))] rfl (by (try simp only [List.map_toArray, List.map_cons, List.map_nil]); first | done | rfl) ?_
           (with_reducible refine (markV HT.out W base S y.f1.f2 _ (x1 + 1 + 1 + 1) _ _ _ (by rw [WW0.out, WW1.out, WW2.out]) R3.out B3.out (by have := HK.out.1; omega) (by have := HKx.out; have := HKB.out; omega) HS.out).mono ?_)
           rintro e wc3 ⟨rfl, hs2⟩
           refine ⟨_, rfl, ?_⟩
           clear HS hx3
           have HS := Aside0.mk hs2
           clear hs2
           have hx4 := HS.out.M.row _ _ _ _ E4.out)
        | ((with_reducible refine gate_callee (f := 20) rfl ?_); refine goesL_ (some 52) rfl rfl Try.func20 (by kernel_rfl) rfl #[.slice A4 y.f1.f3.length c4, .int .i64 (x1 + 1 + 1 + 1 + ((D.list dV y.f1.f2).cnt : Int))] rfl (by (try simp only [List.map_toArray, List.map_cons, List.map_nil]); first | done | rfl) ?_
           (with_reducible refine (markT HT.out W base S y.f1.f3 _ (x1 + 1 + 1 + 1 + ((D.list dV y.f1.f2).cnt : Int)) _ _ _ (rfl) R4.out B4.out (by have := HK.out.1; omega) (by have := HKx.out; have := HKB.out; omega) HS.out).mono ?_)
           rintro e wc4 ⟨rfl, hs2⟩
           refine ⟨_, rfl, ?_⟩
           clear HS hx4
           have HS := Aside0.mk hs2
           clear hs2))
      go_roundg (l.length - (x5 + 1).toNat)
      case measure => have := HX.out; have := C3.out; omega
      case rel => exact ⟨x1 + 1 + 1 + 1 + ((D.list dV y.f1.f2).cnt : Int) + ((D.list dT y.f1.f3).cnt : Int), x5 + 1, _, rfl, by rw [W0.out], ⟨⟨by have := HX.out; omega, by have := C3.out; omega, by omega⟩⟩, ⟨⟨by have := HK.out.1; omega, by have := HKx.out; omega⟩⟩, ⟨HO2.out⟩, HS⟩
    · have hltb : decide (x5 < (l.length : Int)) = false := decide_eq_false hlt
      have hO := HO.out
      have hKx := HK.out.2
      rw [List.drop_eq_nil_of_le (by omega)] at hO hKx
      have hq : q = RF := by cases A <;> exact hO
      have hk : x1 = KF := by simpa [D.list, D.cnt] using hKx
      subst hq hk
      clear hO hKx hlt HO HK
      go_wp2
      go_ret
      exact ⟨rfl, HS.out⟩
set_option maxHeartbeats 4000000 in
set_option maxRecDepth 100000 in
theorem markD {T : Int → ByteArray} (hT : TextC T) (W : World) (base : Nat) (S : Nat → Prop) : ∀ l : List S95, MarkC T W base S 65 dD l := by
  intro l
  intro v k k' r w hkk hR hB h0 h1 hSt
  obtain ⟨A, cap, rfl, hn, hm⟩ := RowAt.sl hR
  have HF := Aside0.mk (show rest T W A (D.list dD l) 0 k r = rov T W.cell? (D.list dD l) (.slice A l.length cap) k r by cases A <;> rfl)
  have HKF := Aside0.mk (show k + ((D.list dD l).cnt : Int) = k + ((D.list dD l).cnt : Int) from rfl)
  generalize rov T W.cell? (D.list dD l) (.slice A l.length cap) k r = RF at HF ⊢
  have HKB := Aside0.mk h1
  revert HKF HKB
  generalize hKF : k + ((D.list dD l).cnt : Int) = KF
  intro HKF HKB
  have HR := Aside0.mk hR
  have HBk := Aside0.mk hB
  have HSt := Aside0.mk hSt
  have H0 := Aside0.mk h0
  have HT := Aside0.mk hT
  have hK := Aside0.mk hKF
  clear hR hB h0 h1 hSt hKF hT
  subst hkk
  go_enter Try.func65, Try.ntmps65
  go_wp2
  go_loopg [1, 5] l.length (fun gg v1 v5 wr => ∃ (x1 x5 : Int) (q : Rd), v1 = .int .i64 x1 ∧ v5 = .int .i64 x5 ∧ Aside0 (0 ≤ x5 ∧ x5 ≤ l.length ∧ l.length - x5.toNat ≤ gg) ∧ Aside0 (0 < x1 ∧ x1 + ((D.list dD (l.drop x5.toNat)).cnt : Int) = KF) ∧ Aside0 (rest T W A (D.list dD (l.drop x5.toNat)) (x5.toNat * 2) x1 q = RF) ∧ Aside0 (St W base S wr q))
  case atStart => exact ⟨k', 0, r, rfl, rfl, ⟨⟨by omega, by omega, by omega⟩⟩, ⟨⟨H0.out, by simpa using hK.out⟩⟩, ⟨by simpa using HF.out⟩, HSt⟩
  case round =>
    clear HSt HF
    obtain ⟨x1, x5, q, rfl, rfl, HX, HK, HO, HS⟩ := hrel
    by_cases hlt : x5 < (l.length : Int)
    · have hltb : decide (x5 < (l.length : Int)) = true := decide_eq_true hlt
      have p6 : (0 ≤ x5) = True := eq_true HX.out.1
      have q6 : (x5 < (l.length : Int)) = True := eq_true hlt
      have hj : x5.toNat < l.length := by have := HX.out.1; omega
      obtain ⟨g, ead, hL⟩ : ∃ g, A = some ⟨g, 0, none⟩ ∧ Lay W.cell? (D.list dD l) g 0 := by
        rcases HR.out with ⟨_, hn0, _⟩ | ⟨a, cap', e, _, _, hL⟩
        · omega
        · injection e with e1 e2 e3
          exact ⟨a, e1, hL⟩
      subst ead
      have hG : ∀ b, b = g ∨ b ∈ bl W.cell? (D.list dD l) g 0 → S b ∧ Blk W base W.heap.size b := fun b hb => HBk.out b (by
        unfold rbl hd
        rcases hb with rfl | hb
        · exact List.mem_cons_self
        · exact List.mem_cons_of_mem _ hb)
      obtain ⟨hl, hb⟩ := Lay.drop szD l 0 x5.toNat hL
      have hO := HO.out
      have hKx := HK.out
      have hyl : l[x5.toNat] ∈ l := List.getElem_mem hj
      have hnx : x5.toNat + 1 = (x5 + 1).toNat := by have := HX.out.1; omega
      rw [List.drop_eq_getElem_cons hj, Nat.zero_add] at hl hb
      rw [List.drop_eq_getElem_cons hj] at hO hKx
      rw [hnx] at hl hb hO hKx
      generalize l[x5.toNat] = y at hl hb hO hKx hyl
      obtain ⟨A1, c1, e0, e1, h1, hbl, hov⟩ := openD hl.1
      have B1 := Aside0.mk (show ∀ b ∈ rbl W.cell? (D.list dA y.f1) (.slice A1 y.f1.length c1), S b ∧ Blk W base W.heap.size b from fun b hq => hG b (.inr (hb b (by rw [D.list, bl, hbl]; exact List.mem_append_left _ (List.mem_append_left _ hq)))))
      have GG := Aside0.mk (hG g (.inl rfl))
      have hcy := cntD y
      have hcl : (D.list dD (y :: l.drop (x5 + 1).toNat)).cnt = (dD y).cnt + (D.list dD (l.drop (x5 + 1).toNat)).cnt := rfl
      rw [hcl, hcy] at hKx
      have hO2 : ov T W.cell? (D.list dD (l.drop (x5 + 1).toNat)) g (x5.toNat * 2 + (dD y).sz) (x1 + ((dD y).cnt : Int)) (ov T W.cell? (dD y) g (x5.toNat * 2) x1 q) = RF := hO
      rw [hov, hcy, szD, show x5.toNat * 2 + 2 = (x5 + 1).toNat * 2 by rw [← hnx]; omega, show x1 + (((1 + (D.list dA y.f1).cnt : Nat)) : Int) = x1 + 1 + ((D.list dA y.f1).cnt : Int) by omega] at hO2
      have HO2 := Aside0.mk hO2
      have HKx := Aside0.mk hKx
      have HKB2 := HKB.out
      have WW0 := Aside0.mk (show wrap64 (x1 + 1) = x1 + 1 by unfold wrap64; have := HK.out.1; omega)
      have W0 := Aside0.mk (show wrap64 (x5 + 1) = x5 + 1 by unfold wrap64; have := HX.out.1; omega)
      have C3 := Aside0.mk hlt
      have E0 := Aside0.mk e0
      have E1 := Aside0.mk e1
      have R1 := Aside0.mk h1
      have HY := Aside0.mk hyl
      clear HO HKB2 hO hO2 hKx hcl hcy hl hb hL hG hj hnx hyl hlt hbl hov e0 e1 h1
      go_wp2_with (first
        | ((with_reducible refine gate_callee (f := 52) rfl ?_); refine goesL_ (some 15) rfl rfl Try.func52 (by kernel_rfl) rfl #[.int .i64 (x1)] rfl (by (try simp only [List.map_toArray, List.map_cons, List.map_nil]); first | done | rfl) ?_
           (with_reducible refine (HT.out _ (x1) _ (rfl) (by have := HK.out.1; omega) (by have := HKx.out; have := HKB.out; omega)).mono ?_)
           rintro e wt0 ⟨rfl, hb⟩
           refine ⟨_, rfl, ?_⟩
           have n0_ := Aside0.mk (HS.out.below hb)
           clear HS hb
           have HS := n0_
           clear n0_
           obtain ⟨j0, hx0⟩ := HS.out.M.str _ _ E0.out
           have hz0 := (HS.out.M.froz ⟨g, x5.toNat * 2, none⟩ GG.out.2.2.1).trans (GG.out.2.2.2 _)
           have HX0 := Aside0.mk hx0)
        | ((with_reducible refine gate_store (t := 9) (p := 17) rfl ?_); refine store_event (t := 9) (p := 17) (v := ?vo_ws0) (w1 := (wt0.setCell ⟨g, x5.toNat * 2, none⟩ (.string (T (x1))))) ?hg ?ho ?hn ?hr ?_; (case ho => rfl); (case hg => rfl); (case hn => rfl); (case hr => first | (go_simp; done) | (go_simp; rfl)); intro ws0 hw
           have n0_ := Aside0.mk (show St W base S ws0 (upd (q) ⟨g, x5.toNat * 2, none⟩ (.string (T (x1)))) by rw [hw]; exact HS.out.putStr HX0.out GG.out.1 GG.out.2.1 _)
           clear HS hw hx0 hz0
           have HS := n0_
           clear n0_
           have hx1 := HS.out.M.row _ _ _ _ E1.out)
        | ((with_reducible refine gate_callee (f := 64) rfl ?_); refine goesL_ (some 26) rfl rfl Try.func64 (by kernel_rfl) rfl #[.slice A1 y.f1.length c1, .int .i64 (wrap64 (x1 + 1))] rfl (by (try simp only [List.map_toArray, List.map_cons, List.map_nil]); first | done | rfl) ?_
           (with_reducible refine (markA HT.out W base S y.f1 _ (x1 + 1) _ _ _ (by rw [WW0.out]) R1.out B1.out (by have := HK.out.1; omega) (by have := HKx.out; have := HKB.out; omega) HS.out).mono ?_)
           rintro e wc1 ⟨rfl, hs2⟩
           refine ⟨_, rfl, ?_⟩
           clear HS hx1
           have HS := Aside0.mk hs2
           clear hs2))
      go_roundg (l.length - (x5 + 1).toNat)
      case measure => have := HX.out; have := C3.out; omega
      case rel => exact ⟨x1 + 1 + ((D.list dA y.f1).cnt : Int), x5 + 1, _, rfl, by rw [W0.out], ⟨⟨by have := HX.out; omega, by have := C3.out; omega, by omega⟩⟩, ⟨⟨by have := HK.out.1; omega, by have := HKx.out; omega⟩⟩, ⟨HO2.out⟩, HS⟩
    · have hltb : decide (x5 < (l.length : Int)) = false := decide_eq_false hlt
      have hO := HO.out
      have hKx := HK.out.2
      rw [List.drop_eq_nil_of_le (by omega)] at hO hKx
      have hq : q = RF := by cases A <;> exact hO
      have hk : x1 = KF := by simpa [D.list, D.cnt] using hKx
      subst hq hk
      clear hO hKx hlt HO HK
      go_wp2
      go_ret
      exact ⟨rfl, HS.out⟩
set_option maxHeartbeats 4000000 in
set_option maxRecDepth 100000 in
theorem markS {T : Int → ByteArray} (hT : TextC T) (W : World) (base : Nat) (S : Nat → Prop) : ∀ l : List S54, MarkC T W base S 37 dS l := by
  refine indSs (fun l ih => ?_)
  intro v k k' r w hkk hR hB h0 h1 hSt
  obtain ⟨A, cap, rfl, hn, hm⟩ := RowAt.sl hR
  have HF := Aside0.mk (show rest T W A (D.list dS l) 0 k r = rov T W.cell? (D.list dS l) (.slice A l.length cap) k r by cases A <;> rfl)
  have HKF := Aside0.mk (show k + ((D.list dS l).cnt : Int) = k + ((D.list dS l).cnt : Int) from rfl)
  generalize rov T W.cell? (D.list dS l) (.slice A l.length cap) k r = RF at HF ⊢
  have HKB := Aside0.mk h1
  revert HKF HKB
  generalize hKF : k + ((D.list dS l).cnt : Int) = KF
  intro HKF HKB
  have HR := Aside0.mk hR
  have HBk := Aside0.mk hB
  have HSt := Aside0.mk hSt
  have H0 := Aside0.mk h0
  have HT := Aside0.mk hT
  have hK := Aside0.mk hKF
  have IH := Aside0.mk ih
  clear hR hB h0 h1 hSt hKF hT ih
  subst hkk
  go_enter Try.func37, Try.ntmps37
  go_wp2
  go_loopg [1, 5] l.length (fun gg v1 v5 wr => ∃ (x1 x5 : Int) (q : Rd), v1 = .int .i64 x1 ∧ v5 = .int .i64 x5 ∧ Aside0 (0 ≤ x5 ∧ x5 ≤ l.length ∧ l.length - x5.toNat ≤ gg) ∧ Aside0 (0 < x1 ∧ x1 + ((D.list dS (l.drop x5.toNat)).cnt : Int) = KF) ∧ Aside0 (rest T W A (D.list dS (l.drop x5.toNat)) (x5.toNat * 7) x1 q = RF) ∧ Aside0 (St W base S wr q))
  case atStart => exact ⟨k', 0, r, rfl, rfl, ⟨⟨by omega, by omega, by omega⟩⟩, ⟨⟨H0.out, by simpa using hK.out⟩⟩, ⟨by simpa using HF.out⟩, HSt⟩
  case round =>
    clear HSt HF
    obtain ⟨x1, x5, q, rfl, rfl, HX, HK, HO, HS⟩ := hrel
    by_cases hlt : x5 < (l.length : Int)
    · have hltb : decide (x5 < (l.length : Int)) = true := decide_eq_true hlt
      have p6 : (0 ≤ x5) = True := eq_true HX.out.1
      have q6 : (x5 < (l.length : Int)) = True := eq_true hlt
      have hj : x5.toNat < l.length := by have := HX.out.1; omega
      obtain ⟨g, ead, hL⟩ : ∃ g, A = some ⟨g, 0, none⟩ ∧ Lay W.cell? (D.list dS l) g 0 := by
        rcases HR.out with ⟨_, hn0, _⟩ | ⟨a, cap', e, _, _, hL⟩
        · omega
        · injection e with e1 e2 e3
          exact ⟨a, e1, hL⟩
      subst ead
      have hG : ∀ b, b = g ∨ b ∈ bl W.cell? (D.list dS l) g 0 → S b ∧ Blk W base W.heap.size b := fun b hb => HBk.out b (by
        unfold rbl hd
        rcases hb with rfl | hb
        · exact List.mem_cons_self
        · exact List.mem_cons_of_mem _ hb)
      obtain ⟨hl, hb⟩ := Lay.drop szS l 0 x5.toNat hL
      have hO := HO.out
      have hKx := HK.out
      have hyl : l[x5.toNat] ∈ l := List.getElem_mem hj
      have hnx : x5.toNat + 1 = (x5 + 1).toNat := by have := HX.out.1; omega
      rw [List.drop_eq_getElem_cons hj, Nat.zero_add] at hl hb
      rw [List.drop_eq_getElem_cons hj] at hO hKx
      rw [hnx] at hl hb hO hKx
      generalize l[x5.toNat] = y at hl hb hO hKx hyl
      obtain ⟨A4, c4, A5, c5, A6, c6, e0, e1, e2, e3, e4, e5, e6, h4, h5, h6, hbl, hov⟩ := openS hl.1
      have B4 := Aside0.mk (show ∀ b ∈ rbl W.cell? (D.list dA y.f4) (.slice A4 y.f4.length c4), S b ∧ Blk W base W.heap.size b from fun b hq => hG b (.inr (hb b (by rw [D.list, bl, hbl]; exact List.mem_append_left _ (List.mem_append_left _ hq)))))
      have B5 := Aside0.mk (show ∀ b ∈ rbl W.cell? (D.list dD y.f5) (.slice A5 y.f5.length c5), S b ∧ Blk W base W.heap.size b from fun b hq => hG b (.inr (hb b (by rw [D.list, bl, hbl]; exact List.mem_append_left _ (List.mem_append_right _ (List.mem_append_left _ hq))))))
      have B6 := Aside0.mk (show ∀ b ∈ rbl W.cell? (D.list dS y.f6) (.slice A6 y.f6.length c6), S b ∧ Blk W base W.heap.size b from fun b hq => hG b (.inr (hb b (by rw [D.list, bl, hbl]; exact List.mem_append_left _ (List.mem_append_right _ (List.mem_append_right _ (List.mem_append_left _ hq)))))))
      have GG := Aside0.mk (hG g (.inl rfl))
      have hcy := cntS y
      have hcl : (D.list dS (y :: l.drop (x5 + 1).toNat)).cnt = (dS y).cnt + (D.list dS (l.drop (x5 + 1).toNat)).cnt := rfl
      rw [hcl, hcy] at hKx
      have hO2 : ov T W.cell? (D.list dS (l.drop (x5 + 1).toNat)) g (x5.toNat * 7 + (dS y).sz) (x1 + ((dS y).cnt : Int)) (ov T W.cell? (dS y) g (x5.toNat * 7) x1 q) = RF := hO
      rw [hov, hcy, szS, show x5.toNat * 7 + 7 = (x5 + 1).toNat * 7 by rw [← hnx]; omega, show x1 + (((4 + (D.list dA y.f4).cnt + (D.list dD y.f5).cnt + (D.list dS y.f6).cnt : Nat)) : Int) = x1 + 1 + 1 + 1 + 1 + ((D.list dA y.f4).cnt : Int) + ((D.list dD y.f5).cnt : Int) + ((D.list dS y.f6).cnt : Int) by omega] at hO2
      have HO2 := Aside0.mk hO2
      have HKx := Aside0.mk hKx
      have HKB2 := HKB.out
      have WW0 := Aside0.mk (show wrap64 (x1 + 1) = x1 + 1 by unfold wrap64; have := HK.out.1; omega)
      have WW1 := Aside0.mk (show wrap64 (x1 + 1 + 1) = x1 + 1 + 1 by unfold wrap64; have := HK.out.1; omega)
      have WW2 := Aside0.mk (show wrap64 (x1 + 1 + 1 + 1) = x1 + 1 + 1 + 1 by unfold wrap64; have := HK.out.1; omega)
      have WW3 := Aside0.mk (show wrap64 (x1 + 1 + 1 + 1 + 1) = x1 + 1 + 1 + 1 + 1 by unfold wrap64; have := HK.out.1; omega)
      have W0 := Aside0.mk (show wrap64 (x5 + 1) = x5 + 1 by unfold wrap64; have := HX.out.1; omega)
      have C3 := Aside0.mk hlt
      have E0 := Aside0.mk e0
      have E1 := Aside0.mk e1
      have E2 := Aside0.mk e2
      have E3 := Aside0.mk e3
      have E4 := Aside0.mk e4
      have E5 := Aside0.mk e5
      have E6 := Aside0.mk e6
      have R4 := Aside0.mk h4
      have R5 := Aside0.mk h5
      have R6 := Aside0.mk h6
      have HY := Aside0.mk hyl
      clear HO HKB2 hO hO2 hKx hcl hcy hl hb hL hG hj hnx hyl hlt hbl hov e0 e1 e2 e3 e4 e5 e6 h4 h5 h6
      obtain ⟨j0, hx0⟩ := HS.out.M.int _ _ E0.out
      have hz0 := (HS.out.M.froz ⟨g, x5.toNat * 7, none⟩ GG.out.2.2.1).trans (GG.out.2.2.2 _)
      have HX0 := Aside0.mk hx0
      go_wp2_with (first
        | ((with_reducible refine gate_store (t := 3) (p := 16) rfl ?_); refine store_event (t := 3) (p := 16) (v := ?vo_ws0) (w1 := (wr.setCell ⟨g, x5.toNat * 7, none⟩ (.int .i64 (x1)))) ?hg ?ho ?hn ?hr ?_; (case ho => rfl); (case hg => rfl); (case hn => rfl); (case hr => first | (go_simp; done) | (go_simp; rfl)); intro ws0 hw
           have n0_ := Aside0.mk (show St W base S ws0 (upd (q) ⟨g, x5.toNat * 7, none⟩ (.int .i64 (x1))) by rw [hw]; exact HS.out.putInt HX0.out GG.out.1 GG.out.2.1 _)
           clear HS hw hx0 hz0
           have HS := n0_
           clear n0_)
        | ((with_reducible refine gate_callee (f := 52) rfl ?_); refine goesL_ (some 22) rfl rfl Try.func52 (by kernel_rfl) rfl #[.int .i64 (wrap64 (x1 + 1))] rfl (by (try simp only [List.map_toArray, List.map_cons, List.map_nil]); first | done | rfl) ?_
           (with_reducible refine (HT.out _ (x1 + 1) _ (by rw [WW0.out]) (by have := HK.out.1; omega) (by have := HKx.out; have := HKB.out; omega)).mono ?_)
           rintro e wt1 ⟨rfl, hb⟩
           refine ⟨_, rfl, ?_⟩
           have n0_ := Aside0.mk (HS.out.below hb)
           clear HS hb
           have HS := n0_
           clear n0_
           obtain ⟨j1, hx1⟩ := HS.out.M.str _ _ E1.out
           have hz1 := (HS.out.M.froz ⟨g, x5.toNat * 7 + 1, none⟩ GG.out.2.2.1).trans (GG.out.2.2.2 _)
           have HX1 := Aside0.mk hx1)
        | ((with_reducible refine gate_store (t := 9) (p := 24) rfl ?_); refine store_event (t := 9) (p := 24) (v := ?vo_ws1) (w1 := (wt1.setCell ⟨g, x5.toNat * 7 + 1, none⟩ (.string (T (x1 + 1))))) ?hg ?ho ?hn ?hr ?_; (case ho => rfl); (case hg => rfl); (case hn => rfl); (case hr => first | (go_simp; done) | (go_simp; rfl)); intro ws1 hw
           have n0_ := Aside0.mk (show St W base S ws1 (upd (upd (q) ⟨g, x5.toNat * 7, none⟩ (.int .i64 (x1))) ⟨g, x5.toNat * 7 + 1, none⟩ (.string (T (x1 + 1)))) by rw [hw]; exact HS.out.putStr HX1.out GG.out.1 GG.out.2.1 _)
           clear HS hw hx1 hz1
           have HS := n0_
           clear n0_)
        | ((with_reducible refine gate_callee (f := 52) rfl ?_); refine goesL_ (some 30) rfl rfl Try.func52 (by kernel_rfl) rfl #[.int .i64 (wrap64 (wrap64 (x1 + 1) + 1))] rfl (by (try simp only [List.map_toArray, List.map_cons, List.map_nil]); first | done | rfl) ?_
           (with_reducible refine (HT.out _ (x1 + 1 + 1) _ (by rw [WW0.out, WW1.out]) (by have := HK.out.1; omega) (by have := HKx.out; have := HKB.out; omega)).mono ?_)
           rintro e wt2 ⟨rfl, hb⟩
           refine ⟨_, rfl, ?_⟩
           have n0_ := Aside0.mk (HS.out.below hb)
           clear HS hb
           have HS := n0_
           clear n0_
           obtain ⟨j2, hx2⟩ := HS.out.M.str _ _ E2.out
           have hz2 := (HS.out.M.froz ⟨g, x5.toNat * 7 + 2, none⟩ GG.out.2.2.1).trans (GG.out.2.2.2 _)
           have HX2 := Aside0.mk hx2)
        | ((with_reducible refine gate_store (t := 9) (p := 32) rfl ?_); refine store_event (t := 9) (p := 32) (v := ?vo_ws2) (w1 := (wt2.setCell ⟨g, x5.toNat * 7 + 2, none⟩ (.string (T (x1 + 1 + 1))))) ?hg ?ho ?hn ?hr ?_; (case ho => rfl); (case hg => rfl); (case hn => rfl); (case hr => first | (go_simp; done) | (go_simp; rfl)); intro ws2 hw
           have n0_ := Aside0.mk (show St W base S ws2 (upd (upd (upd (q) ⟨g, x5.toNat * 7, none⟩ (.int .i64 (x1))) ⟨g, x5.toNat * 7 + 1, none⟩ (.string (T (x1 + 1)))) ⟨g, x5.toNat * 7 + 2, none⟩ (.string (T (x1 + 1 + 1)))) by rw [hw]; exact HS.out.putStr HX2.out GG.out.1 GG.out.2.1 _)
           clear HS hw hx2 hz2
           have HS := n0_
           clear n0_)
        | ((with_reducible refine gate_callee (f := 52) rfl ?_); refine goesL_ (some 38) rfl rfl Try.func52 (by kernel_rfl) rfl #[.int .i64 (wrap64 (wrap64 (wrap64 (x1 + 1) + 1) + 1))] rfl (by (try simp only [List.map_toArray, List.map_cons, List.map_nil]); first | done | rfl) ?_
           (with_reducible refine (HT.out _ (x1 + 1 + 1 + 1) _ (by rw [WW0.out, WW1.out, WW2.out]) (by have := HK.out.1; omega) (by have := HKx.out; have := HKB.out; omega)).mono ?_)
           rintro e wt3 ⟨rfl, hb⟩
           refine ⟨_, rfl, ?_⟩
           have n0_ := Aside0.mk (HS.out.below hb)
           clear HS hb
           have HS := n0_
           clear n0_
           obtain ⟨j3, hx3⟩ := HS.out.M.str _ _ E3.out
           have hz3 := (HS.out.M.froz ⟨g, x5.toNat * 7 + 3, none⟩ GG.out.2.2.1).trans (GG.out.2.2.2 _)
           have HX3 := Aside0.mk hx3)
        | ((with_reducible refine gate_store (t := 9) (p := 40) rfl ?_); refine store_event (t := 9) (p := 40) (v := ?vo_ws3) (w1 := (wt3.setCell ⟨g, x5.toNat * 7 + 3, none⟩ (.string (T (x1 + 1 + 1 + 1))))) ?hg ?ho ?hn ?hr ?_; (case ho => rfl); (case hg => rfl); (case hn => rfl); (case hr => first | (go_simp; done) | (go_simp; rfl)); intro ws3 hw
           have n0_ := Aside0.mk (show St W base S ws3 (upd (upd (upd (upd (q) ⟨g, x5.toNat * 7, none⟩ (.int .i64 (x1))) ⟨g, x5.toNat * 7 + 1, none⟩ (.string (T (x1 + 1)))) ⟨g, x5.toNat * 7 + 2, none⟩ (.string (T (x1 + 1 + 1)))) ⟨g, x5.toNat * 7 + 3, none⟩ (.string (T (x1 + 1 + 1 + 1)))) by rw [hw]; exact HS.out.putStr HX3.out GG.out.1 GG.out.2.1 _)
           clear HS hw hx3 hz3
           have HS := n0_
           clear n0_
           have hx4 := HS.out.M.row _ _ _ _ E4.out)
        | ((with_reducible refine gate_callee (f := 64) rfl ?_); refine goesL_ (some 49) rfl rfl Try.func64 (by kernel_rfl) rfl #[.slice A4 y.f4.length c4, .int .i64 (wrap64 (wrap64 (wrap64 (wrap64 (x1 + 1) + 1) + 1) + 1))] rfl (by (try simp only [List.map_toArray, List.map_cons, List.map_nil]); first | done | rfl) ?_
           (with_reducible refine (markA HT.out W base S y.f4 _ (x1 + 1 + 1 + 1 + 1) _ _ _ (by rw [WW0.out, WW1.out, WW2.out, WW3.out]) R4.out B4.out (by have := HK.out.1; omega) (by have := HKx.out; have := HKB.out; omega) HS.out).mono ?_)
           rintro e wc4 ⟨rfl, hs2⟩
           refine ⟨_, rfl, ?_⟩
           clear HS hx4
           have HS := Aside0.mk hs2
           clear hs2
           have hx5 := HS.out.M.row _ _ _ _ E5.out)
        | ((with_reducible refine gate_callee (f := 65) rfl ?_); refine goesL_ (some 56) rfl rfl Try.func65 (by kernel_rfl) rfl #[.slice A5 y.f5.length c5, .int .i64 (x1 + 1 + 1 + 1 + 1 + ((D.list dA y.f4).cnt : Int))] rfl (by (try simp only [List.map_toArray, List.map_cons, List.map_nil]); first | done | rfl) ?_
           (with_reducible refine (markD HT.out W base S y.f5 _ (x1 + 1 + 1 + 1 + 1 + ((D.list dA y.f4).cnt : Int)) _ _ _ (rfl) R5.out B5.out (by have := HK.out.1; omega) (by have := HKx.out; have := HKB.out; omega) HS.out).mono ?_)
           rintro e wc5 ⟨rfl, hs2⟩
           refine ⟨_, rfl, ?_⟩
           clear HS hx5
           have HS := Aside0.mk hs2
           clear hs2
           have hx6 := HS.out.M.row _ _ _ _ E6.out)
        | ((with_reducible refine gate_callee (f := 37) rfl ?_); refine goesL_ (some 63) rfl rfl Try.func37 (by kernel_rfl) rfl #[.slice A6 y.f6.length c6, .int .i64 (x1 + 1 + 1 + 1 + 1 + ((D.list dA y.f4).cnt : Int) + ((D.list dD y.f5).cnt : Int))] rfl (by (try simp only [List.map_toArray, List.map_cons, List.map_nil]); first | done | rfl) ?_
           (with_reducible refine (IH.out y HY.out _ (x1 + 1 + 1 + 1 + 1 + ((D.list dA y.f4).cnt : Int) + ((D.list dD y.f5).cnt : Int)) _ _ _ (rfl) R6.out B6.out (by have := HK.out.1; omega) (by have := HKx.out; have := HKB.out; omega) HS.out).mono ?_)
           rintro e wc6 ⟨rfl, hs2⟩
           refine ⟨_, rfl, ?_⟩
           clear HS hx6
           have HS := Aside0.mk hs2
           clear hs2))
      go_roundg (l.length - (x5 + 1).toNat)
      case measure => have := HX.out; have := C3.out; omega
      case rel => exact ⟨x1 + 1 + 1 + 1 + 1 + ((D.list dA y.f4).cnt : Int) + ((D.list dD y.f5).cnt : Int) + ((D.list dS y.f6).cnt : Int), x5 + 1, _, rfl, by rw [W0.out], ⟨⟨by have := HX.out; omega, by have := C3.out; omega, by omega⟩⟩, ⟨⟨by have := HK.out.1; omega, by have := HKx.out; omega⟩⟩, ⟨HO2.out⟩, HS⟩
    · have hltb : decide (x5 < (l.length : Int)) = false := decide_eq_false hlt
      have hO := HO.out
      have hKx := HK.out.2
      rw [List.drop_eq_nil_of_le (by omega)] at hO hKx
      have hq : q = RF := by cases A <;> exact hO
      have hk : x1 = KF := by simpa [D.list, D.cnt] using hKx
      subst hq hk
      clear hO hKx hlt HO HK
      go_wp2
      go_ret
      exact ⟨rfl, HS.out⟩
end Go.Proofs.Ytkcomfmdcmjagaa.OFnExactAllSels
