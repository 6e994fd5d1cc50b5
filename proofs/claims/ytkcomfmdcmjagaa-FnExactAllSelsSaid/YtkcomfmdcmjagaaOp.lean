/- Plain words: what an element's cells are, opened; no statement of the program is proved here. No conditions. -/
import Derived.Test.YtkcomfmdcmjagaaAs
namespace Go.Proofs.Ytkcomfmdcmjagaa.OFnExactAllSels
open Go.Proofs.Ytkcomfmdcmjagaa.Lay Go.Proofs.Ytkcomfmdcmjagaa.Mark
open Go.RowKit Go.Proofs.YtkcomfmdcmjagaaW.PrintWords Go.Proofs.YtkcomfmdcmjagaaW.PrintLast Go.Proofs.YtkcomfmdcmjagaaW.PrintMore
set_option linter.unusedVariables false
set_option linter.unusedSimpArgs false
theorem bl_ci {r : Rd} {a : Int} {t : D} {g o : Nat} : bl r (.cons (.int a) t) g o = bl r t g (o + 1) := rfl
theorem bl_cs {r : Rd} {a : ByteArray} {t : D} {g o : Nat} : bl r (.cons (.str a) t) g o = bl r t g (o + 1) := rfl
theorem bl_cr {r : Rd} {n : Nat} {c t : D} {g o : Nat} {v : Value} (h : r ⟨g, o, none⟩ = some v) : bl r (.cons (.row n c) t) g o = rbl r c v ++ bl r t g (o + 1) := by
 rw [bl, bl_row h]
 rfl
theorem ov_ci {T : Int → ByteArray} {r q : Rd} {a k : Int} {t : D} {g o : Nat} : ov T r (.cons (.int a) t) g o k q = ov T r t g (o + 1) (k + 1) (upd q ⟨g, o, none⟩ (.int .i64 k)) := rfl
theorem ov_cs {T : Int → ByteArray} {r q : Rd} {a : ByteArray} {k : Int} {t : D} {g o : Nat} : ov T r (.cons (.str a) t) g o k q = ov T r t g (o + 1) (k + 1) (upd q ⟨g, o, none⟩ (.string (T k))) := rfl
theorem ov_cr {T : Int → ByteArray} {r q : Rd} {n : Nat} {c t : D} {k : Int} {g o : Nat} {v : Value} (h : r ⟨g, o, none⟩ = some v) : ov T r (.cons (.row n c) t) g o k q = ov T r t g (o + 1) (k + c.cnt) (rov T r c v k q) := by
 rw [ov, ov_row h]
 rfl
theorem RowAt.sl {r : Rd} {n : Nat} {c : D} {v : Value} (h : RowAt r n c v) : ∃ A cap, v = .slice A n cap ∧ n ≤ cap ∧ n ≤ 9223372036854775807 := by
 rcases h with ⟨rfl, rfl, rfl⟩ | ⟨a, cap, rfl, h1, h2, h3⟩
 ·exact ⟨none, 0, rfl, Nat.le_refl _, by omega⟩
 ·exact ⟨_, cap, rfl, h1, h2⟩
theorem dT_eq (x : ByteArray) : dT x = .str x := rfl
theorem dA_eq (x : S78) : dA x = .cons (.str x.f0) (.cons (.int x.f1.f0) (.cons (.str x.f1.f1) (.cons (.row x.f1.f2.length (D.list dV x.f1.f2)) (.cons (.row x.f1.f3.length (D.list dT x.f1.f3)) .nil)))) := by
 unfold dA
 rw [dV_eq]
theorem dD_eq (x : S95) : dD x = .cons (.str x.f0) (.cons (.row x.f1.length (D.list dA x.f1)) .nil) := rfl
theorem openV {r : Rd} {y : S30} {g o : Nat} (h : Lay r (dV y) g o) : ∃ A2 c2 A3 c3, r ⟨g, o, none⟩ = some (.int .i64 y.f0) ∧ r ⟨g, o + 1, none⟩ = some (.string y.f1) ∧ r ⟨g, o + 2, none⟩ = some (.slice A2 y.f2.length c2) ∧ r ⟨g, o + 3, none⟩ = some (.slice A3 y.f3.length c3) ∧ RowAt r y.f2.length (D.list dV y.f2) (.slice A2 y.f2.length c2) ∧ RowAt r y.f3.length (D.list dT y.f3) (.slice A3 y.f3.length c3) ∧ bl r (dV y) g o = rbl r (D.list dV y.f2) (.slice A2 y.f2.length c2) ++ (rbl r (D.list dT y.f3) (.slice A3 y.f3.length c3) ++ []) ∧ ∀ (T : Int → ByteArray) (k : Int) (q : Rd), ov T r (dV y) g o k q = rov T r (D.list dT y.f3) (.slice A3 y.f3.length c3) (k + 1 + 1 + (D.list dV y.f2).cnt) (rov T r (D.list dV y.f2) (.slice A2 y.f2.length c2) (k + 1 + 1) (upd (upd (q) ⟨g, o, none⟩ (.int .i64 (k))) ⟨g, o + 1, none⟩ (.string (T (k + 1))))) := by
 rw [dV_eq] at h ⊢
 obtain ⟨e0, e1, ⟨v2, e2, h2⟩, ⟨v3, e3, h3⟩, _⟩ := h
 obtain ⟨A2, c2, rfl, _, _⟩ := RowAt.sl h2
 have q2 : r ⟨g, o + 1 + 1, none⟩ = some (.slice A2 y.f2.length c2) := e2
 obtain ⟨A3, c3, rfl, _, _⟩ := RowAt.sl h3
 have q3 : r ⟨g, o + 1 + 1 + 1, none⟩ = some (.slice A3 y.f3.length c3) := e3
 refine ⟨A2, c2, A3, c3, e0, e1, e2, e3, h2, h3, ?_, fun T k q => ?_⟩
 ·rw [bl_ci, bl_cs, bl_cr q2, bl_cr q3]; rfl
 ·rw [ov_ci, ov_cs, ov_cr q2, ov_cr q3]; rfl
theorem cntV (y : S30) : (dV y).cnt = 2 + (D.list dV y.f2).cnt + (D.list dT y.f3).cnt := by
 rw [dV_eq]
 simp only [D.cnt]
 omega
theorem openA {r : Rd} {y : S78} {g o : Nat} (h : Lay r (dA y) g o) : ∃ A3 c3 A4 c4, r ⟨g, o, none⟩ = some (.string y.f0) ∧ r ⟨g, o + 1, none⟩ = some (.int .i64 y.f1.f0) ∧ r ⟨g, o + 2, none⟩ = some (.string y.f1.f1) ∧ r ⟨g, o + 3, none⟩ = some (.slice A3 y.f1.f2.length c3) ∧ r ⟨g, o + 4, none⟩ = some (.slice A4 y.f1.f3.length c4) ∧ RowAt r y.f1.f2.length (D.list dV y.f1.f2) (.slice A3 y.f1.f2.length c3) ∧ RowAt r y.f1.f3.length (D.list dT y.f1.f3) (.slice A4 y.f1.f3.length c4) ∧ bl r (dA y) g o = rbl r (D.list dV y.f1.f2) (.slice A3 y.f1.f2.length c3) ++ (rbl r (D.list dT y.f1.f3) (.slice A4 y.f1.f3.length c4) ++ []) ∧ ∀ (T : Int → ByteArray) (k : Int) (q : Rd), ov T r (dA y) g o k q = rov T r (D.list dT y.f1.f3) (.slice A4 y.f1.f3.length c4) (k + 1 + 1 + 1 + (D.list dV y.f1.f2).cnt) (rov T r (D.list dV y.f1.f2) (.slice A3 y.f1.f2.length c3) (k + 1 + 1 + 1) (upd (upd (upd (q) ⟨g, o, none⟩ (.string (T (k)))) ⟨g, o + 1, none⟩ (.int .i64 (k + 1))) ⟨g, o + 2, none⟩ (.string (T (k + 1 + 1))))) := by
 rw [dA_eq] at h ⊢
 obtain ⟨e0, e1, e2, ⟨v3, e3, h3⟩, ⟨v4, e4, h4⟩, _⟩ := h
 obtain ⟨A3, c3, rfl, _, _⟩ := RowAt.sl h3
 have q3 : r ⟨g, o + 1 + 1 + 1, none⟩ = some (.slice A3 y.f1.f2.length c3) := e3
 obtain ⟨A4, c4, rfl, _, _⟩ := RowAt.sl h4
 have q4 : r ⟨g, o + 1 + 1 + 1 + 1, none⟩ = some (.slice A4 y.f1.f3.length c4) := e4
 refine ⟨A3, c3, A4, c4, e0, e1, e2, e3, e4, h3, h4, ?_, fun T k q => ?_⟩
 ·rw [bl_cs, bl_ci, bl_cs, bl_cr q3, bl_cr q4]; rfl
 ·rw [ov_cs, ov_ci, ov_cs, ov_cr q3, ov_cr q4]; rfl
theorem cntA (y : S78) : (dA y).cnt = 3 + (D.list dV y.f1.f2).cnt + (D.list dT y.f1.f3).cnt := by
 rw [dA_eq]
 simp only [D.cnt]
 omega
theorem openD {r : Rd} {y : S95} {g o : Nat} (h : Lay r (dD y) g o) : ∃ A1 c1, r ⟨g, o, none⟩ = some (.string y.f0) ∧ r ⟨g, o + 1, none⟩ = some (.slice A1 y.f1.length c1) ∧ RowAt r y.f1.length (D.list dA y.f1) (.slice A1 y.f1.length c1) ∧ bl r (dD y) g o = rbl r (D.list dA y.f1) (.slice A1 y.f1.length c1) ++ [] ∧ ∀ (T : Int → ByteArray) (k : Int) (q : Rd), ov T r (dD y) g o k q = rov T r (D.list dA y.f1) (.slice A1 y.f1.length c1) (k + 1) (upd (q) ⟨g, o, none⟩ (.string (T (k)))) := by
 rw [dD_eq] at h ⊢
 obtain ⟨e0, ⟨v1, e1, h1⟩, _⟩ := h
 obtain ⟨A1, c1, rfl, _, _⟩ := RowAt.sl h1
 have q1 : r ⟨g, o + 1, none⟩ = some (.slice A1 y.f1.length c1) := e1
 refine ⟨A1, c1, e0, e1, h1, ?_, fun T k q => ?_⟩
 ·rw [bl_cs, bl_cr q1]; rfl
 ·rw [ov_cs, ov_cr q1]; rfl
theorem cntD (y : S95) : (dD y).cnt = 1 + (D.list dA y.f1).cnt := by
 rw [dD_eq]
 simp only [D.cnt]
 omega
theorem openS {r : Rd} {y : S54} {g o : Nat} (h : Lay r (dS y) g o) : ∃ A4 c4 A5 c5 A6 c6, r ⟨g, o, none⟩ = some (.int .i64 y.f0) ∧ r ⟨g, o + 1, none⟩ = some (.string y.f1) ∧ r ⟨g, o + 2, none⟩ = some (.string y.f2) ∧ r ⟨g, o + 3, none⟩ = some (.string y.f3) ∧ r ⟨g, o + 4, none⟩ = some (.slice A4 y.f4.length c4) ∧ r ⟨g, o + 5, none⟩ = some (.slice A5 y.f5.length c5) ∧ r ⟨g, o + 6, none⟩ = some (.slice A6 y.f6.length c6) ∧ RowAt r y.f4.length (D.list dA y.f4) (.slice A4 y.f4.length c4) ∧ RowAt r y.f5.length (D.list dD y.f5) (.slice A5 y.f5.length c5) ∧ RowAt r y.f6.length (D.list dS y.f6) (.slice A6 y.f6.length c6) ∧ bl r (dS y) g o = rbl r (D.list dA y.f4) (.slice A4 y.f4.length c4) ++ (rbl r (D.list dD y.f5) (.slice A5 y.f5.length c5) ++ (rbl r (D.list dS y.f6) (.slice A6 y.f6.length c6) ++ [])) ∧ ∀ (T : Int → ByteArray) (k : Int) (q : Rd), ov T r (dS y) g o k q = rov T r (D.list dS y.f6) (.slice A6 y.f6.length c6) (k + 1 + 1 + 1 + 1 + (D.list dA y.f4).cnt + (D.list dD y.f5).cnt) (rov T r (D.list dD y.f5) (.slice A5 y.f5.length c5) (k + 1 + 1 + 1 + 1 + (D.list dA y.f4).cnt) (rov T r (D.list dA y.f4) (.slice A4 y.f4.length c4) (k + 1 + 1 + 1 + 1) (upd (upd (upd (upd (q) ⟨g, o, none⟩ (.int .i64 (k))) ⟨g, o + 1, none⟩ (.string (T (k + 1)))) ⟨g, o + 2, none⟩ (.string (T (k + 1 + 1)))) ⟨g, o + 3, none⟩ (.string (T (k + 1 + 1 + 1)))))) := by
 rw [dS_eq] at h ⊢
 obtain ⟨e0, e1, e2, e3, ⟨v4, e4, h4⟩, ⟨v5, e5, h5⟩, ⟨v6, e6, h6⟩, _⟩ := h
 obtain ⟨A4, c4, rfl, _, _⟩ := RowAt.sl h4
 have q4 : r ⟨g, o + 1 + 1 + 1 + 1, none⟩ = some (.slice A4 y.f4.length c4) := e4
 obtain ⟨A5, c5, rfl, _, _⟩ := RowAt.sl h5
 have q5 : r ⟨g, o + 1 + 1 + 1 + 1 + 1, none⟩ = some (.slice A5 y.f5.length c5) := e5
 obtain ⟨A6, c6, rfl, _, _⟩ := RowAt.sl h6
 have q6 : r ⟨g, o + 1 + 1 + 1 + 1 + 1 + 1, none⟩ = some (.slice A6 y.f6.length c6) := e6
 refine ⟨A4, c4, A5, c5, A6, c6, e0, e1, e2, e3, e4, e5, e6, h4, h5, h6, ?_, fun T k q => ?_⟩
 ·rw [bl_ci, bl_cs, bl_cs, bl_cs, bl_cr q4, bl_cr q5, bl_cr q6]; rfl
 ·rw [ov_ci, ov_cs, ov_cs, ov_cs, ov_cr q4, ov_cr q5, ov_cr q6]; rfl
theorem cntS (y : S54) : (dS y).cnt = 4 + (D.list dA y.f4).cnt + (D.list dD y.f5).cnt + (D.list dS y.f6).cnt := by
 rw [dS_eq]
 simp only [D.cnt]
 omega
/-- From the j-th element on. -/
theorem Lay.drop {α : Type} {f : α → D} {m : Nat} {r : Rd} {g : Nat} (hs : ∀ x, (f x).sz = m) : ∀ (l : List α) (o j : Nat), Lay r (D.list f l) g o → Lay r (D.list f (l.drop j)) g (o + j * m) ∧ ∀ b ∈ bl r (D.list f (l.drop j)) g (o + j * m), b ∈ bl r (D.list f l) g o
 | l, o, 0, h => by
  rw [Nat.zero_mul]
  exact ⟨h, fun b hb => hb⟩
 | [], o, j + 1, h => ⟨trivial, fun b hb => by cases hb⟩
 | x :: l, o, j + 1, h => by
  obtain ⟨i, b⟩ := Lay.drop hs l (o + m) j (by have := h.2; rwa [hs] at this)
  rw [show o + (j + 1) * m = o + m + j * m by rw [Nat.add_mul, Nat.one_mul]; omega]
  refine ⟨i, fun k hk => ?_⟩
  have := b k hk
  rw [D.list, bl, hs]
  exact List.mem_append_right _ this
theorem indVs {P : List S30 → Prop} (h : ∀ l, (∀ y ∈ l, P y.f2) → P l) : ∀ l, P l := by
 have key : ∀ x : S30, P x.f2 := indV (P := fun x => P x.f2) (fun x ih => h x.f2 ih)
 exact fun l => h l (fun y _ => key y)
theorem indSs {P : List S54 → Prop} (h : ∀ l, (∀ y ∈ l, P y.f6) → P l) : ∀ l, P l := by
 have key : ∀ x : S54, P x.f6 := indS (P := fun x => P x.f6) (fun x ih => h x.f6 ih)
 exact fun l => h l (fun y _ => key y)
theorem cnt_drop {α : Type} (f : α → D) : ∀ (l : List α) (j : Nat) (h : j < l.length), (D.list f (l.drop j)).cnt = (f l[j]).cnt + (D.list f (l.drop (j + 1))).cnt
 | l, j, h => by rw [List.drop_eq_getElem_cons h]; rfl
end Go.Proofs.Ytkcomfmdcmjagaa.OFnExactAllSels
-- narrow
