/- The machine side of one law, written by a program. -/
import Derived.Test.YtjhagdjjlgjlbaaGreatDoorOFnExactDirsTextx0
import Derived.Test.YtjhagdjjlgjlbaaGreatDoorOFnExactDirsTextx12
import Derived.Test.YtjhagdjjlgjlbaaGreatDoorOFnExactDirsTextx14
import Derived.Test.YtjhagdjjlgjlbaaGreatDoorOFnExactDirsTextx15
namespace Go.Proofs.YtjhagdjjlgjlbaaGreatDoor.OFnExactDirsText
open Go.Proofs.YtjhagdjjlgjlbaaGreatDoor.GlU Go.Proofs.YtjhagdjjlgjlbaaGreatDoor.Ix
open Go.RowKit Go.Proofs.YtjhagdjjlgjlbaaGreatDoorW.PrintWords Go.Proofs.YtjhagdjjlgjlbaaGreatDoorW.PrintLast Go.Proofs.YtjhagdjjlgjlbaaGreatDoorW.PrintMore
attribute [local go_sem] max2_int min2_int max_two min_two max_three min_three max_four min_four
set_option linter.unusedVariables false
set_option linter.unusedSimpArgs false

set_option maxHeartbeats 4000000 in
set_option maxRecDepth 100000 in
theorem impl_DirsOk.index (p : S38 → Option Bool) (A0 : Option Addr) (c0 : Nat) (l0 : List S38) (r : Int) (w : World) (hr0 : Kd.C k38 w A0 l0.length l0)
  (hp : ∀ (W : World) (x : S38) (A1 : Option Addr) (c1 : Nat) (b : Bool), Below w.heap.size w W → Kd.C k54 W A1 x.f1.length x.f1 → x.f1.length ≤ c1 → p x = some b →
   Calls Tryz.prog 22 #[.agg #[.string x.f0, .slice A1 x.f1.length c1]] W fun e w' => e = .returned (.bool b) ∧ Below W.heap.size W w')
  (h : ixO p l0 0 = some r) :
  Calls Tryz.prog 34 #[.slice A0 l0.length c0, .func (.func 22) #[] #[]] w fun e w' => e = .returned (.int .i64 r) ∧ Below w.heap.size w w' := by
 have hlen := hr0.2.1; have HR0 := Aside0.mk hr0; clear hr0; have HP := Aside0.mk hp; clear hp; have HH := Aside0.mk h; clear h
 go_enter Tryz.func34, Tryz.ntmps34
 go_wp2
 go_loopg [5, 8] l0.length (fun gg _ s8 wr => ∃ x : Int, 0 ≤ x ∧ x ≤ l0.length ∧ l0.length - x.toNat ≤ gg ∧ s8 = .int .i64 x ∧ Aside0 (Below w.heap.size w wr) ∧ Aside0 (ixO p (l0.drop x.toNat) x = some r))
 case atStart => exact ⟨0, Int.le_refl _, by omega, by omega, rfl, ⟨Below.refl _ w⟩, HH⟩
 case round =>
  clear HH; obtain ⟨x, h0, hk, hg, rfl, HB, HX⟩ := hrel
  by_cases hlt : x < (l0.length : Int)
  ·have w0 : wrap64 (x + 1) = x + 1 := by unfold wrap64; omega
   obtain ⟨ad, A1, c1, e1, hx0, hx1, hl1, hi1⟩ := at_T38 HR0.out x h0 hlt
   cases e1
   replace hx0 := (HB.out.cell (World.block_lt_of_cell? w _ hx0)).trans hx0; replace hx1 := (HB.out.cell (World.block_lt_of_cell? w _ hx1)).trans hx1; have H : ((p (rd_T38 l0 x)).bind fun b => if b = true then some x else ixO p (l0.drop (x + 1).toNat) (x + 1)) = some r := (ixO_at z38 p l0 x h0 hlt).symm.trans HX.out; obtain ⟨b, hb, H⟩ := Option.bind_eq_some_iff.1 H; have hC := Aside0.mk (HP.out wr (rd_T38 l0 x) A1 c1 b HB.out (Kd.C_below hi1 HB.out) hl1 hb); clear hb hi1 hl1 HX; have c6b0 : decide (x < (l0.length : Int)) = true := decide_eq_true hlt; have p115 : (0 ≤ x) = True := eq_true h0; have q115 : (x < (l0.length : Int)) = True := eq_true hlt; have HH0 := Aside0.mk h0; have HK := Aside0.mk hk; have HG := Aside0.mk hg; have HLT := Aside0.mk hlt; have W0 := Aside0.mk w0; clear h0 hk hg hlt w0
   cases b with
   | true =>
    replace H := Option.some.inj ((if_pos rfl).symm.trans H); subst H
    go_wp2_with (go_at_call 22; refine hC.out.mono ?_; rintro e w' ⟨rfl, hb'⟩)
    go_ret
    exact ⟨rfl, below_step HB.out hb'⟩
   | false =>
    replace H := (if_neg (by decide)).symm.trans H
    have HX := Aside0.mk H; clear H
    go_wp2_with (go_at_call 22; refine hC.out.mono ?_; rintro e w' ⟨rfl, hb'⟩)
    go_roundg (l0.length - (x + 1).toNat)
    case measure => have := HG.out; have := HLT.out; have := HH0.out; omega
    case rel => exact ⟨x + 1, by have := HH0.out; omega, by have := HLT.out; omega, by omega, by rw [W0.out], ⟨below_step HB.out hb'⟩, HX⟩
  ·have c6b0 : decide (x < (l0.length : Int)) = false := decide_eq_false hlt; have H := HX.out; rw [ixO_end p l0 x x hlt] at H; have H2 := Option.some.inj H; subst H2; clear H hlt HX
   go_wp2
   go_ret
   exact ⟨rfl, HB.out⟩

set_option maxHeartbeats 4000000 in
set_option maxRecDepth 100000 in
theorem impl_DirsOk.contains (p : S38 → Option Bool) (A0 : Option Addr) (c0 : Nat) (l0 : List S38) (r : Bool) (w : World) (hr0 : Kd.C k38 w A0 l0.length l0)
  (hp : ∀ (W : World) (x : S38) (A1 : Option Addr) (c1 : Nat) (b : Bool), Below w.heap.size w W → Kd.C k54 W A1 x.f1.length x.f1 → x.f1.length ≤ c1 → p x = some b →
   Calls Tryz.prog 22 #[.agg #[.string x.f0, .slice A1 x.f1.length c1]] W fun e w' => e = .returned (.bool b) ∧ Below W.heap.size W w')
  (h : anyO p l0 = some r) :
  Calls Tryz.prog 21 #[.slice A0 l0.length c0, .func (.func 22) #[] #[]] w fun e w' => e = .returned (.bool r) ∧ Below w.heap.size w w' := by
 obtain ⟨t, ht, rfl⟩ := Option.map_eq_some_iff.1 h; clear h; have HR0 := Aside0.mk hr0; clear hr0; have HP := Aside0.mk hp; clear hp; have HH := Aside0.mk ht; clear ht
 go_enter Tryz.func21, Tryz.ntmps21
 go_wp2_with (go_at_call 34; refine (impl_DirsOk.index  p A0 c0 l0 t _ HR0.out HP.out HH.out).mono ?_; rintro e w' ⟨rfl, hb'⟩)
 go_ret
 exact ⟨rfl, hb'⟩
/-- What DirsOk asks of one (true: it falls); what it answers. -/
def impl_DirsOk.p (k : Nat) (x : S38) : Option Bool := (impl_NameOk.f k x.f0).bind fun t => if t = true then (impl_ArgsOk.f k x.f1).map (!·) else some true
def impl_DirsOk.f (k : Nat) (l0 : List S38) : Option Bool := (anyO (impl_DirsOk.p k) l0).map (!·)
theorem impl_DirsOk.mono : ∀ a0 k, LeO (impl_DirsOk.f k a0) (impl_DirsOk.f (k + 1) a0) := by
 intro a0 k; refine LeO.map _ (anyO_le _ _ (fun x => ?_) _); unfold impl_DirsOk.p; exact LeO.bind (impl_NameOk.mono _ _) (fun _ => LeO.ite (LeO.map _ (impl_ArgsOk.mono _ _)) (LeO.refl _))
set_option maxHeartbeats 8000000 in
set_option maxRecDepth 100000 in
theorem impl_DirsOk.lit (k : Nat) (x : S38) (A1 : Option Addr) (c1 : Nat) (b : Bool) (w : World) (g1 : Kd.C k54 w A1 x.f1.length x.f1) (g2 : x.f1.length ≤ c1) (hG : Gl w) (h : impl_DirsOk.p k x = some b) :
  Calls Tryz.prog 22 #[.agg #[.string x.f0, .slice A1 x.f1.length c1]] w fun e w' => e = .returned (.bool b) ∧ Below w.heap.size w w' := by
 unfold impl_DirsOk.p at h; have HG := Aside0.mk hG; clear hG; have HB := Aside0.mk (Below.refl w.heap.size w); replace g1 := Aside0.mk g1; replace g2 := Aside0.mk g2; obtain ⟨t, ht, h⟩ := Option.bind_eq_some_iff.1 h; have HN := Aside0.mk ht; clear ht
 cases t with
 | false =>
  obtain rfl := Option.some.inj ((if_neg (by decide)).symm.trans h)
  clear h
  go_enter Tryz.func22, Tryz.ntmps22
  go_wp2_with (first | ((with_reducible refine gate_dst (N := 1) rfl ?_); refine boxE (N := 1) (cs := #[.string x.f0, .slice A1 x.f1.length c1]) (t := 38) ?_; intro gBX hg_ w1 hbox hb'; replace HB := Aside0.mk (below_step HB.out hb'); have BX := Aside0.mk hbox; obtain ⟨hzBX_0, hzBX_1⟩ := cel2 BX.out; clear hb' hbox hg_) | (go_at_call 23; refine (impl_NameOk.calls k x.f0 false _ HN.out).mono ?_; rintro e w1 ⟨rfl, hb'⟩; have hb' := Drawn0.below hb'; replace HB := Aside0.mk (below_step HB.out hb'); replace BX := Aside0.mk (blk_below BX.out hb'); obtain ⟨hzBX_0, hzBX_1⟩ := cel2 BX.out; clear hb'))
  go_ret
  exact ⟨enA, HB.out⟩
 | true =>
  replace h := (if_pos rfl).symm.trans h; obtain ⟨u, hu, rfl⟩ := Option.map_eq_some_iff.1 h; clear h; have HS := Aside0.mk hu; clear hu
  go_enter Tryz.func22, Tryz.ntmps22
  go_wp2_with (first | ((with_reducible refine gate_dst (N := 1) rfl ?_); refine boxE (N := 1) (cs := #[.string x.f0, .slice A1 x.f1.length c1]) (t := 38) ?_; intro gBX hg_ w1 hbox hb'; replace HB := Aside0.mk (below_step HB.out hb'); have BX := Aside0.mk hbox; obtain ⟨hzBX_0, hzBX_1⟩ := cel2 BX.out; clear hb' hbox hg_) | (go_at_call 23; refine (impl_NameOk.calls k x.f0 true _ HN.out).mono ?_; rintro e w1 ⟨rfl, hb'⟩; have hb' := Drawn0.below hb'; replace HB := Aside0.mk (below_step HB.out hb'); replace BX := Aside0.mk (blk_below BX.out hb'); obtain ⟨hzBX_0, hzBX_1⟩ := cel2 BX.out; clear hb') | (go_at_call 24; refine (impl_ArgsOk.calls k _ _ x.f1 u _ (Kd.C_below g1.out HB.out) g2.out (Gl.below HG.out HB.out) HS.out).mono ?_; rintro e w1 ⟨rfl, hb'⟩; replace HB := Aside0.mk (below_step HB.out hb'); replace BX := Aside0.mk (blk_below BX.out hb'); obtain ⟨hzBX_0, hzBX_1⟩ := cel2 BX.out; clear hb'))
  go_ret
  exact ⟨enA, HB.out⟩
set_option maxHeartbeats 4000000 in
set_option maxRecDepth 100000 in
theorem impl_DirsOk.calls (k : Nat) (A0 : Option Addr) (c0 : Nat) (l0 : List S38) (r : Bool) (w : World) (hr0 : Kd.C k38 w A0 l0.length l0) (hc0 : l0.length ≤ c0) (hG : Gl w) (h : impl_DirsOk.f k l0 = some r) :
  Calls Tryz.prog 13 #[.slice A0 l0.length c0] w fun e w' => e = .returned (.bool r) ∧ Below w.heap.size w w' := by
 obtain ⟨t, ht, rfl⟩ := Option.map_eq_some_iff.1 h; clear h; have HC := Aside0.mk (fun (W : World) (hW : Below w.heap.size w W) => impl_DirsOk.contains (impl_DirsOk.p k) A0 c0 l0 t W (Kd.C_below hr0 hW) (fun W2 x A1 c1 b hW2 g1 g2 hb => impl_DirsOk.lit k x A1 c1 b W2 g1 g2 (Gl.below hG (below_step hW hW2)) hb) ht); clear hr0 ht hG; have HB := Aside0.mk (Below.refl w.heap.size w)
 go_enter Tryz.func13, Tryz.ntmps13
 go_wp2_with (first | (go_at_call 21; refine (HC.out _ HB.out).mono ?_; rintro e w1 ⟨rfl, hb'⟩; replace HB := Aside0.mk (below_step HB.out hb'); clear hb'))
 go_ret
 exact ⟨enA, HB.out⟩

theorem strings_Join.spot {α : Type} {d : Kd α} {e base n c : Nat} {ok : Nat → Prop} {w : World} {A : Option Addr} {xs : List α} (h : Kd.Q d e w base ok (.slice A n c) xs) : xs.length = 0 ∨ ∃ b o, A = some ⟨b, o, none⟩ := by
 obtain ⟨_, inner, ⟨_, h2⟩, _⟩ := h
 rcases h2 with ⟨h0, _⟩ | ⟨g, off, cap, cur, hv, _⟩
 ·exact Or.inl h0
 ·injection hv with h1 _ _
  exact Or.inr ⟨_, _, h1⟩
def strings_Join.f (l0 : List ByteArray) (a1 : ByteArray) : Option (ByteArray) := if l0.length ≤ 140737488355328 ∧ (Lib.join (l0.map (·.data.toList)) a1.data.toList).length ≤ 140737488355328 then some ⟨(Lib.join (l0.map (·.data.toList)) a1.data.toList).toArray⟩ else none
theorem strings_Join.spotR {α : Type} {d : Kd α} {e base n c : Nat} {ok : Nat → Prop} {w : World} {A : Option Addr} {xs : List α} (h : Kd.R d e w base ok (.slice A n c) xs) : xs.length = 0 ∨ ∃ b o, A = some ⟨b, o, none⟩ := by
 rcases Nat.eq_zero_or_pos xs.length with h0 | h0
 ·exact .inl h0
 ·obtain ⟨g, cap, he, _⟩ := Kd.R_form h h0
  injection he with hA _ _
  exact .inr ⟨g, 0, hA⟩
theorem strings_Join.calls (A0 : Option Addr) (c0 : Nat) (l0 : List ByteArray) (a1 : ByteArray) (r : ByteArray) (w : World) (hr0 : Kd.C Kd.string w A0 l0.length l0) (hc0 : l0.length ≤ c0) (h : strings_Join.f l0 a1 = some r) (hi0 : l0.length = 0 ∨ ∃ b o, A0 = some ⟨b, o, none⟩) :
  Calls Tryz.prog 26 #[.slice A0 l0.length c0, .string a1] w fun e w' => e = .returned (.string r) ∧ Below w.heap.size w w' := by
 unfold strings_Join.f at h
 split at h
 ·rename_i hs
  obtain rfl := Option.some.inj h
  by_cases hn : l0.length = 0
  ·obtain rfl := List.eq_nil_of_length_eq_zero hn; exact (Tryz.strings_Join_none A0 c0 a1 w).mono fun e w' ⟨he, hw⟩ => ⟨he, hw ▸ Below.refl _ _⟩
  ·obtain ⟨b, o, rfl⟩ := hi0.resolve_left hn
   obtain ⟨ad, had, hcs⟩ := hr0.2.2 (by omega)
   obtain rfl := Option.some.inj had
   have hcell : ∀ (j : Nat) x, l0[j]? = some x → w.cell? ⟨b, o + j, none⟩ = some (.string x) := by
    intro j x hx; obtain ⟨cs, _, hk, hcc⟩ := hcs j x hx; have hk : cs = [Value.string x] := hk
    have := hcc 0 (.string x) (by rw [hk]; rfl)
    have e : Addr.add ⟨b, o, none⟩ (j * 1 + 0) = ⟨b, o + j, none⟩ := by
     unfold Addr.add; rw [Nat.add_zero, Nat.mul_one]
     split
     ·rename_i h0; subst h0; rfl
     ·rfl
    have e2 : Addr.add ⟨b, o, none⟩ (j * (Kd.string).sz + 0) = ⟨b, o + j, none⟩ := e; rw [e2] at this; exact this
   obtain ⟨x, hx⟩ : ∃ x, l0[0]? = some x := ⟨_, List.getElem?_eq_getElem (by omega)⟩
   exact Tryz.strings_Join b o c0 l0 a1 w hcell (World.block_lt_of_cell? w _ (hcell 0 x hx)) hs.1 hc0 hs.2
 ·cases h

mutual
def impl_printValue.l0 : Nat → List ByteArray → List (S52) → Int → Int → Int → ByteArray → List (S52) → List ByteArray → Option (ByteArray)
 | 0, _, _, _, _, _, _, _, _ => none
 | k + 1, x3, x10, x11, x12, x426000, x426001, x426002, x426003 => if x12 < x11 then (if 0 ≤ x12 then (if x12 < (x10.length : Int) then ((impl_printValue.f k ((rd_T52 x10 x12).f0) ((rd_T52 x10 x12).f1) ((rd_T52 x10 x12).f2) ((rd_T52 x10 x12).f3)).bind fun t431 => (if x426000 = 8 then (if x12 < (x426003.length : Int) then (if (rdOf ByteArray.empty x426003 x12).size + 2 ≤ 9223372036854775807 then (if ((rdOf ByteArray.empty x426003 x12) ++ (⟨#[58, 32]⟩ : ByteArray)).size + t431.size ≤ 9223372036854775807 then (if x3.length < 8796093022208 then (impl_printValue.l0 k (x3 ++ [((rdOf ByteArray.empty x426003 x12) ++ (⟨#[58, 32]⟩ : ByteArray)) ++ t431]) x10 x11 (wrap64 (x12 + 1)) x426000 x426001 x426002 x426003) else (none)) else (none)) else (none)) else (none)) else (if x3.length < 8796093022208 then (impl_printValue.l0 k (x3 ++ [t431]) x10 x11 (wrap64 (x12 + 1)) x426000 x426001 x426002 x426003) else (none)))) else (none)) else (none)) else ((strings_Join.f x3 (⟨#[44, 32]⟩ : ByteArray)).bind fun t439 => (if x426000 = 1 then (if 1 + x426001.size ≤ 9223372036854775807 then (some ((⟨#[36]⟩ : ByteArray) ++ x426001)) else (none)) else (if x426000 = 4 then ((impl_Escaped.f k x426001).bind fun t440 => (some t440)) else (if x426000 = 7 then (if 1 + t439.size ≤ 9223372036854775807 then (if ((⟨#[91]⟩ : ByteArray) ++ t439).size + 1 ≤ 9223372036854775807 then (some (((⟨#[91]⟩ : ByteArray) ++ t439) ++ (⟨#[93]⟩ : ByteArray))) else (none)) else (none)) else (if x426000 = 8 then (if 1 + t439.size ≤ 9223372036854775807 then (if ((⟨#[123]⟩ : ByteArray) ++ t439).size + 1 ≤ 9223372036854775807 then (some (((⟨#[123]⟩ : ByteArray) ++ t439) ++ (⟨#[125]⟩ : ByteArray))) else (none)) else (none)) else (some x426001))))))
def impl_printValue.f : Nat → Int → ByteArray → List (S52) → List ByteArray → Option (ByteArray)
 | 0, _, _, _, _ => none
 | k + 1, a0_0, a0_1, l0_2, l0_3 => impl_printValue.l0 k (([] : List ByteArray)) l0_2 (l0_2.length : Int) 0 a0_0 a0_1 l0_2 l0_3
end
theorem impl_printValue.mono_l : ∀ k, (∀ y0 y1 y2 y3, LeO (impl_printValue.f k y0 y1 y2 y3) (impl_printValue.f (k + 1) y0 y1 y2 y3)) ∧ (∀ y0 y1 y2 y3 y4 y5 y6 y7, LeO (impl_printValue.l0 k y0 y1 y2 y3 y4 y5 y6 y7) (impl_printValue.l0 (k + 1) y0 y1 y2 y3 y4 y5 y6 y7))
 | 0 => ⟨fun _ _ _ _ r h => by simp [impl_printValue.f] at h, fun _ _ _ _ _ _ _ _ r h => by simp [impl_printValue.l0] at h⟩
 | k + 1 => by
  obtain ⟨ih0, ih1⟩ := impl_printValue.mono_l k; refine ⟨?_, ?_⟩
  ·intro y0 y1 y2 y3; unfold impl_printValue.f
   repeat' first
   | (with_reducible first | exact ih0 _ _ _ _ | exact ih1 _ _ _ _ _ _ _ _ | exact impl_Escaped.mono _ _ | exact LeO.refl _ | exact LeO.none _ | refine LeO.ite ?_ ?_ | refine LeO.bind ?_ (fun _ => ?_))
   | exact ih0 _ _ _ _ | exact ih1 _ _ _ _ _ _ _ _ | exact impl_Escaped.mono _ _ | exact LeO.none _ | refine LeO.ite ?_ ?_ | refine LeO.bind ?_ (fun _ => ?_)
  ·intro y0 y1 y2 y3 y4 y5 y6 y7; unfold impl_printValue.l0
   repeat' first
   | (with_reducible first | exact ih0 _ _ _ _ | exact ih1 _ _ _ _ _ _ _ _ | exact impl_Escaped.mono _ _ | exact LeO.refl _ | exact LeO.none _ | refine LeO.ite ?_ ?_ | refine LeO.bind ?_ (fun _ => ?_))
   | exact ih0 _ _ _ _ | exact ih1 _ _ _ _ _ _ _ _ | exact impl_Escaped.mono _ _ | exact LeO.none _ | refine LeO.ite ?_ ?_ | refine LeO.bind ?_ (fun _ => ?_)
theorem impl_printValue.mono : ∀ a0 a1 a2 a3 k, LeO (impl_printValue.f k a0 a1 a2 a3) (impl_printValue.f (k + 1) a0 a1 a2 a3) := by
 intro a0 a1 a2 a3 k; obtain ⟨ih0, ih1⟩ := impl_printValue.mono_l k; exact ih0 a0 a1 a2 a3
set_option maxHeartbeats 8000000 in
set_option maxRecDepth 100000 in
theorem impl_printValue.calls (k : Nat) : ∀ (a0_0 : Int) (a0_1 : ByteArray) (A0_2 : Option Addr) (c0_2 : Nat) (l0_2 : List (S52)) (A0_3 : Option Addr) (c0_3 : Nat) (l0_3 : List ByteArray) (r : ByteArray) (w : World) (hr0_2 : Kd.C k52 w A0_2 l0_2.length l0_2) (hc0_2 : l0_2.length ≤ c0_2) (hr0_3 : Kd.C Kd.string w A0_3 l0_3.length l0_3) (hc0_3 : l0_3.length ≤ c0_3) (hG : Gl w) (h : impl_printValue.f k a0_0 a0_1 l0_2 l0_3 = some r),
  Calls Tryz.prog 25 #[.agg #[.int .i64 a0_0, .string a0_1, .slice A0_2 l0_2.length c0_2, .slice A0_3 l0_3.length c0_3]] w fun e w' => e = .returned (.string r) ∧ Below w.heap.size w w' := by
 induction k using Nat.strongRecOn with
 | _ k ih =>
 intro a0_0 a0_1 A0_2 c0_2 l0_2 A0_3 c0_3 l0_3 r w hr0_2 hc0_2 hr0_3 hc0_3 hG h
 cases k with
 | zero => exact absurd h (by simp [impl_printValue.f])
 | succ k =>
 simp only [impl_printValue.f] at h
 have hu52 := Tryz.underlying52; have HG := Aside0.mk hG; clear hG; have HR0_2 := Aside0.mk hr0_2; have HC0_2 := Aside0.mk hc0_2; clear hr0_2 hc0_2; have HR0_3 := Aside0.mk hr0_3; have HC0_3 := Aside0.mk hc0_3; clear hr0_3 hc0_3; have HB := Aside0.mk (Below.refl w.heap.size w); have H : (impl_printValue.l0 k (([] : List ByteArray)) l0_2 (l0_2.length : Int) 0 a0_0 a0_1 l0_2 l0_3) = some r := h; clear h
 obtain ⟨y426, hy426⟩ : ∃ y_ : List ByteArray, y_ = (([] : List ByteArray)) := ⟨_, rfl⟩
 replace H : (impl_printValue.l0 k y426 l0_2 (l0_2.length : Int) 0 a0_0 a0_1 l0_2 l0_3) = some r := reA H hy426; have Ny426 := Aside0.mk hy426; clear hy426
 have H' := Aside0.mk H
 clear H
 go_enter Tryz.func25, Tryz.ntmps25
 go_wp2_with (first | ((with_reducible refine gate_dst (N := 1) rfl ?_); refine boxE (N := 1) (cs := #[.int .i64 a0_0, .string a0_1, .slice A0_2 l0_2.length c0_2, .slice A0_3 l0_3.length c0_3]) (t := 52) ?_; intro gb425 hg w2 hbox hb; have BK425 := Aside0.mk (hbox); have GW425 := Aside0.mk ((gbA (w := w) HB hg)); have GE425 := Aside0.mk ((gbA (w := w) HB hg)); replace HB := Aside0.mk (below_step (belB HB) hb); clear hb hbox hg) | ((with_reducible refine gate_dst (N := 8) rfl ?_); refine Kd.R_lit Kd.string _ 9 ?hg (N := 8) ?hd (xs := ([] : List ByteArray)) (inner := []) (ok := fun _ => True) (okp := fun _ => True) ?hr ?hp (fun _ hk => hk) trivial (Below.refl _ _) (Nat.le_refl _) (by simp) ?_; (case hd => rfl); (case hg => rfl); (case hr => first | (go_simp; done) | (go_simp; rfl)); (case hp => exact (Reps.none _ _)); intro v427 w3 ho4 hb hg_ hnew_; clear hg_ hnew_; (first | rw [← Ny426.out] at ho4 | (simp only [Int.reduceToNat] at ho4; rw [← Ny426.out] at ho4)); have HO428 := Aside0.mk (Kd.R_lower ho4 (below_size (belS HB GE425))); replace BK425 := Aside0.mk (bBA BK425 hb); replace HB := Aside0.mk (below_step (belS HB GE425) hb); clear hb ho4; obtain ⟨hcz5_0, hcz5_1, hcz5_2, hcz5_3, hfz5_0, hfz5_1, hfz5_2, hfz5_3⟩ := cef4 BK425.out))
 go_loopg [3, 12] k (fun kq v3 v12 w' => ∃ (x3_1 : List ByteArray) (x12_1 : Int), v12 = .int .i64 x12_1 ∧ Aside0 (impl_printValue.l0 kq x3_1 l0_2 (l0_2.length : Int) x12_1 a0_0 a0_1 l0_2 l0_3 = some r) ∧ Aside0 (kq ≤ k) ∧ Aside0 (Kd.R Kd.string 9 w' w.heap.size (fun _ => True) v3 x3_1) ∧ Aside0 (w'.heap[gb425]? = some (.cells #[.int .i64 a0_0, .string a0_1, (.slice A0_2 l0_2.length c0_2), (.slice A0_3 l0_3.length c0_3)] 52 (0, 0))) ∧ Aside0 (Below w.heap.size w w'))
 case atStart => exact ⟨(y426), (0), enA, H', ⟨Nat.le_refl _⟩, ⟨kdB HO428⟩, ⟨blkA BK425⟩, ⟨belS HB GE425⟩⟩
 case round =>
  clear H'
  try clear c2
  try clear p2
  try clear hcz5_0
  try clear hcz5_1
  try clear hcz5_2
  try clear hcz5_3
  try clear hfz5_0
  try clear hfz5_1
  try clear hfz5_2
  try clear hfz5_3
  obtain ⟨x3_1, x12_1, rfl, HA, HK1, HO_3, BK425, HB⟩ := hrel
  cases gk with
  | zero => exact absurd HA.out (by simp [impl_printValue.l0])
  | succ k1 =>
   have H := HA.out; clear HA
   simp only [impl_printValue.l0] at H
   by_cases c6 : x12_1 < (l0_2.length : Int)
   ·rw [if_pos c6] at H; have c6b0 := decide_eq_true c6; clear c6
    by_cases c7 : 0 ≤ x12_1
    ·rw [if_pos c7] at H; have c7b0 := decide_eq_true c7; clear c7
     by_cases c8 : x12_1 < (l0_2.length : Int)
     ·rw [if_pos c8] at H; have c8b0 := decide_eq_true c8; clear c8; replace H := Option.bind_eq_some_iff.mp H; obtain ⟨t431, A90, H⟩ := H; replace H : (if a0_0 = 8 then (if x12_1 < (l0_3.length : Int) then (if (rdOf ByteArray.empty l0_3 x12_1).size + 2 ≤ 9223372036854775807 then (if ((rdOf ByteArray.empty l0_3 x12_1) ++ (⟨#[58, 32]⟩ : ByteArray)).size + t431.size ≤ 9223372036854775807 then (if x3_1.length < 8796093022208 then (impl_printValue.l0 k1 (x3_1 ++ [((rdOf ByteArray.empty l0_3 x12_1) ++ (⟨#[58, 32]⟩ : ByteArray)) ++ t431]) l0_2 (l0_2.length : Int) (wrap64 (x12_1 + 1)) a0_0 a0_1 l0_2 l0_3) else (none)) else (none)) else (none)) else (none)) else (if x3_1.length < 8796093022208 then (impl_printValue.l0 k1 (x3_1 ++ [t431]) l0_2 (l0_2.length : Int) (wrap64 (x12_1 + 1)) a0_0 a0_1 l0_2 l0_3) else (none))) = some r := H; have A9 := Aside0.mk A90; clear A90
      by_cases c10 : a0_0 = 8
      ·rw [if_pos c10] at H; have c10b0 := beq_iff_eq.mpr c10; have c10b1 := bne_eq_false_iff_eq.mpr c10; clear c10
       by_cases c11 : x12_1 < (l0_3.length : Int)
       ·rw [if_pos c11] at H; have c11b0 := decide_eq_true c11; clear c11
        by_cases c12 : (rdOf ByteArray.empty l0_3 x12_1).size + 2 ≤ 9223372036854775807
        ·rw [if_pos c12] at H; have c12b0 := eq_true c12; have c12b1 := decide_eq_true c12
         try have c12b2 : (9223372036854775807 < (rdOf ByteArray.empty l0_3 x12_1).size + 2) = False := eq_false (Nat.not_lt.2 c12)
         by_cases c13 : ((rdOf ByteArray.empty l0_3 x12_1) ++ (⟨#[58, 32]⟩ : ByteArray)).size + t431.size ≤ 9223372036854775807
         ·rw [if_pos c13] at H; have c13b0 := eq_true c13; have c13b1 := decide_eq_true c13
          try have c13b2 : (9223372036854775807 < ((rdOf ByteArray.empty l0_3 x12_1) ++ (⟨#[58, 32]⟩ : ByteArray)).size + t431.size) = False := eq_false (Nat.not_lt.2 c13)
          by_cases c14 : x3_1.length < 8796093022208
          ·rw [if_pos c14] at H; have LMc14 := Aside0.mk c14; clear c14
           obtain ⟨y433, hy433⟩ : ∃ y_ : List ByteArray, y_ = (x3_1 ++ [((rdOf ByteArray.empty l0_3 x12_1) ++ (⟨#[58, 32]⟩ : ByteArray)) ++ t431]) := ⟨_, rfl⟩
           replace H : (impl_printValue.l0 k1 y433 l0_2 (l0_2.length : Int) (wrap64 (x12_1 + 1)) a0_0 a0_1 l0_2 l0_3) = some r := reA H hy433; have Ny433 := Aside0.mk hy433; clear hy433
           have H' := Aside0.mk H
           clear H; have p429 : 0 ≤ (x12_1 : Int) := odA; have q429 : x12_1 < (l0_2.length : Int) := odA; obtain ⟨ad429, A429_2, c429_2, A429_3, c429_3, e429, hx429_0, hx429_1, hx429_2, hx429_3, hl429_2, hi429_2, hl429_3, hi429_3⟩ := at_T52 HR0_2.out x12_1 p429 q429
           cases e429
           (try replace hx429_0 := celB HB hx429_0)
           (try replace hx429_1 := celB HB hx429_1)
           (try replace hx429_2 := celB HB hx429_2)
           (try replace hx429_3 := celB HB hx429_3)
           have HR429_2 := Aside0.mk hi429_2; have HC429_2 := Aside0.mk hl429_2; clear hi429_2 hl429_2; have HR429_3 := Aside0.mk hi429_3; have HC429_3 := Aside0.mk hl429_3; clear hi429_3 hl429_3; replace p429 := eq_true p429; replace q429 := eq_true q429
           go_wp2_with (first | ((with_reducible refine gate_dst (N := 5) rfl ?_); refine boxE (N := 5) (cs := #[.int .i64 0, .string (⟨#[]⟩ : ByteArray), .slice none 0 0, .slice none 0 0]) (t := 52) ?_; intro gb430 hg w15 hbox hb; have BK430 := Aside0.mk (hbox); have GW430 := Aside0.mk ((by rw [hg]; exact (below_size (belS HB GE425)) : w.heap.size ≤ gb430)); have GE430 := Aside0.mk ((by rw [hg]; exact (below_size (belS HB GE425)) : w.heap.size ≤ gb430)); have NB425_430 := Aside0.mk ((by rw [hg]; exact Nat.ne_of_lt (blk_lt (g := gb425) (o := .cells #[.int .i64 a0_0, .string a0_1, .slice (some ad429) l0_2.length c0_2, .slice A0_3 l0_3.length c0_3] 52 (0, 0)) (blkA BK425)) : gb425 ≠ gb430)); have NB430_425 := Aside0.mk ((by rw [hg]; exact Nat.ne_of_gt (blk_lt (g := gb425) (o := .cells #[.int .i64 a0_0, .string a0_1, .slice (some ad429) l0_2.length c0_2, .slice A0_3 l0_3.length c0_3] 52 (0, 0)) (blkA BK425)) : gb430 ≠ gb425)); replace HO_3 := Aside0.mk (Kd.R_below (kdB HO_3) hb); replace BK425 := Aside0.mk (bBA BK425 hb); replace HB := Aside0.mk (below_step (belS HB GE425) hb); clear hb hbox hg; have hnb16 := NB430_425.out; have hnc16 := NB425_430.out; obtain ⟨hcz17_0, hcz17_1, hcz17_2, hcz17_3, hfz17_0, hfz17_1, hfz17_2, hfz17_3⟩ := cef4 BK430.out) | ((with_reducible refine gate_callee (f := 25) rfl ?_); refine goesL_ (some 18) rfl rfl Tryz.func25 (by kernel_rfl) rfl #[.agg #[.int .i64 ((rd_T52 l0_2 x12_1).f0), .string ((rd_T52 l0_2 x12_1).f1), .slice A429_2 ((rd_T52 l0_2 x12_1).f2).length c429_2, .slice A429_3 ((rd_T52 l0_2 x12_1).f3).length c429_3]] rfl mapA ?_; (with_reducible refine (ih k1 (by have := HK1.out; omega) ((rd_T52 l0_2 x12_1).f0) ((rd_T52 l0_2 x12_1).f1) _ _ ((rd_T52 l0_2 x12_1).f2) _ _ ((rd_T52 l0_2 x12_1).f3) t431 _ ?side1 ?side2 ?side3 ?side4 (Gl.below HG.out (belT HB GE425 GE430)) A9.out).mono ?_); (case side1 => exact Kd.C_below HR429_2.out (belT HB GE425 GE430)); (case side2 => exact HC429_2.out); (case side3 => exact Kd.C_below HR429_3.out (belT HB GE425 GE430)); (case side4 => exact HC429_3.out); rintro e w18 ⟨rfl, hb⟩; refine ⟨_, rfl, ?_⟩; replace HO_3 := Aside0.mk (Kd.R_below (by (with_reducible repeat (first | apply Kd.R_alloc | apply Kd.R_drewN | apply Kd.R_drew)); exact (Kd.R_mono (Kd.R_far (p := ⟨gb430, 3, none⟩) (Kd.R_far (p := ⟨gb430, 2, none⟩) (Kd.R_far (p := ⟨gb430, 1, none⟩) (Kd.R_far (p := ⟨gb430, 0, none⟩) (Kd.R_types HO_3.out BK430.out (by decide)) (fun _ hk => hk.2) (.int .i64 ((rd_T52 l0_2 x12_1).f0))) (fun _ hk => hk.2) (.string ((rd_T52 l0_2 x12_1).f1))) (fun _ hk => hk.2) (.slice A429_2 ((rd_T52 l0_2 x12_1).f2).length c429_2)) (fun _ hk => hk.2) (.slice A429_3 ((rd_T52 l0_2 x12_1).f3).length c429_3)) (fun _ h_ => h_.1))) hb); replace BK425 := Aside0.mk (blk_below (g := gb425) (o := .cells #[.int .i64 a0_0, .string a0_1, .slice (some ad429) l0_2.length c0_2, .slice A0_3 l0_3.length c0_3] 52 (0, 0)) (by (with_reducible repeat (first | refine blk_drewN ?_ _ | refine blk_drew ?_ | refine blk_alloc ?_ _)); refine blk_far ?_ NB425_430.out _; (with_reducible repeat (first | refine blk_drewN ?_ _ | refine blk_drew ?_ | refine blk_alloc ?_ _)); refine blk_far ?_ NB425_430.out _; (with_reducible repeat (first | refine blk_drewN ?_ _ | refine blk_drew ?_ | refine blk_alloc ?_ _)); refine blk_far ?_ NB425_430.out _; (with_reducible repeat (first | refine blk_drewN ?_ _ | refine blk_drew ?_ | refine blk_alloc ?_ _)); refine blk_far ?_ NB425_430.out _; (with_reducible repeat (first | refine blk_drewN ?_ _ | refine blk_drew ?_ | refine blk_alloc ?_ _)); exact BK425.out) hb); replace BK430 := Aside0.mk (blk_below (g := gb430) (o := .cells #[.int .i64 ((rd_T52 l0_2 x12_1).f0), .string ((rd_T52 l0_2 x12_1).f1), .slice A429_2 ((rd_T52 l0_2 x12_1).f2).length c429_2, .slice A429_3 ((rd_T52 l0_2 x12_1).f3).length c429_3] 52 (0, 0)) (by (with_reducible repeat (first | refine blk_drewN ?_ _ | refine blk_drew ?_ | refine blk_alloc ?_ _)); refine blk_put (cs := #[.int .i64 ((rd_T52 l0_2 x12_1).f0), .string ((rd_T52 l0_2 x12_1).f1), .slice A429_2 ((rd_T52 l0_2 x12_1).f2).length c429_2, .slice none 0 0]) ?_ 3 _ rfl; (with_reducible repeat (first | refine blk_drewN ?_ _ | refine blk_drew ?_ | refine blk_alloc ?_ _)); refine blk_put (cs := #[.int .i64 ((rd_T52 l0_2 x12_1).f0), .string ((rd_T52 l0_2 x12_1).f1), .slice none 0 0, .slice none 0 0]) ?_ 2 _ rfl; (with_reducible repeat (first | refine blk_drewN ?_ _ | refine blk_drew ?_ | refine blk_alloc ?_ _)); refine blk_put (cs := #[.int .i64 ((rd_T52 l0_2 x12_1).f0), .string (⟨#[]⟩ : ByteArray), .slice none 0 0, .slice none 0 0]) ?_ 1 _ rfl; (with_reducible repeat (first | refine blk_drewN ?_ _ | refine blk_drew ?_ | refine blk_alloc ?_ _)); refine blk_put (cs := #[.int .i64 0, .string (⟨#[]⟩ : ByteArray), .slice none 0 0, .slice none 0 0]) ?_ 0 _ rfl; (with_reducible repeat (first | refine blk_drewN ?_ _ | refine blk_drew ?_ | refine blk_alloc ?_ _)); exact BK430.out) hb); replace HB := Aside0.mk (below_step (belT HB GE425 GE430) hb); (try clear hb); obtain ⟨hcz19_0, hcz19_1, hcz19_2, hcz19_3, hfz19_0, hfz19_1, hfz19_2, hfz19_3⟩ := cef4 BK425.out; have p432 : 0 ≤ (x12_1 : Int) := odA; have q432 : x12_1 < (l0_3.length : Int) := odA; obtain ⟨ad432, e432, hx432_0⟩ := Kd.at_string HR0_3.out x12_1 p432 q432; cases e432; replace hx432_0 := (HB.out.cell (World.block_lt_of_cell? w _ hx432_0)).trans hx432_0; replace p432 := eq_true p432; replace q432 := eq_true q432) | ((with_reducible refine gate_builtin (b := .append) (xs := #[.tmp 30, .tmp 32]) rfl ?_); at_builtin; refine Kd.R_append Kd.string (w0 := w) w.heap.size rfl (.tmp 30) (.tmp 32) 49 9 (.string ⟨#[]⟩) 16 rfl Tryz.underlying49 info9 rfl (by decide) (by omega) u3 x3_1 (((rdOf ByteArray.empty l0_3 x12_1) ++ (⟨#[58, 32]⟩ : ByteArray)) ++ t431) [.string (((rdOf ByteArray.empty l0_3 x12_1) ++ (⟨#[58, 32]⟩ : ByteArray)) ++ t431)] (fun _ => True) (fun _ => False) rfl rfl ?aP (fun _ hk => hk.elim) ?aF ?aO ?aB ?aS ?aL ?_; (case aP => exact rfl); (case aB => exact (belT HB GE425 GE430)); (case aF => exact (fun _ _ => trivial)); (case aO => exact (kdB HO_3)); (case aS => exact (below_size (belT HB GE425 GE430))); (case aL => have := LMc14.out; omega); intro v434 w20 ho hb hg hat; rw [← Ny433.out] at ho; have HO435 := Aside0.mk (ho); replace BK425 := Aside0.mk (blk_grown (g := gb425) (o := .cells #[.int .i64 a0_0, .string a0_1, .slice (some ad429) l0_2.length c0_2, .slice (some ad432) l0_3.length c0_3] 52 (0, 0)) (blkA BK425) hg (Kd.R_ne HO_3.out BK425.out (by decide))); replace BK430 := Aside0.mk (blk_grown (g := gb430) (o := .cells #[.int .i64 ((rd_T52 l0_2 x12_1).f0), .string ((rd_T52 l0_2 x12_1).f1), .slice A429_2 ((rd_T52 l0_2 x12_1).f2).length c429_2, .slice A429_3 ((rd_T52 l0_2 x12_1).f3).length c429_3] 52 (0, 0)) (blkA BK430) hg (Kd.R_ne HO_3.out BK430.out (by decide))); replace HB := Aside0.mk (hb); clear HO_3; clear ho hb hg hat))
           go_roundg k1
           case measure => have := HK1.out; omega
           case rel => exact ⟨(y433), (wrap64 (x12_1 + 1)), enA, H', ⟨by have := HK1.out; omega⟩, ⟨kdB HO435⟩, ⟨blkA BK425⟩, ⟨belT HB GE425 GE430⟩⟩
          ·rw [if_neg c14] at H
           exact absurd H (by simp)
         ·rw [if_neg c13] at H
          exact absurd H (by simp)
        ·rw [if_neg c12] at H
         exact absurd H (by simp)
       ·rw [if_neg c11] at H
        exact absurd H (by simp)
      ·rw [if_neg c10] at H; have c10b0 := beq_eq_false_iff_ne.mpr c10; have c10b1 := bne_iff_ne.mpr c10
       by_cases c21 : x3_1.length < 8796093022208
       ·rw [if_pos c21] at H; have LMc21 := Aside0.mk c21; clear c21
        obtain ⟨y436, hy436⟩ : ∃ y_ : List ByteArray, y_ = (x3_1 ++ [t431]) := ⟨_, rfl⟩
        replace H : (impl_printValue.l0 k1 y436 l0_2 (l0_2.length : Int) (wrap64 (x12_1 + 1)) a0_0 a0_1 l0_2 l0_3) = some r := reA H hy436; have Ny436 := Aside0.mk hy436; clear hy436
        have H' := Aside0.mk H
        clear H; have p429 : 0 ≤ (x12_1 : Int) := odA; have q429 : x12_1 < (l0_2.length : Int) := odA; obtain ⟨ad429, A429_2, c429_2, A429_3, c429_3, e429, hx429_0, hx429_1, hx429_2, hx429_3, hl429_2, hi429_2, hl429_3, hi429_3⟩ := at_T52 HR0_2.out x12_1 p429 q429
        cases e429
        (try replace hx429_0 := celB HB hx429_0)
        (try replace hx429_1 := celB HB hx429_1)
        (try replace hx429_2 := celB HB hx429_2)
        (try replace hx429_3 := celB HB hx429_3)
        have HR429_2 := Aside0.mk hi429_2; have HC429_2 := Aside0.mk hl429_2; clear hi429_2 hl429_2; have HR429_3 := Aside0.mk hi429_3; have HC429_3 := Aside0.mk hl429_3; clear hi429_3 hl429_3; replace p429 := eq_true p429; replace q429 := eq_true q429
        go_wp2_with (first | ((with_reducible refine gate_dst (N := 5) rfl ?_); refine boxE (N := 5) (cs := #[.int .i64 0, .string (⟨#[]⟩ : ByteArray), .slice none 0 0, .slice none 0 0]) (t := 52) ?_; intro gb430 hg w22 hbox hb; have BK430 := Aside0.mk (hbox); have GW430 := Aside0.mk ((by rw [hg]; exact (below_size (belS HB GE425)) : w.heap.size ≤ gb430)); have GE430 := Aside0.mk ((by rw [hg]; exact (below_size (belS HB GE425)) : w.heap.size ≤ gb430)); have NB425_430 := Aside0.mk ((by rw [hg]; exact Nat.ne_of_lt (blk_lt (g := gb425) (o := .cells #[.int .i64 a0_0, .string a0_1, .slice (some ad429) l0_2.length c0_2, .slice A0_3 l0_3.length c0_3] 52 (0, 0)) (blkA BK425)) : gb425 ≠ gb430)); have NB430_425 := Aside0.mk ((by rw [hg]; exact Nat.ne_of_gt (blk_lt (g := gb425) (o := .cells #[.int .i64 a0_0, .string a0_1, .slice (some ad429) l0_2.length c0_2, .slice A0_3 l0_3.length c0_3] 52 (0, 0)) (blkA BK425)) : gb430 ≠ gb425)); replace HO_3 := Aside0.mk (Kd.R_below (kdB HO_3) hb); replace BK425 := Aside0.mk (bBA BK425 hb); replace HB := Aside0.mk (below_step (belS HB GE425) hb); clear hb hbox hg; have hnb23 := NB430_425.out; have hnc23 := NB425_430.out; obtain ⟨hcz24_0, hcz24_1, hcz24_2, hcz24_3, hfz24_0, hfz24_1, hfz24_2, hfz24_3⟩ := cef4 BK430.out) | ((with_reducible refine gate_callee (f := 25) rfl ?_); refine goesL_ (some 18) rfl rfl Tryz.func25 (by kernel_rfl) rfl #[.agg #[.int .i64 ((rd_T52 l0_2 x12_1).f0), .string ((rd_T52 l0_2 x12_1).f1), .slice A429_2 ((rd_T52 l0_2 x12_1).f2).length c429_2, .slice A429_3 ((rd_T52 l0_2 x12_1).f3).length c429_3]] rfl mapA ?_; (with_reducible refine (ih k1 (by have := HK1.out; omega) ((rd_T52 l0_2 x12_1).f0) ((rd_T52 l0_2 x12_1).f1) _ _ ((rd_T52 l0_2 x12_1).f2) _ _ ((rd_T52 l0_2 x12_1).f3) t431 _ ?side1 ?side2 ?side3 ?side4 (Gl.below HG.out (belT HB GE425 GE430)) A9.out).mono ?_); (case side1 => exact Kd.C_below HR429_2.out (belT HB GE425 GE430)); (case side2 => exact HC429_2.out); (case side3 => exact Kd.C_below HR429_3.out (belT HB GE425 GE430)); (case side4 => exact HC429_3.out); rintro e w25 ⟨rfl, hb⟩; refine ⟨_, rfl, ?_⟩; replace HO_3 := Aside0.mk (Kd.R_below (by (with_reducible repeat (first | apply Kd.R_alloc | apply Kd.R_drewN | apply Kd.R_drew)); exact (Kd.R_mono (Kd.R_far (p := ⟨gb430, 3, none⟩) (Kd.R_far (p := ⟨gb430, 2, none⟩) (Kd.R_far (p := ⟨gb430, 1, none⟩) (Kd.R_far (p := ⟨gb430, 0, none⟩) (Kd.R_types HO_3.out BK430.out (by decide)) (fun _ hk => hk.2) (.int .i64 ((rd_T52 l0_2 x12_1).f0))) (fun _ hk => hk.2) (.string ((rd_T52 l0_2 x12_1).f1))) (fun _ hk => hk.2) (.slice A429_2 ((rd_T52 l0_2 x12_1).f2).length c429_2)) (fun _ hk => hk.2) (.slice A429_3 ((rd_T52 l0_2 x12_1).f3).length c429_3)) (fun _ h_ => h_.1))) hb); replace BK425 := Aside0.mk (blk_below (g := gb425) (o := .cells #[.int .i64 a0_0, .string a0_1, .slice (some ad429) l0_2.length c0_2, .slice A0_3 l0_3.length c0_3] 52 (0, 0)) (by (with_reducible repeat (first | refine blk_drewN ?_ _ | refine blk_drew ?_ | refine blk_alloc ?_ _)); refine blk_far ?_ NB425_430.out _; (with_reducible repeat (first | refine blk_drewN ?_ _ | refine blk_drew ?_ | refine blk_alloc ?_ _)); refine blk_far ?_ NB425_430.out _; (with_reducible repeat (first | refine blk_drewN ?_ _ | refine blk_drew ?_ | refine blk_alloc ?_ _)); refine blk_far ?_ NB425_430.out _; (with_reducible repeat (first | refine blk_drewN ?_ _ | refine blk_drew ?_ | refine blk_alloc ?_ _)); refine blk_far ?_ NB425_430.out _; (with_reducible repeat (first | refine blk_drewN ?_ _ | refine blk_drew ?_ | refine blk_alloc ?_ _)); exact BK425.out) hb); replace BK430 := Aside0.mk (blk_below (g := gb430) (o := .cells #[.int .i64 ((rd_T52 l0_2 x12_1).f0), .string ((rd_T52 l0_2 x12_1).f1), .slice A429_2 ((rd_T52 l0_2 x12_1).f2).length c429_2, .slice A429_3 ((rd_T52 l0_2 x12_1).f3).length c429_3] 52 (0, 0)) (by (with_reducible repeat (first | refine blk_drewN ?_ _ | refine blk_drew ?_ | refine blk_alloc ?_ _)); refine blk_put (cs := #[.int .i64 ((rd_T52 l0_2 x12_1).f0), .string ((rd_T52 l0_2 x12_1).f1), .slice A429_2 ((rd_T52 l0_2 x12_1).f2).length c429_2, .slice none 0 0]) ?_ 3 _ rfl; (with_reducible repeat (first | refine blk_drewN ?_ _ | refine blk_drew ?_ | refine blk_alloc ?_ _)); refine blk_put (cs := #[.int .i64 ((rd_T52 l0_2 x12_1).f0), .string ((rd_T52 l0_2 x12_1).f1), .slice none 0 0, .slice none 0 0]) ?_ 2 _ rfl; (with_reducible repeat (first | refine blk_drewN ?_ _ | refine blk_drew ?_ | refine blk_alloc ?_ _)); refine blk_put (cs := #[.int .i64 ((rd_T52 l0_2 x12_1).f0), .string (⟨#[]⟩ : ByteArray), .slice none 0 0, .slice none 0 0]) ?_ 1 _ rfl; (with_reducible repeat (first | refine blk_drewN ?_ _ | refine blk_drew ?_ | refine blk_alloc ?_ _)); refine blk_put (cs := #[.int .i64 0, .string (⟨#[]⟩ : ByteArray), .slice none 0 0, .slice none 0 0]) ?_ 0 _ rfl; (with_reducible repeat (first | refine blk_drewN ?_ _ | refine blk_drew ?_ | refine blk_alloc ?_ _)); exact BK430.out) hb); replace HB := Aside0.mk (below_step (belT HB GE425 GE430) hb); (try clear hb); obtain ⟨hcz26_0, hcz26_1, hcz26_2, hcz26_3, hfz26_0, hfz26_1, hfz26_2, hfz26_3⟩ := cef4 BK425.out) | ((with_reducible refine gate_builtin (b := .append) (xs := #[.tmp 30, .tmp 32]) rfl ?_); at_builtin; refine Kd.R_append Kd.string (w0 := w) w.heap.size rfl (.tmp 30) (.tmp 32) 49 9 (.string ⟨#[]⟩) 16 rfl Tryz.underlying49 info9 rfl (by decide) (by omega) u3 x3_1 t431 [.string t431] (fun _ => True) (fun _ => False) rfl rfl ?aP (fun _ hk => hk.elim) ?aF ?aO ?aB ?aS ?aL ?_; (case aP => exact rfl); (case aB => exact (belT HB GE425 GE430)); (case aF => exact (fun _ _ => trivial)); (case aO => exact (kdB HO_3)); (case aS => exact (below_size (belT HB GE425 GE430))); (case aL => have := LMc21.out; omega); intro v437 w27 ho hb hg hat; rw [← Ny436.out] at ho; have HO438 := Aside0.mk (ho); replace BK425 := Aside0.mk (blk_grown (g := gb425) (o := .cells #[.int .i64 a0_0, .string a0_1, .slice (some ad429) l0_2.length c0_2, .slice A0_3 l0_3.length c0_3] 52 (0, 0)) (blkA BK425) hg (Kd.R_ne HO_3.out BK425.out (by decide))); replace BK430 := Aside0.mk (blk_grown (g := gb430) (o := .cells #[.int .i64 ((rd_T52 l0_2 x12_1).f0), .string ((rd_T52 l0_2 x12_1).f1), .slice A429_2 ((rd_T52 l0_2 x12_1).f2).length c429_2, .slice A429_3 ((rd_T52 l0_2 x12_1).f3).length c429_3] 52 (0, 0)) (blkA BK430) hg (Kd.R_ne HO_3.out BK430.out (by decide))); replace HB := Aside0.mk (hb); clear HO_3; clear ho hb hg hat))
        go_roundg k1
        case measure => have := HK1.out; omega
        case rel => exact ⟨(y436), (wrap64 (x12_1 + 1)), enA, H', ⟨by have := HK1.out; omega⟩, ⟨kdB HO438⟩, ⟨blkA BK425⟩, ⟨belT HB GE425 GE430⟩⟩
       ·rw [if_neg c21] at H
        exact absurd H (by simp)
     ·rw [if_neg c8] at H
      exact absurd H (by simp)
    ·rw [if_neg c7] at H
     exact absurd H (by simp)
   ·rw [if_neg c6] at H; have c6b0 := decide_eq_false c6; clear c6; replace H := Option.bind_eq_some_iff.mp H; obtain ⟨t439, A280, H⟩ := H; replace H : (if a0_0 = 1 then (if 1 + a0_1.size ≤ 9223372036854775807 then (some ((⟨#[36]⟩ : ByteArray) ++ a0_1)) else (none)) else (if a0_0 = 4 then ((impl_Escaped.f k1 a0_1).bind fun t440 => (some t440)) else (if a0_0 = 7 then (if 1 + t439.size ≤ 9223372036854775807 then (if ((⟨#[91]⟩ : ByteArray) ++ t439).size + 1 ≤ 9223372036854775807 then (some (((⟨#[91]⟩ : ByteArray) ++ t439) ++ (⟨#[93]⟩ : ByteArray))) else (none)) else (none)) else (if a0_0 = 8 then (if 1 + t439.size ≤ 9223372036854775807 then (if ((⟨#[123]⟩ : ByteArray) ++ t439).size + 1 ≤ 9223372036854775807 then (some (((⟨#[123]⟩ : ByteArray) ++ t439) ++ (⟨#[125]⟩ : ByteArray))) else (none)) else (none)) else (some a0_1))))) = some r := H; have A28 := Aside0.mk A280; clear A280
    by_cases c29 : a0_0 = 1
    ·rw [if_pos c29] at H; have c29b0 := beq_iff_eq.mpr c29; have c29b1 := bne_eq_false_iff_eq.mpr c29; clear c29
     by_cases c30 : 1 + a0_1.size ≤ 9223372036854775807
     ·rw [if_pos c30] at H; have c30b0 := eq_true c30; have c30b1 := decide_eq_true c30
      try have c30b2 : (9223372036854775807 < 1 + a0_1.size) = False := eq_false (Nat.not_lt.2 c30)
      obtain rfl := Option.some.inj H; obtain ⟨Ao31, co31, eo31⟩ := Kd.R_slice HO_3.out; subst eo31
      go_wp2_with (first | ((with_reducible refine gate_callee (f := 26) rfl ?_); refine goesL_ (some 36) rfl rfl Tryz.func26 (by kernel_rfl) rfl #[.slice Ao31 x3_1.length co31, .string (⟨#[44, 32]⟩ : ByteArray)] rfl mapA ?_; (with_reducible refine (strings_Join.calls _ _ x3_1 (⟨#[44, 32]⟩ : ByteArray) t439 _ ?side1 ?side2 A28.out (strings_Join.spotR HO_3.out)).mono ?_); (case side1 => repeat (first | exact (Kd.R_reads' HO_3.out).2.2 | (with_reducible refine Kd.C_alloc ?_ _) | (with_reducible refine Kd.C_drewN ?_ _) | (with_reducible refine Kd.C_drew ?_))); (case side2 => exact (Kd.R_reads' HO_3.out).2.1); rintro e w32 ⟨rfl, hb⟩; refine ⟨_, rfl, ?_⟩; replace HO_3 := Aside0.mk (Kd.R_below (kdB HO_3) hb); replace BK425 := Aside0.mk (bBA BK425 hb); replace HB := Aside0.mk (below_step (belS HB GE425) hb); (try clear hb); obtain ⟨hcz33_0, hcz33_1, hcz33_2, hcz33_3, hfz33_0, hfz33_1, hfz33_2, hfz33_3⟩ := cef4 BK425.out))
      go_ret
      exact ⟨erA, belS HB GE425⟩
     ·rw [if_neg c30] at H
      exact absurd H (by simp)
    ·rw [if_neg c29] at H; have c29b0 := beq_eq_false_iff_ne.mpr c29; have c29b1 := bne_iff_ne.mpr c29
     by_cases c34 : a0_0 = 4
     ·rw [if_pos c34] at H; have c34b0 := beq_iff_eq.mpr c34; have c34b1 := bne_eq_false_iff_eq.mpr c34; clear c34; replace H := Option.bind_eq_some_iff.mp H; obtain ⟨t440, A350, H⟩ := H; replace H : (some t440) = some r := H; have A35 := Aside0.mk A350; clear A350; obtain rfl := Option.some.inj H; obtain ⟨Ao36, co36, eo36⟩ := Kd.R_slice HO_3.out; subst eo36
      go_wp2_with (first | ((with_reducible refine gate_callee (f := 26) rfl ?_); refine goesL_ (some 36) rfl rfl Tryz.func26 (by kernel_rfl) rfl #[.slice Ao36 x3_1.length co36, .string (⟨#[44, 32]⟩ : ByteArray)] rfl mapA ?_; (with_reducible refine (strings_Join.calls _ _ x3_1 (⟨#[44, 32]⟩ : ByteArray) t439 _ ?side1 ?side2 A28.out (strings_Join.spotR HO_3.out)).mono ?_); (case side1 => repeat (first | exact (Kd.R_reads' HO_3.out).2.2 | (with_reducible refine Kd.C_alloc ?_ _) | (with_reducible refine Kd.C_drewN ?_ _) | (with_reducible refine Kd.C_drew ?_))); (case side2 => exact (Kd.R_reads' HO_3.out).2.1); rintro e w37 ⟨rfl, hb⟩; refine ⟨_, rfl, ?_⟩; replace HO_3 := Aside0.mk (Kd.R_below (kdB HO_3) hb); replace BK425 := Aside0.mk (bBA BK425 hb); replace HB := Aside0.mk (below_step (belS HB GE425) hb); (try clear hb); obtain ⟨hcz38_0, hcz38_1, hcz38_2, hcz38_3, hfz38_0, hfz38_1, hfz38_2, hfz38_3⟩ := cef4 BK425.out) | ((with_reducible refine gate_callee (f := 41) rfl ?_); refine goesL_ (some 48) rfl rfl Tryz.func41 (by kernel_rfl) rfl #[.string a0_1] rfl mapA ?_; (with_reducible refine (impl_Escaped.calls k1 a0_1 t440 _ (Gl.below HG.out (belS HB GE425)) A35.out).mono ?_); rintro e w39 ⟨rfl, hb⟩; refine ⟨_, rfl, ?_⟩; replace HO_3 := Aside0.mk (Kd.R_below (kdB HO_3) hb); replace BK425 := Aside0.mk (bBA BK425 hb); replace HB := Aside0.mk (below_step (belS HB GE425) hb); (try clear hb)))
      go_ret
      exact ⟨erA, belS HB GE425⟩
     ·rw [if_neg c34] at H; have c34b0 := beq_eq_false_iff_ne.mpr c34; have c34b1 := bne_iff_ne.mpr c34
      by_cases c40 : a0_0 = 7
      ·rw [if_pos c40] at H; have c40b0 := beq_iff_eq.mpr c40; have c40b1 := bne_eq_false_iff_eq.mpr c40; clear c40
       by_cases c41 : 1 + t439.size ≤ 9223372036854775807
       ·rw [if_pos c41] at H; have c41b0 := eq_true c41; have c41b1 := decide_eq_true c41
        try have c41b2 : (9223372036854775807 < 1 + t439.size) = False := eq_false (Nat.not_lt.2 c41)
        by_cases c42 : ((⟨#[91]⟩ : ByteArray) ++ t439).size + 1 ≤ 9223372036854775807
        ·rw [if_pos c42] at H; have c42b0 := eq_true c42; have c42b1 := decide_eq_true c42
         have c42n : 1 + t439.size + 1 ≤ 9223372036854775807 := by have z_ := c42; simp only [ByteArray.size_append] at z_; exact z_
         have c42n0 := eq_true c42n; have c42n1 : decide (1 + t439.size + 1 ≤ 9223372036854775807) = true := decide_eq_true c42n
         try have c42b2 : (9223372036854775807 < ((⟨#[91]⟩ : ByteArray) ++ t439).size + 1) = False := eq_false (Nat.not_lt.2 c42)
         obtain rfl := Option.some.inj H; obtain ⟨Ao43, co43, eo43⟩ := Kd.R_slice HO_3.out; subst eo43
         go_wp2_with (first | ((with_reducible refine gate_callee (f := 26) rfl ?_); refine goesL_ (some 36) rfl rfl Tryz.func26 (by kernel_rfl) rfl #[.slice Ao43 x3_1.length co43, .string (⟨#[44, 32]⟩ : ByteArray)] rfl mapA ?_; (with_reducible refine (strings_Join.calls _ _ x3_1 (⟨#[44, 32]⟩ : ByteArray) t439 _ ?side1 ?side2 A28.out (strings_Join.spotR HO_3.out)).mono ?_); (case side1 => repeat (first | exact (Kd.R_reads' HO_3.out).2.2 | (with_reducible refine Kd.C_alloc ?_ _) | (with_reducible refine Kd.C_drewN ?_ _) | (with_reducible refine Kd.C_drew ?_))); (case side2 => exact (Kd.R_reads' HO_3.out).2.1); rintro e w44 ⟨rfl, hb⟩; refine ⟨_, rfl, ?_⟩; replace HO_3 := Aside0.mk (Kd.R_below (kdB HO_3) hb); replace BK425 := Aside0.mk (bBA BK425 hb); replace HB := Aside0.mk (below_step (belS HB GE425) hb); (try clear hb); obtain ⟨hcz45_0, hcz45_1, hcz45_2, hcz45_3, hfz45_0, hfz45_1, hfz45_2, hfz45_3⟩ := cef4 BK425.out))
         go_ret
         exact ⟨erA, belS HB GE425⟩
        ·rw [if_neg c42] at H
         exact absurd H (by simp)
       ·rw [if_neg c41] at H
        exact absurd H (by simp)
      ·rw [if_neg c40] at H; have c40b0 := beq_eq_false_iff_ne.mpr c40; have c40b1 := bne_iff_ne.mpr c40
       by_cases c46 : a0_0 = 8
       ·rw [if_pos c46] at H; have c46b0 := beq_iff_eq.mpr c46; have c46b1 := bne_eq_false_iff_eq.mpr c46; clear c46
        by_cases c47 : 1 + t439.size ≤ 9223372036854775807
        ·rw [if_pos c47] at H; have c47b0 := eq_true c47; have c47b1 := decide_eq_true c47
         try have c47b2 : (9223372036854775807 < 1 + t439.size) = False := eq_false (Nat.not_lt.2 c47)
         by_cases c48 : ((⟨#[123]⟩ : ByteArray) ++ t439).size + 1 ≤ 9223372036854775807
         ·rw [if_pos c48] at H; have c48b0 := eq_true c48; have c48b1 := decide_eq_true c48
          have c48n : 1 + t439.size + 1 ≤ 9223372036854775807 := by have z_ := c48; simp only [ByteArray.size_append] at z_; exact z_
          have c48n0 := eq_true c48n; have c48n1 : decide (1 + t439.size + 1 ≤ 9223372036854775807) = true := decide_eq_true c48n
          try have c48b2 : (9223372036854775807 < ((⟨#[123]⟩ : ByteArray) ++ t439).size + 1) = False := eq_false (Nat.not_lt.2 c48)
          obtain rfl := Option.some.inj H; obtain ⟨Ao49, co49, eo49⟩ := Kd.R_slice HO_3.out; subst eo49
          go_wp2_with (first | ((with_reducible refine gate_callee (f := 26) rfl ?_); refine goesL_ (some 36) rfl rfl Tryz.func26 (by kernel_rfl) rfl #[.slice Ao49 x3_1.length co49, .string (⟨#[44, 32]⟩ : ByteArray)] rfl mapA ?_; (with_reducible refine (strings_Join.calls _ _ x3_1 (⟨#[44, 32]⟩ : ByteArray) t439 _ ?side1 ?side2 A28.out (strings_Join.spotR HO_3.out)).mono ?_); (case side1 => repeat (first | exact (Kd.R_reads' HO_3.out).2.2 | (with_reducible refine Kd.C_alloc ?_ _) | (with_reducible refine Kd.C_drewN ?_ _) | (with_reducible refine Kd.C_drew ?_))); (case side2 => exact (Kd.R_reads' HO_3.out).2.1); rintro e w50 ⟨rfl, hb⟩; refine ⟨_, rfl, ?_⟩; replace HO_3 := Aside0.mk (Kd.R_below (kdB HO_3) hb); replace BK425 := Aside0.mk (bBA BK425 hb); replace HB := Aside0.mk (below_step (belS HB GE425) hb); (try clear hb); obtain ⟨hcz51_0, hcz51_1, hcz51_2, hcz51_3, hfz51_0, hfz51_1, hfz51_2, hfz51_3⟩ := cef4 BK425.out))
          go_ret
          exact ⟨erA, belS HB GE425⟩
         ·rw [if_neg c48] at H
          exact absurd H (by simp)
        ·rw [if_neg c47] at H
         exact absurd H (by simp)
       ·rw [if_neg c46] at H; have c46b0 := beq_eq_false_iff_ne.mpr c46; have c46b1 := bne_iff_ne.mpr c46; obtain rfl := Option.some.inj H; obtain ⟨Ao52, co52, eo52⟩ := Kd.R_slice HO_3.out; subst eo52
        go_wp2_with (first | ((with_reducible refine gate_callee (f := 26) rfl ?_); refine goesL_ (some 36) rfl rfl Tryz.func26 (by kernel_rfl) rfl #[.slice Ao52 x3_1.length co52, .string (⟨#[44, 32]⟩ : ByteArray)] rfl mapA ?_; (with_reducible refine (strings_Join.calls _ _ x3_1 (⟨#[44, 32]⟩ : ByteArray) t439 _ ?side1 ?side2 A28.out (strings_Join.spotR HO_3.out)).mono ?_); (case side1 => repeat (first | exact (Kd.R_reads' HO_3.out).2.2 | (with_reducible refine Kd.C_alloc ?_ _) | (with_reducible refine Kd.C_drewN ?_ _) | (with_reducible refine Kd.C_drew ?_))); (case side2 => exact (Kd.R_reads' HO_3.out).2.1); rintro e w53 ⟨rfl, hb⟩; refine ⟨_, rfl, ?_⟩; replace HO_3 := Aside0.mk (Kd.R_below (kdB HO_3) hb); replace BK425 := Aside0.mk (bBA BK425 hb); replace HB := Aside0.mk (below_step (belS HB GE425) hb); (try clear hb); obtain ⟨hcz54_0, hcz54_1, hcz54_2, hcz54_3, hfz54_0, hfz54_1, hfz54_2, hfz54_3⟩ := cef4 BK425.out))
        go_ret
        exact ⟨erA, belS HB GE425⟩

end Go.Proofs.YtjhagdjjlgjlbaaGreatDoor.OFnExactDirsText
-- narrow
