/- What the calls behind some laws need of the world: certain variables of Go's library hold what their initialisers lay; new memory leaves that as it is; a row's listed variables give it. No law is proved here. -/
import Derived.Test.YtnlhpjapdklfgaaDoorRows
import Derived.Test.YtnlhpjapdklfgaaDoorShelf
import Derived.Test.YtnlhpjapdklfgaaDoorWWords
import Derived.Below
import Derived.KernelRfl
import Derived.Lib.SmallJoins
import Derived.Lib.LaidTab
import Derived.Lib.LaidU8
import Derived.Lib.SmallJoins
import Derived.Lib.LaidU8
import Derived.LaidLaws
namespace Go.Proofs.YtnlhpjapdklfgaaDoor.GlE
open Go.RowKit Go.Lib Go.Shelf Go.Proofs.YtnlhpjapdklfgaaDoorW.PrintWords
set_option maxRecDepth 100000
theorem powG : Tryd.prog.globalNamed "internal/strconv.uint64pow10" = some 5 := by kernel_rfl
theorem synG : Tryd.prog.globalNamed "strconv.ErrSyntax" = some 2 := by kernel_rfl
theorem rngG : Tryd.prog.globalNamed "strconv.ErrRange" = some 3 := by kernel_rfl
/-- What is asked of the world. -/
structure Gl (w : World) : Prop where
  pow : Lib.TabIs Tryd.prog w "internal/strconv.uint64pow10" .u64 Lib.pow10Tab
  syn : ∃ tp p, w.var? Tryd.prog "strconv.ErrSyntax" = some #[.iface tp p]
  rng : ∃ tp p, w.var? Tryd.prog "strconv.ErrRange" = some #[.iface tp p]
theorem Gl.below {w w1 : World} (h : Gl w) (hb : Below w.heap.size w w1) : Gl w1 :=
  ⟨Go.Joins.tab_stays powG h.pow hb (Nat.le_refl _), h.syn.imp fun _ h1 => h1.imp fun _ h2 => Go.Joins.var_stays synG h2 hb (Nat.le_refl _), h.rng.imp fun _ h1 => h1.imp fun _ h2 => Go.Joins.var_stays rngG h2 hb (Nat.le_refl _)⟩
theorem pow_is : (Rows.laid_internal_strconv_uint64pow10 : DataW Unit) = Lib.tabData .u64 Lib.pow10Tab := by kernel_rfl
theorem tabIs_of_reads {P : Program} {W : World} {name : String} {k : IntKind} {zs : List Int} {g : Nat} {t e : TypeId} {n : Nat}
    (hg : P.globalNamed name = some g) (hty : (P.globals[g]?).map (·.type) = some t) (ht : P.underlying t = some (.array n e)) (he : P.underlying e = some (.int k)) (hce : P.cellsOf e = 1) (hct : P.cellsOf t = n)
    (h : VarReads P W name (tabData k zs)) : TabIs P W name k zs := by
  obtain ⟨g', t', cs, fuel, p, hg', ht', hvar, hd⟩ := h
  obtain rfl := Option.some.inj (hg.symm.trans hg')
  obtain rfl := Option.some.inj (hty.symm.trans ht')
  unfold TabIs
  rw [hvar, ← cells_of_tab ht he hce hct hd]
theorem below_grow {w : World} (q : Nat) (os : Array Obj) : Below w.heap.size w (Go.Sort.grow (w.drewN q) os) :=
  ⟨rfl, rfl, rfl, by simp [Go.Sort.grow], fun i hi => by
    show ((w.drewN q).heap ++ os)[i]? = _
    rw [Array.getElem?_append_left (by show i < w.heap.size; omega)]
    rfl⟩
theorem iface_of_reads {P : Program} {W : World} {name nm : String} {d : DataW Unit} {g : Nat} {t : TypeId} {ms : Array (String × TypeId)}
    (hg : P.globalNamed name = some g) (hty : (P.globals[g]?).map (·.type) = some t) (ht : P.underlying t = some (.interface ms))
    (h : VarReads P W name (.iface nm d)) : ∃ tp p, W.var? P name = some #[.iface tp p] := by
  obtain ⟨g', t', cs, fuel, p, hg', ht', hvar, hd⟩ := h
  obtain rfl := Option.some.inj (hg.symm.trans hg')
  obtain rfl := Option.some.inj (hty.symm.trans ht')
  cases fuel with
  | zero => simp [DataW.trod] at hd
  | succ fuel =>
    obtain ⟨l⟩ := cs
    rcases l with _ | ⟨v, _ | ⟨v2, l⟩⟩
    · simp [DataW.trod, ht] at hd
    · cases v
      all_goals first
        | (simp [DataW.trod, ht] at hd; done)
        | exact ⟨_, _, hvar⟩
    · simp [DataW.trod, ht] at hd
theorem Gl.of_laid {W : World} (h5 : Lib.VarReads Tryd.prog W "internal/strconv.uint64pow10" Rows.laid_internal_strconv_uint64pow10) (hsyn : Lib.VarReads Tryd.prog W "strconv.ErrSyntax" Rows.laid_strconv_ErrSyntax) (hrng : Lib.VarReads Tryd.prog W "strconv.ErrRange" Rows.laid_strconv_ErrRange) : Gl W :=
  ⟨tabIs_of_reads (t := 127) (e := 95) (n := 20) powG (by kernel_rfl) (by kernel_rfl) (by kernel_rfl) (by kernel_rfl) (by kernel_rfl) (pow_is ▸ h5), iface_of_reads (t := 51) synG (by kernel_rfl) Tryd.underlying51 hsyn, iface_of_reads (t := 51) rngG (by kernel_rfl) Tryd.underlying51 hrng⟩
end Go.Proofs.YtnlhpjapdklfgaaDoor.GlE
