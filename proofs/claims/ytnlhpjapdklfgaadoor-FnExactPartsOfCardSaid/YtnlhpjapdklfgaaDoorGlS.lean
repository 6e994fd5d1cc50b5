/- What the calls behind some laws need of the world: certain variables of Go's library hold what their initialisers lay; new memory leaves that as it is; a row's listed variables give it. No law is proved here. -/
import Derived.Test.YtnlhpjapdklfgaaDoorRows
import Derived.Test.YtnlhpjapdklfgaaDoorShelfF
import Derived.Test.YtnlhpjapdklfgaaDoorWWords
import Derived.Below
import Derived.KernelRfl
import Derived.Lib.SmallJoins
import Derived.Lib.LaidTab
import Derived.Lib.LaidU8
import Derived.Lib.Space
namespace Go.Proofs.YtnlhpjapdklfgaaDoor.GlS
open Go.RowKit Go.Lib Go.Shelf Go.Proofs.YtnlhpjapdklfgaaDoorW.PrintWords
set_option maxRecDepth 100000
theorem spG : Tryd.prog.globalNamed "strings.asciiSpace" = some 0 := by kernel_rfl
/-- What is asked of the world. -/
structure Gl (w : World) : Prop where
  sp : Lib.TabIs Tryd.prog w "strings.asciiSpace" .u8 Lib.asciiSpaceTab
theorem Gl.below {w w1 : World} (h : Gl w) (hb : Below w.heap.size w w1) : Gl w1 :=
  ⟨Go.Joins.tab_stays spG h.sp hb (Nat.le_refl _)⟩
theorem sp_is : (Rows.laid_strings_asciiSpace : DataW Unit) = Lib.tabData .u8 Lib.asciiSpaceTab := by kernel_rfl
theorem tabIs_of_reads {P : Program} {W : World} {name : String} {k : IntKind} {zs : List Int} {g : Nat} {t e : TypeId} {n : Nat}
    (hg : P.globalNamed name = some g) (hty : (P.globals[g]?).map (·.type) = some t) (ht : P.underlying t = some (.array n e)) (he : P.underlying e = some (.int k)) (hce : P.cellsOf e = 1) (hct : P.cellsOf t = n)
    (h : VarReads P W name (tabData k zs)) : TabIs P W name k zs := by
  obtain ⟨g', t', cs, fuel, p, hg', ht', hvar, hd⟩ := h
  obtain rfl := Option.some.inj (hg.symm.trans hg')
  obtain rfl := Option.some.inj (hty.symm.trans ht')
  unfold TabIs
  rw [hvar, ← cells_of_tab ht he hce hct hd]
theorem Gl.of_laid {W : World} (h6 : Lib.VarReads Tryd.prog W "strings.asciiSpace" Rows.laid_strings_asciiSpace) : Gl W :=
  ⟨tabIs_of_reads (t := 70) (e := 5) (n := 256) spG (by kernel_rfl) (by kernel_rfl) (by kernel_rfl) (by kernel_rfl) (by kernel_rfl) (sp_is ▸ h6)⟩
end Go.Proofs.YtnlhpjapdklfgaaDoor.GlS
