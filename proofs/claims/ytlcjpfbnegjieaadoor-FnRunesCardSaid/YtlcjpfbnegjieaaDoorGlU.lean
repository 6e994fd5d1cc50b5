/- What the calls behind some laws need of the world: certain variables of Go's library hold what their initialisers lay; new memory leaves that as it is; a row's listed variables give it. No law is proved here. -/
import Derived.Test.YtlcjpfbnegjieaaDoorRows
import Derived.Test.YtlcjpfbnegjieaaDoorShelf
import Derived.Test.YtlcjpfbnegjieaaDoorWWords
import Derived.Below
import Derived.KernelRfl
import Derived.Lib.LaidU8T
import Derived.PinnedBridge
namespace Go.Proofs.YtlcjpfbnegjieaaDoor.GlU
open Go.RowKit Go.Lib Go.Shelf Go.Proofs.YtlcjpfbnegjieaaDoorW.PrintWords
set_option maxRecDepth 100000
/-- What is asked of the world. -/
structure Gl (w : World) : Prop where
  tabs : Lib.Utf8Tabs (Tryd.lays196_ren.g 3) (Tryd.lays196_ren.g 4) w
theorem Gl.below {w w1 : World} (h : Gl w) (hb : Below w.heap.size w w1) : Gl w1 :=
  ⟨⟨fun c hc => pw_cell_below hb (h.tabs.1 c hc), fun i hi => ⟨pw_cell_below hb (h.tabs.2 i hi).1, pw_cell_below hb (h.tabs.2 i hi).2⟩⟩⟩
theorem u8Extra : U8Extra Tryd.prog Tryd.lays196_ren := ⟨by kernel_rfl, by kernel_rfl, by kernel_rfl, by kernel_rfl, by kernel_rfl, by kernel_rfl, by kernel_rfl⟩
theorem accept_is : Rows.laid_unicode_utf8_acceptRanges = Lib.acceptData := by kernel_rfl
theorem Gl.of_laid {W : World} (h3 : Lib.VarReads Tryd.prog W "unicode/utf8.first" Rows.laid_unicode_utf8_first) (h4 : Lib.VarReads Tryd.prog W "unicode/utf8.acceptRanges" Rows.laid_unicode_utf8_acceptRanges) : Gl W :=
  ⟨utf8Tabs_of_readsT (U8Types.of196 Tryd.lays196) u8Extra (Go.Pinned.utf8First_eq ▸ h3) (accept_is ▸ h4)⟩
end Go.Proofs.YtlcjpfbnegjieaaDoor.GlU
