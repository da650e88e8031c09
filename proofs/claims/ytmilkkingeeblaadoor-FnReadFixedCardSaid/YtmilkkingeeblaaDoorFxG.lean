/- What the four rows' list of the library's tables gives: the table of powers of ten holds them; and a world in which the list is laid. Conditions: none. -/
import Derived.Test.YtmilkkingeeblaaDoorRows
import Derived.Test.YtmilkkingeeblaaDoorFxA
import Derived.Lib.LaidU8
import Derived.Lay
import Derived.LaidOnce
import Derived.MakeChecks
namespace Go.Proofs.YtmilkkingeeblaaDoor
open Go Go.RowKit

/-- The list of the four rows. -/
def laid : List (String × DataW Unit) := Rows.fnFixedTextRow.laid
theorem laid_pow : (Rows.laid_internal_strconv_uint64pow10 : DataW Unit) = Lib.tabData .u64 Lib.pow10Tab := by kernel_rfl
theorem tab_of_laid {W : World} (hL : laidMetH Tryd.prog laid W) : Tab W := by
  rw [MakeChecks.laidMetH_plain _ _ _ (by kernel_rfl)] at hL
  obtain ⟨g, t, cs, fuel, p, hg, ht, hv, hd⟩ := Lib.laidMet.reads hL (n := "internal/strconv.uint64pow10") (d := Rows.laid_internal_strconv_uint64pow10) (.tail _ (.tail _ (.head _)))
  rw [laid_pow] at hd
  have tt : (Tryd.prog.globalNamed "internal/strconv.uint64pow10").bind (fun g => (Tryd.prog.globals[g]?).map (·.type)) = some 73 := by kernel_rfl
  rw [hg, Option.bind_some, ht] at tt
  obtain rfl := Option.some.inj tt
  unfold Tab Lib.TabIs
  rw [hv, ← Lib.cells_of_tab Tryd.underlying73 Tryd.underlying63 (by kernel_rfl) (by kernel_rfl) hd]
set_option maxRecDepth 100000 in
theorem laid_met (os : Os) (args : Array Value) : laidMetH Tryd.prog laid ((World.laidAll Tryd.prog os laid).forCall (fun _ _ => 0) ⟨#[], args, []⟩).memory := by
  rw [MakeChecks.laidMetH_plain _ _ _ (by kernel_rfl)]; exact laidMet_laidAll _ (by kernel_rfl) (by kernel_rfl)
end Go.Proofs.YtmilkkingeeblaaDoor
