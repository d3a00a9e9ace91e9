/- Written in this session: the rows' condition on the library's variables gives what the walks ask of them. No condition. -/
import Derived.Test.YtkidihoaeicfdaaDoorT2
import Derived.Test.YtkidihoaeicfdaaDoorRows
import Derived.Stop.LaidErr
import Derived.LaidMore
import Derived.MakeChecks
namespace Go.Proofs.YtkidihoaeicfdaaDoor.P
open Go.RowKit Go.Shelf
theorem pow_data : (Rows.laid_internal_strconv_uint64pow10 : DataW Unit) = Lib.tabData .u64 Lib.pow10Tab := by kernel_rfl
theorem tabs_of {a b : String × DataW Unit} {r : List (String × DataW Unit)} {W : World} (hL : laidMetH Tryd.prog (a :: b :: ("internal/strconv.uint64pow10", Rows.laid_internal_strconv_uint64pow10) :: r) W)
    (hp : ((a :: b :: ("internal/strconv.uint64pow10", Rows.laid_internal_strconv_uint64pow10) :: r).all fun x => x.2.handleName?.isNone) = true) (hS : W.ShapedOpen Tryd.prog) : Tabs W := by
  rw [MakeChecks.laidMetH_plain _ _ _ hp] at hL
  have h2 := hL.tail.tail
  rw [pow_data] at h2
  have ht : Lib.TabIs Tryd.prog W "internal/strconv.uint64pow10" .u64 Lib.pow10Tab := Lib.tabIs_of_head (g := 1) (t := 73) (e := 58) (n := 20) (by kernel_rfl) (by kernel_rfl) Tryd.underlying73 Tryd.underlying58 (by kernel_rfl) (by kernel_rfl) h2
  have hc := Lib.TabIs.cell ht (show Tryd.prog.globalNamed "internal/strconv.uint64pow10" = some 1 by kernel_rfl) 0 (by decide)
  exact ⟨Tryd.laysM155.s1_3 W hS, ht, cell_lt hc⟩
end Go.Proofs.YtkidihoaeicfdaaDoor.P
