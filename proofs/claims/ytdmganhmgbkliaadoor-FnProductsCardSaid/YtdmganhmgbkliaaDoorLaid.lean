/- Out of the listed variables' readings: the library's tables hold what the contracts ask; condition: that the row's listed variables read as listed. -/
import Derived.Test.YtdmganhmgbkliaaDoorTabs
import Derived.Test.YtdmganhmgbkliaaDoorRows
import Derived.Lib.LaidTab
import Derived.Lib.LaidU8
namespace Go.Proofs.YtdmganhmgbkliaaDoor.Q
open Go Go.RowKit Go.Lib

theorem tabIs_of_reads {P : Program} {W : World} {name : String} {k : IntKind} {zs : List Int} {g : Nat} {t e : TypeId} {n : Nat}
    (hg : P.globalNamed name = some g) (hty : (P.globals[g]?).map (·.type) = some t) (ht : P.underlying t = some (.array n e)) (he : P.underlying e = some (.int k)) (hce : P.cellsOf e = 1) (hct : P.cellsOf t = n)
    (h : VarReads P W name (Lib.tabData k zs)) : Lib.TabIs P W name k zs := by
  obtain ⟨g', t', cs, fuel, p, hg', ht', hvar, hd⟩ := h
  obtain rfl := Option.some.inj (hg.symm.trans hg')
  obtain rfl := Option.some.inj (hty.symm.trans ht')
  unfold Lib.TabIs
  rw [hvar, ← Lib.cells_of_tab ht he hce hct hd]

theorem tabs_of_laid {W : World} {l : List (String × DataW Unit)} (h : laidMet Tryd.prog l W) (hm : ("internal/strconv.uint64pow10", Rows.laid_internal_strconv_uint64pow10) ∈ l) : Tabs W where
  pow10 := tabIs_of_reads (g := 3) (t := 174) (e := 83) (by kernel_rfl) (by kernel_rfl) Tryd.underlying174 Tryd.underlying83 (by kernel_rfl) (by kernel_rfl)
    ((show Rows.laid_internal_strconv_uint64pow10 = Lib.tabData .u64 Lib.pow10Tab by kernel_rfl) ▸ laidMet.reads h hm)
end Go.Proofs.YtdmganhmgbkliaaDoor.Q
