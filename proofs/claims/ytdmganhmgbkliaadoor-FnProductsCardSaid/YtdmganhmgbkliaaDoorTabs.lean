/- The tables of Go's library that a call reads, as a fact of the world, and that it stays; no condition. -/
import Derived.Test.YtdmganhmgbkliaaDoorProg
import Derived.Test.YtdmganhmgbkliaaDoorWWords
import Derived.Shelf.Strconv.Itoa3
namespace Go.Proofs.YtdmganhmgbkliaaDoor.Q
open Go Go.RowKit Go.Proofs.YtdmganhmgbkliaaDoorW.PrintWords

/-- What the library's tables hold. -/
structure Tabs (w : World) : Prop where
  pow10 : Lib.TabIs Tryd.prog w "internal/strconv.uint64pow10" .u64 Lib.pow10Tab

theorem tabIs_heap {P : Program} {w w1 : World} {name : String} {k : IntKind} {zs : List Int} (h : Lib.TabIs P w name k zs) (hb : ∀ i, i < w.heap.size → w1.heap[i]? = w.heap[i]?) : Lib.TabIs P w1 name k zs := by
  unfold Lib.TabIs at h ⊢
  unfold World.var? at h ⊢
  cases hg : P.globalNamed name with
  | none => rw [hg] at h; simp at h
  | some g =>
    rw [hg] at h
    simp only [Option.bind_some] at h ⊢
    by_cases hlt : g < w.heap.size
    · rw [hb g hlt]; exact h
    · rw [Array.getElem?_eq_none (by omega)] at h
      simp at h

theorem Tabs.below {w w1 : World} (h : Tabs w) (hb : Below w.heap.size w w1) : Tabs w1 := ⟨tabIs_heap h.pow10 fun i hi => hb.block i hi⟩
theorem Tabs.drewN {w : World} (h : Tabs w) (n : Nat) : Tabs (w.drewN n) := ⟨tabIs_heap h.pow10 fun _ _ => rfl⟩
end Go.Proofs.YtdmganhmgbkliaaDoor.Q
