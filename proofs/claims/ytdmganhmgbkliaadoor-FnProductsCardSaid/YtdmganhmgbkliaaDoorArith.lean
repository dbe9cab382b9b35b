/- What the program's decimals compute, in plain words: sums, differences, negation, comparison, and that the witnesses of the arithmetic layer hold; no condition. -/
import Derived.Test.YtdmganhmgbkliaaDoorDraw
namespace Go.Proofs.YtdmganhmgbkliaaDoor.Pure
open Go Go.RowKit Go.Proofs.YtdmganhmgbkliaaDoor.Q Go.Proofs.YtdmganhmgbkliaaDoorW.PrintWords Go.Proofs.YtdmganhmgbkliaaDoorW.PrintLast Go.Proofs.YtdmganhmgbkliaaDoorW.PrintMore

def isDec (n : Int) : Prop := -9000000000000 ≤ n ∧ n ≤ 9000000000000
instance (n : Int) : Decidable (isDec n) := inferInstanceAs (Decidable (_ ∧ _))

theorem decOk_eq (n : Int) : impl_DecOk.f n = some (decide (isDec n)) := by
  unfold impl_DecOk.f impl_between.f
  by_cases h : n ≥ -9000000000000
  · rw [if_pos h, Option.bind_some]
    by_cases h2 : n ≤ 9000000000000
    · rw [decide_eq_true h2, decide_eq_true (show isDec n from ⟨h, h2⟩)]
    · rw [decide_eq_false h2, decide_eq_false (show ¬ isDec n from fun h => h2 h.2)]
  · rw [if_neg h, Option.bind_some, decide_eq_false (show ¬ isDec n from fun h2 => h h2.1)]

theorem areDecs_eq (a b : Int) : impl_areDecs.f a b = some (decide (isDec a ∧ isDec b)) := by
  unfold impl_areDecs.f
  rw [decOk_eq, Option.bind_some]
  by_cases h : isDec a
  · rw [if_pos (decide_eq_true h), decOk_eq, Option.bind_some]
    simp [h]
  · rw [if_neg (by simp [h])]
    simp [h]

def orZero (n : Int) : Int × Bool := if isDec n then (n, true) else (0, false)
def addV (a b : Int) : Int × Bool := if isDec a ∧ isDec b then orZero (a + b) else (0, false)
def subV (a b : Int) : Int × Bool := if isDec a ∧ isDec b then orZero (a - b) else (0, false)

theorem decOr_eq (n : Int) : impl_decOr.f n = some (orZero n) := by
  unfold impl_decOr.f orZero
  rw [decOk_eq, Option.bind_some]
  by_cases h : isDec n
  · rw [if_pos (decide_eq_true h), if_pos h]
  · rw [if_neg (by simp [h]), if_neg h]

theorem decAdd_eq (a b : Int) : impl_DecAdd.f a b = some (addV a b) := by
  unfold impl_DecAdd.f addV
  rw [areDecs_eq, Option.bind_some]
  by_cases h : isDec a ∧ isDec b
  · have e : wrap64 (a + b) = a + b := by unfold isDec at h; unfold wrap64; omega
    rw [if_pos (decide_eq_true h), if_pos h, e, decOr_eq, Option.bind_some]
  · rw [if_neg (by simpa using h), if_neg h]

theorem decSub_eq (a b : Int) : impl_DecSub.f a b = some (subV a b) := by
  unfold impl_DecSub.f subV
  rw [areDecs_eq, Option.bind_some]
  by_cases h : isDec a ∧ isDec b
  · have e : wrap64 (a - b) = a - b := by unfold isDec at h; unfold wrap64; omega
    rw [if_pos (decide_eq_true h), if_pos h, e, decOr_eq, Option.bind_some]
  · rw [if_neg (by simpa using h), if_neg h]

theorem decNeg_eq (n : Int) (h : isDec n) : impl_DecNeg.f n = some (-n) := by
  unfold impl_DecNeg.f
  rw [decOk_eq, Option.bind_some, if_pos (decide_eq_true h)]
  unfold isDec at h
  unfold wrap64
  congr 1; omega

theorem sums_true (k : Nat) (hk : 20 ≤ k) : laws_sums.f k = some true := at_rounds (g := fun k => laws_sums.f k) (fun k => laws_sums.mono k) hk (by decide +kernel)
end Go.Proofs.YtdmganhmgbkliaaDoor.Pure
