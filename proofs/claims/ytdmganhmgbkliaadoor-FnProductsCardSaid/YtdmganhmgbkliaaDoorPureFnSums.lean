/- The law FnSums over lists of bytes: whatever code, the sums may be turned round and taken apart again; conditions: the code's length and bytes are those of a Go slice. -/
import Derived.Test.YtdmganhmgbkliaaDoorArith
namespace Go.Proofs.YtdmganhmgbkliaaDoor.Pure
open Go Go.RowKit Go.Proofs.YtdmganhmgbkliaaDoor.Q Go.Proofs.YtdmganhmgbkliaaDoorW.PrintWords Go.Proofs.YtdmganhmgbkliaaDoorW.PrintLast Go.Proofs.YtdmganhmgbkliaaDoorW.PrintMore

theorem specDecOk_eq (n : Int) : spec_DecOk.f n = some (decide (isDec n)) := by
  unfold spec_DecOk.f
  by_cases h : n ≥ -9000000000000
  · rw [if_pos h]
    by_cases h2 : n ≤ 9000000000000
    · rw [decide_eq_true h2, decide_eq_true (show isDec n from ⟨h, h2⟩)]
    · rw [decide_eq_false h2, decide_eq_false (show ¬ isDec n from fun h => h2 h.2)]
  · rw [if_neg h, decide_eq_false (show ¬ isDec n from fun h2 => h h2.1)]

theorem specDecAdd_eq (a b : Int) : spec_DecAdd.f a b = some (addV a b) := by
  unfold spec_DecAdd.f addV
  rw [specDecOk_eq, Option.bind_some]
  by_cases h : isDec a
  · rw [if_pos (decide_eq_true h), specDecOk_eq, Option.bind_some]
    by_cases h2 : isDec b
    · have e : wrap64 (a + b) = a + b := by unfold isDec at h h2; unfold wrap64; omega
      rw [if_pos (decide_eq_true h2), if_pos ⟨h, h2⟩, e]
      unfold spec_l1made.f orZero
      rw [specDecOk_eq, Option.bind_some]
      by_cases h3 : isDec (a + b)
      · rw [if_pos (decide_eq_true h3), if_pos h3]; rfl
      · rw [if_neg (by simp [h3]), if_neg h3]; rfl
    · rw [if_neg (by simp [h2]), if_neg (fun h => h2 h.2)]
  · rw [if_neg (by simp [h]), if_neg (fun h2 => h h2.1)]

theorem decCmp_eq (k : Nat) (a b : Int) (ha : isDec a) (hb : isDec b) : impl_DecCmp.f (k + 1) a b = some (if a = b then 0 else if a < b then -1 else 1) := by
  unfold impl_DecCmp.f
  rw [areDecs_eq, Option.bind_some, if_pos (decide_eq_true ⟨ha, hb⟩)]
  simp only [impl_DecCmp.j0]
  by_cases h : a = b
  · subst h; simp
  · rw [if_neg (by simpa using h), if_neg h]
    split <;> rfl

theorem FnSums : laws_FnSums.Pure := by
  intro l0 hm hy hw
  have hl : l0.length ≤ 9223372036854775807 := hm
  refine ⟨l0.length + 30 + 1, ?_⟩
  obtain ⟨a, b, e, ha, hb⟩ := l1pair_some l0 hl (l0.length + 30 + 1) (by omega)
  unfold laws_FnSums.f spec_DrawDecAdd.f
  rw [e, Option.bind_some, Option.bind_some]
  dsimp only
  rw [decAdd_eq, Option.bind_some, decAdd_eq, Option.bind_some, specDecAdd_eq, Option.bind_some]
  have hc : addV b a = addV a b := by
    unfold addV
    rw [Int.add_comm b a]
    by_cases h : isDec a ∧ isDec b
    · rw [if_pos h, if_pos ⟨h.2, h.1⟩]
    · rw [if_neg h, if_neg (fun h2 => h ⟨h2.2, h2.1⟩)]
  rw [hc, if_neg (by simp), if_neg (by simp)]
  have hne : ((addV a b).1 != (addV a b).1) = false := by simp
  rw [hne]
  simp only [laws_FnSums.j0]
  rw [if_neg (by simp)]
  by_cases hk : isDec a ∧ isDec b ∧ isDec (a + b)
  · obtain ⟨h1, h2, h3⟩ := hk
    have ev : addV a b = (a + b, true) := by unfold addV orZero; rw [if_pos ⟨h1, h2⟩, if_pos h3]
    rw [ev]
    dsimp only
    rw [if_pos rfl]
    have es : subV (a + b) b = (a, true) := by
      unfold subV orZero
      have : a + b - b = a := by omega
      rw [if_pos ⟨h3, h2⟩, this, if_pos h1]
    have hn : isDec (-a) := by unfold isDec at h1 ⊢; omega
    have ez : addV a (-a) = (0, true) := by
      unfold addV orZero
      have : a + -a = 0 := by omega
      rw [if_pos ⟨h1, hn⟩, this]
      rfl
    rw [decSub_eq, Option.bind_some, decNeg_eq a h1, Option.bind_some, decAdd_eq, Option.bind_some, es, ez]
    dsimp only
    rw [if_pos rfl, if_pos rfl, if_pos rfl, if_pos rfl]
    have h0 : isDec 0 := by unfold isDec; omega
    rw [decCmp_eq _ _ _ h3 h2, Option.bind_some, decCmp_eq _ _ _ h1 h0, Option.bind_some]
    rw [if_pos (by by_cases c1 : a = 0 <;> by_cases c2 : a < 0 <;> simp [c1, c2] <;> omega), sums_true _ (by omega), Option.bind_some]
  · have ev : addV a b = (0, false) := by
      unfold addV orZero
      by_cases h : isDec a ∧ isDec b
      · rw [if_pos h, if_neg (fun h3 => hk ⟨h.1, h.2, h3⟩)]
      · rw [if_neg h]
    rw [ev]
    dsimp only
    rw [if_neg (by simp), if_pos rfl, sums_true _ (by omega), Option.bind_some]
end Go.Proofs.YtdmganhmgbkliaaDoor.Pure
