/- The law FnExactKindText holds of every whole number: the program's KindText and the reference's return the same text; no condition. -/
import Derived.Test.YtdmganhmgbkliaaQx2
namespace Go.Proofs.Ytdmganhmgbkliaa.Pure
open Go.RowKit Go.Proofs.Ytdmganhmgbkliaa.Q Go.Proofs.YtdmganhmgbkliaaW.PrintWords Go.Proofs.YtdmganhmgbkliaaW.PrintLast

theorem FnExactKindText : laws_FnExactKindText.Pure := by
  intro a0 _
  refine ⟨8, ?_⟩
  by_cases h0 : a0 < 0
  · have e1 : spec_KindText.f 8 a0 = some ⟨#[]⟩ := by
      unfold spec_KindText.f; rw [if_pos h0]; simp [spec_KindText.j0]
    have e2 : impl_KindText.f 8 a0 = some ⟨#[]⟩ := by
      unfold impl_KindText.f impl_between.f; rw [if_neg (by omega)]; rfl
    unfold laws_FnExactKindText.f
    rw [e1, Option.bind_some, e2, Option.bind_some, if_pos rfl]
  · by_cases h1 : 15 < a0
    · have e1 : spec_KindText.f 8 a0 = some ⟨#[]⟩ := by
        unfold spec_KindText.f; rw [if_neg h0, decide_eq_true (by omega)]; simp [spec_KindText.j0]
      have e2 : impl_KindText.f 8 a0 = some ⟨#[]⟩ := by
        unfold impl_KindText.f impl_between.f; rw [if_pos (by omega), decide_eq_false (by omega)]; rfl
      unfold laws_FnExactKindText.f
      rw [e1, Option.bind_some, e2, Option.bind_some, if_pos rfl]
    · have : a0 = 0 ∨ a0 = 1 ∨ a0 = 2 ∨ a0 = 3 ∨ a0 = 4 ∨ a0 = 5 ∨ a0 = 6 ∨ a0 = 7 ∨ a0 = 8 ∨ a0 = 9 ∨ a0 = 10 ∨ a0 = 11 ∨ a0 = 12 ∨ a0 = 13 ∨ a0 = 14 ∨ a0 = 15 := by omega
      rcases this with rfl | rfl | rfl | rfl | rfl | rfl | rfl | rfl | rfl | rfl | rfl | rfl | rfl | rfl | rfl | rfl <;> decide +kernel

end Go.Proofs.Ytdmganhmgbkliaa.Pure
