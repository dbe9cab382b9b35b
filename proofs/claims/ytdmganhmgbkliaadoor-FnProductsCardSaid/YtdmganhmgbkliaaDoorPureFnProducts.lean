/- The law FnProducts over lists of bytes: whatever code, products may be turned round, their sign follows the factors', and one is neutral; conditions: the code's length and bytes are those of a Go slice. -/
import Derived.Test.YtdmganhmgbkliaaDoorPureFnSums
import Derived.Test.YtdmganhmgbkliaaDoorMul
namespace Go.Proofs.YtdmganhmgbkliaaDoor.Pure
open Go Go.RowKit Go.Proofs.YtdmganhmgbkliaaDoor.Q Go.Proofs.YtdmganhmgbkliaaDoorW.PrintWords Go.Proofs.YtdmganhmgbkliaaDoorW.PrintLast Go.Proofs.YtdmganhmgbkliaaDoorW.PrintMore

def ab (a : Int) : Int := if a < 0 then -a else a
def mulV (a b : Int) : Int × Bool := if (isDec a ∧ isDec b) ∧ ab a * ab b / 1000000 ≤ 9000000000000 then (if (decide (a < 0) != decide (b < 0)) = true then -(ab a * ab b / 1000000) else ab a * ab b / 1000000, true) else (0, false)

theorem ab_dec (a : Int) (h : isDec a) : 0 ≤ ab a ∧ ab a ≤ 9000000000000 := by
  unfold isDec at h; unfold ab; split <;> omega

theorem mx_ab (a : Int) (h : isDec a) : IntKind.u64.wrap (mx a (wrap64 (-a))) = ab a := by
  unfold isDec at h
  unfold mx ab wrap64
  rw [IntKind.wrap_u64]
  split <;> split <;> omega

theorem decMul_eq (k : Nat) (hk : 6 ≤ k) (a b : Int) : impl_DecMul.f k a b = some (mulV a b) := by
  obtain ⟨k, rfl⟩ : ∃ m, k = m + 6 := ⟨k - 6, by omega⟩
  unfold impl_DecMul.f mulV
  rw [areDecs_eq, Option.bind_some]
  by_cases h : isDec a ∧ isDec b
  · rw [if_pos (decide_eq_true h), mx_ab a h.1, mx_ab b h.2]
    obtain ⟨a0, a1⟩ := ab_dec a h.1
    obtain ⟨b0, b1⟩ := ab_dec b h.2
    rw [mul64_eq _ _ a0 a1 b0 b1, Option.bind_some]
    have p0 : 0 ≤ ab a * ab b := Int.mul_nonneg a0 b0
    generalize ab a * ab b = p at *
    dsimp only
    by_cases c : p / 18446744073709551616 ≥ 1000000
    · rw [if_pos c, if_neg (by omega)]
    · rw [if_neg c]
      obtain ⟨r, e⟩ := div64_eq k p p0 (by omega)
      rw [e, Option.bind_some]
      dsimp only
      by_cases d : p / 1000000 > 9000000000000
      · rw [if_pos d, if_neg (by omega)]
      · rw [if_neg d, if_pos (show (isDec a ∧ isDec b) ∧ p / 1000000 ≤ 9000000000000 from ⟨h, by omega⟩)]
        have w1 : wrap64 (p / 1000000) = p / 1000000 := by unfold wrap64; omega
        have w2 : wrap64 (-(p / 1000000)) = -(p / 1000000) := by unfold wrap64; omega
        rw [w1, w2]
        by_cases g : (decide (a < 0) != decide (b < 0)) = true
        · rw [if_pos g, if_pos g]
        · rw [if_neg g, if_neg g]
  · rw [if_neg (by simpa using h), if_neg (fun g => h g.1)]

theorem l1abs_eq (a : Int) (h : isDec a) : spec_l1abs.f a = some (ab a) := by
  unfold isDec at h
  unfold spec_l1abs.f ab wrap64
  split
  · congr 1; omega
  · rfl

theorem made_eq (n : Int) : spec_l1made.f n = some (orZero n) := by
  unfold spec_l1made.f orZero
  rw [specDecOk_eq, Option.bind_some]
  by_cases h : isDec n
  · rw [if_pos (decide_eq_true h), if_pos h]
  · rw [if_neg (by simp [h]), if_neg h]

theorem specDecMul_j0 (k : Nat) (a b : Int) : spec_DecMul.j0 (k + 1) a b true = some (0, false) := by
  simp only [spec_DecMul.j0]
  first | rw [if_pos rfl] | rw [if_pos trivial]

/-- The last step: the quotient's two parts put together. -/
theorem specDecMul_j1 (k : Nat) (a b : Int) (h1 : isDec a) (h2 : isDec b) (hs : ab a / 1000000 * ab b ≤ 9000000000000) : spec_DecMul.j1 (k + 1) a b (ab a) (ab b) (ab a / 1000000) false = some (mulV a b) := by
  obtain ⟨a0, a1⟩ := ab_dec a h1
  obtain ⟨b0, b1⟩ := ab_dec b h2
  simp only [spec_DecMul.j1]
  rw [if_neg (by decide), made_eq, made_eq, Option.bind_some, Option.bind_some, Int.tmod_eq_emod_of_nonneg a0]
  have x0 : 0 ≤ ab a / 1000000 * ab b := Int.mul_nonneg (by omega) b0
  have y0 : 0 ≤ ab a % 1000000 * ab b := Int.mul_nonneg (by omega) b0
  have y1 : ab a % 1000000 * ab b ≤ 999999 * 9000000000000 := Int.mul_le_mul (by omega) b1 b0 (by omega)
  have e : ab a * ab b = ab a / 1000000 * ab b * 1000000 + ab a % 1000000 * ab b := by
    have e0 : ab a = ab a / 1000000 * 1000000 + ab a % 1000000 := by omega
    generalize ab a / 1000000 = u at *
    generalize ab a % 1000000 = v at *
    rw [e0]
    grind
  unfold mulV
  generalize ab a * ab b = p at *
  generalize ab a / 1000000 * ab b = x at *
  generalize ab a % 1000000 * ab b = y at *
  have w1 : wrap64 y = y := by unfold wrap64; omega
  rw [w1, Int.tdiv_eq_ediv_of_nonneg y0]
  have w2 : wrap64 (wrap64 x + wrap64 (y / 1000000)) = p / 1000000 := by unfold wrap64; omega
  rw [w2]
  have w3 : wrap64 (-(p / 1000000)) = -(p / 1000000) := by unfold wrap64; omega
  rw [w3]
  unfold orZero
  by_cases d : p / 1000000 ≤ 9000000000000
  · have i1 : isDec (p / 1000000) := by unfold isDec; omega
    have i2 : isDec (-(p / 1000000)) := by unfold isDec; omega
    rw [if_pos i1, if_pos i2, if_pos (show (isDec a ∧ isDec b) ∧ p / 1000000 ≤ 9000000000000 from ⟨⟨h1, h2⟩, d⟩)]
    by_cases g : (decide (a < 0) != decide (b < 0)) = true
    · rw [if_pos g, if_pos g]
    · rw [if_neg g, if_neg g]
  · have i1 : ¬ isDec (p / 1000000) := by unfold isDec; omega
    have i2 : ¬ isDec (-(p / 1000000)) := by unfold isDec; omega
    rw [if_neg i1, if_neg i2, if_neg (show ¬ ((isDec a ∧ isDec b) ∧ p / 1000000 ≤ 9000000000000) from fun g => d g.2)]
    by_cases g : (decide (a < 0) != decide (b < 0)) = true
    · rw [if_pos g]
    · rw [if_neg g]

theorem specDecMul_eq (k : Nat) (hk : 2 ≤ k) (a b : Int) : spec_DecMul.f k a b = some (mulV a b) := by
  obtain ⟨k, rfl⟩ : ∃ m, k = m + 1 + 1 := ⟨k - 2, by omega⟩
  unfold spec_DecMul.f
  rw [specDecOk_eq, Option.bind_some]
  by_cases h1 : isDec a
  · rw [if_pos (decide_eq_true h1), specDecOk_eq, Option.bind_some]
    by_cases h2 : isDec b
    · rw [decide_eq_true h2]
      obtain ⟨a0, a1⟩ := ab_dec a h1
      obtain ⟨b0, b1⟩ := ab_dec b h2
      simp only [spec_DecMul.j0]
      rw [if_neg (by decide), l1abs_eq a h1, l1abs_eq b h2, Option.bind_some, Option.bind_some, Int.tdiv_eq_ediv_of_nonneg a0]
      have w1 : wrap64 (ab a / 1000000) = ab a / 1000000 := by unfold wrap64; omega
      rw [w1]
      by_cases c : ab a / 1000000 > 0
      · rw [if_pos c, if_neg (by omega), Int.tdiv_eq_ediv_of_nonneg (by omega)]
        have u0 : 0 ≤ 9000000000000 / (ab a / 1000000) := Int.ediv_nonneg (by omega) (by omega)
        have u1 : 9000000000000 / (ab a / 1000000) ≤ 9000000000000 := Int.ediv_le_self _ (by omega)
        have w2 : wrap64 (9000000000000 / (ab a / 1000000)) = 9000000000000 / (ab a / 1000000) := by unfold wrap64; omega
        rw [w2]
        by_cases d : ab b > 9000000000000 / (ab a / 1000000)
        · rw [decide_eq_true d]
          simp only [spec_DecMul.j1]
          first | rw [if_pos rfl] | rw [if_pos trivial]
          have l1 : 9000000000000 < ab b * (ab a / 1000000) := (Int.ediv_lt_iff_lt_mul c).mp d
          have e : ab a * ab b = ab b * (ab a / 1000000) * 1000000 + ab a % 1000000 * ab b := by
            have e0 : ab a = ab a / 1000000 * 1000000 + ab a % 1000000 := by omega
            generalize ab a / 1000000 = u at *
            generalize ab a % 1000000 = v at *
            rw [e0]
            grind
          have y0 : 0 ≤ ab a % 1000000 * ab b := Int.mul_nonneg (by omega) b0
          unfold mulV
          rw [if_neg (fun g => by have := g.2; omega)]
        · rw [decide_eq_false d]
          refine specDecMul_j1 k a b h1 h2 ?_
          have l1 : ab b * (ab a / 1000000) ≤ 9000000000000 := (Int.le_ediv_iff_mul_le c).mp (by omega)
          rw [Int.mul_comm]; exact l1
      · rw [if_neg c]
        have c0 : ab a / 1000000 = 0 := by omega
        exact specDecMul_j1 k a b h1 h2 (by rw [c0, Int.zero_mul]; omega)
    · rw [decide_eq_false h2]
      show spec_DecMul.j0 (k + 1 + 1) a b true = _
      rw [specDecMul_j0]
      unfold mulV
      rw [if_neg (fun g => h2 g.1.2)]
  · rw [if_neg (by simp [h1]), specDecMul_j0]
    unfold mulV
    rw [if_neg (fun g => h1 g.1.1)]

theorem mulV_comm (a b : Int) : mulV b a = mulV a b := by
  unfold mulV
  rw [Int.mul_comm (ab b) (ab a)]
  by_cases h : (isDec a ∧ isDec b) ∧ ab a * ab b / 1000000 ≤ 9000000000000
  · rw [if_pos h, if_pos ⟨⟨h.1.2, h.1.1⟩, h.2⟩]
    by_cases c : a < 0 <;> by_cases d : b < 0 <;> simp [c, d]
  · rw [if_neg h, if_neg (fun g => h ⟨⟨g.1.2, g.1.1⟩, g.2⟩)]

theorem ab_neg (a : Int) : ab (-a) = ab a := by unfold ab; split <;> split <;> omega

theorem mulV_neg (a b : Int) (h : (mulV a b).2 = true) : isDec a ∧ isDec (mulV a b).1 ∧ mulV (-a) b = (-(mulV a b).1, true) := by
  by_cases c : (isDec a ∧ isDec b) ∧ ab a * ab b / 1000000 ≤ 9000000000000
  · have n1 : isDec (-a) := by have := c.1.1; unfold isDec at this ⊢; omega
    have e1 : mulV a b = (if (decide (a < 0) != decide (b < 0)) = true then -(ab a * ab b / 1000000) else ab a * ab b / 1000000, true) := if_pos c
    have e2 : mulV (-a) b = (if (decide (-a < 0) != decide (b < 0)) = true then -(ab a * ab b / 1000000) else ab a * ab b / 1000000, true) := by
      unfold mulV
      rw [ab_neg, if_pos ⟨⟨n1, c.1.2⟩, c.2⟩]
    have p0 : 0 ≤ ab a * ab b := Int.mul_nonneg (ab_dec a c.1.1).1 (ab_dec b c.1.2).1
    have z : a = 0 → ab a * ab b = 0 := fun h => by subst h; exact Int.zero_mul _
    rw [e1, e2]
    have c2 := c.2
    generalize ab a * ab b = p at *
    refine ⟨c.1.1, ?_, ?_⟩
    · dsimp only
      unfold isDec
      split <;> omega
    · dsimp only
      refine Prod.ext ?_ rfl
      dsimp only
      by_cases g0 : a = 0
      · rw [z g0]; simp
      · by_cases g : a < 0
        · have g1 : ¬ -a < 0 := by omega
          rw [decide_eq_true g, decide_eq_false g1]
          cases decide (b < 0) <;> simp
        · have g1 : -a < 0 := by omega
          rw [decide_eq_false g, decide_eq_true g1]
          cases decide (b < 0) <;> simp
  · have e1 : mulV a b = (0, false) := if_neg c
    rw [e1] at h
    exact absurd h (by decide)

theorem mulV_one (a : Int) (h : isDec a) : mulV a 1000000 = (a, true) := by
  obtain ⟨a0, a1⟩ := ab_dec a h
  have e : ab a * ab 1000000 / 1000000 = ab a := by
    show ab a * 1000000 / 1000000 = ab a
    omega
  unfold mulV
  rw [e, if_pos ⟨⟨h, by unfold isDec; omega⟩, a1⟩]
  refine Prod.ext ?_ rfl
  dsimp only
  unfold ab
  by_cases g : a < 0
  · simp [g]
  · simp [g]

theorem mulV_no (a b : Int) (h : (mulV a b).2 = false) : mulV a b = (0, false) := by
  by_cases c : (isDec a ∧ isDec b) ∧ ab a * ab b / 1000000 ≤ 9000000000000
  · have e1 : mulV a b = (_, true) := if_pos c
    rw [e1] at h
    exact absurd h (by simp)
  · exact if_neg c

theorem FnProducts : laws_FnProducts.Pure := by
  intro l0 hm hy hw
  have hl : l0.length ≤ 9223372036854775807 := hm
  refine ⟨l0.length + 30 + 1, ?_⟩
  obtain ⟨a, b, e, ha, hb⟩ := l1pair_some l0 hl (l0.length + 30 + 1) (by omega)
  unfold laws_FnProducts.f spec_DrawDecMul.f
  rw [e, Option.bind_some, Option.bind_some]
  dsimp only
  rw [decMul_eq _ (by omega), Option.bind_some, decMul_eq _ (by omega), Option.bind_some, specDecMul_eq _ (by omega), Option.bind_some]
  rw [mulV_comm a b, if_neg (by simp), if_neg (by simp)]
  have hne : ((mulV a b).1 != (mulV a b).1) = false := by simp
  rw [hne]
  simp only [laws_FnProducts.j0]
  rw [if_neg (by decide)]
  by_cases hk : (mulV a b).2 = true
  · obtain ⟨i1, i2, e2⟩ := mulV_neg a b hk
    rw [if_pos hk, decNeg_eq a i1, Option.bind_some, decMul_eq _ (by omega), Option.bind_some, decMul_eq _ (by omega), Option.bind_some, e2, mulV_one a i1]
    dsimp only
    rw [if_pos rfl, decNeg_eq _ i2, Option.bind_some, if_pos rfl, if_pos rfl, if_pos rfl, sums_true _ (by omega), Option.bind_some]
  · have hk2 : (mulV a b).2 = false := by simpa using hk
    rw [if_neg hk, mulV_no a b hk2, if_pos rfl, sums_true _ (by omega), Option.bind_some]
end Go.Proofs.YtdmganhmgbkliaaDoor.Pure
