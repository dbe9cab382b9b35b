/- What the program's product of decimals computes, in plain words; condition: both numbers are decimals, or the product is refused. -/
import Derived.Test.YtdmganhmgbkliaaDoorArith
import Derived.Laws.Bits64b
namespace Go.Proofs.YtdmganhmgbkliaaDoor.Pure
open Go Go.RowKit Go.Proofs.YtdmganhmgbkliaaDoor.Q Go.Proofs.YtdmganhmgbkliaaDoorW.PrintWords Go.Proofs.YtdmganhmgbkliaaDoorW.PrintLast Go.Proofs.YtdmganhmgbkliaaDoorW.PrintMore

theorem and32 (x : Int) (h0 : 0 ≤ x) (h : x < 18446744073709551616) : Go.bits .and .u64 x 4294967295 = x % 4294967296 := by
  obtain ⟨n, rfl⟩ := Int.eq_ofNat_of_zero_le h0
  have e := bits_and_u64_nat n 4294967295 (by omega) (by omega)
  have e2 : n &&& 4294967295 = n % 4294967296 := Nat.and_two_pow_sub_one_eq_mod n 32
  rw [e2] at e
  exact e.trans (by omega)

theorem or44 (x y : Int) (h0 : 0 ≤ x) (h : x < 1048576) (k0 : 0 ≤ y) (k : y < 17592186044416) : Go.bits .or .u64 (x * 17592186044416) y = x * 17592186044416 + y := by
  obtain ⟨n, rfl⟩ := Int.eq_ofNat_of_zero_le h0
  obtain ⟨m, rfl⟩ := Int.eq_ofNat_of_zero_le k0
  have e := bits_or_u64_nat (n * 17592186044416) m (by omega) (by omega)
  have e2 : n * 17592186044416 ||| m = n * 17592186044416 + m := by
    have h2 : (2 : Nat) ^ 44 = 17592186044416 := by decide +kernel
    have h3 : m < 2 ^ 44 := by rw [h2]; omega
    have h4 := Nat.two_pow_add_eq_or_of_lt h3 n
    rw [h2] at h4
    rw [Nat.mul_comm n]
    exact h4.symm
  have c : ((n * 17592186044416 : Nat) : Int) = (n : Int) * 17592186044416 := Int.natCast_mul n 17592186044416
  rw [e2, Int.natCast_add, c] at e
  exact e

theorem mul64_eq (a b : Int) (ha0 : 0 ≤ a) (ha : a ≤ 9000000000000) (hb0 : 0 ≤ b) (hb : b ≤ 9000000000000) : bits_Mul64.f a b = some (a * b / 18446744073709551616, a * b % 18446744073709551616) := by
  unfold bits_Mul64.f
  rw [and32 a ha0 (by omega), and32 b hb0 (by omega)]
  simp only [IntKind.wrap_u64]
  obtain ⟨u, hu⟩ : ∃ u, u = a / 4294967296 := ⟨_, rfl⟩
  obtain ⟨v, hv⟩ : ∃ v, v = a % 4294967296 := ⟨_, rfl⟩
  obtain ⟨s, hs⟩ : ∃ s, s = b / 4294967296 := ⟨_, rfl⟩
  obtain ⟨t, ht⟩ : ∃ t, t = b % 4294967296 := ⟨_, rfl⟩
  have ea : a = u * 4294967296 + v := by omega
  have eb : b = s * 4294967296 + t := by omega
  have u0 : 0 ≤ u ∧ u ≤ 2095 := by omega
  have v0 : 0 ≤ v ∧ v ≤ 4294967295 := by omega
  have s0 : 0 ≤ s ∧ s ≤ 2095 := by omega
  have t0 : 0 ≤ t ∧ t ≤ 4294967295 := by omega
  rw [← hu, ← hv, ← hs, ← ht]
  have eP : a * b = (u * s) * 18446744073709551616 + (u * t) * 4294967296 + (v * s) * 4294967296 + v * t := by
    rw [ea, eb]; grind
  rw [eP]
  have b1 : 0 ≤ u * s ∧ u * s ≤ 2095 * 2095 := ⟨Int.mul_nonneg u0.1 s0.1, Int.mul_le_mul u0.2 s0.2 s0.1 (by omega)⟩
  have b2 : 0 ≤ u * t ∧ u * t ≤ 2095 * 4294967295 := ⟨Int.mul_nonneg u0.1 t0.1, Int.mul_le_mul u0.2 t0.2 t0.1 (by omega)⟩
  have b3 : 0 ≤ v * s ∧ v * s ≤ 4294967295 * 2095 := ⟨Int.mul_nonneg v0.1 s0.1, Int.mul_le_mul v0.2 s0.2 s0.1 (by omega)⟩
  have b4 : 0 ≤ v * t ∧ v * t ≤ 4294967295 * 4294967295 := ⟨Int.mul_nonneg v0.1 t0.1, Int.mul_le_mul v0.2 t0.2 t0.1 (by omega)⟩
  clear eP ea eb hu hv hs ht ha0 ha hb0 hb
  generalize u * s = p1 at *
  generalize u * t = p2 at *
  generalize v * s = p3 at *
  generalize v * t = p4 at *
  have e4 : p4 % 18446744073709551616 = p4 := by omega
  have e2 : p2 % 18446744073709551616 = p2 := by omega
  have e3 : p3 % 18446744073709551616 = p3 := by omega
  have e1 : p1 % 18446744073709551616 = p1 := by omega
  rw [e1, e2, e3, e4]
  obtain ⟨q, hq⟩ : ∃ q, q = p4 / 4294967296 := ⟨_, rfl⟩
  rw [← hq]
  have eq1 : (p2 + q) % 18446744073709551616 = p2 + q := by omega
  rw [eq1, and32 (p2 + q) (by omega) (by omega)]
  congr 1
  refine Prod.ext ?_ ?_
  · dsimp only
    omega
  · dsimp only

theorem lz6 : bits_LeadingZeros64.f 1000000 = some 44 := by decide +kernel
theorem y6 : shl .u64 1000000 44 = 17592186044416000000 := by decide +kernel
theorem y6a : Go.bits .and .u64 17592186044416000000 4294967295 = 0 := by decide +kernel

theorem some_first {a b c : Int} (h : a = b) : ∃ r : Int, some (a, c) = some (b, r) := ⟨c, by rw [h]⟩

theorem div64_eq (k : Nat) (p : Int) (hp0 : 0 ≤ p) (hp : p / 18446744073709551616 < 1000000) : ∃ r, bits_Div64.f (k + 6) (p / 18446744073709551616) (p % 18446744073709551616) 1000000 = some (p / 1000000, r) := by
  obtain ⟨h, hh⟩ : ∃ h, h = p / 18446744073709551616 := ⟨_, rfl⟩
  obtain ⟨l, hl⟩ : ∃ l, l = p % 18446744073709551616 := ⟨_, rfl⟩
  have ep : p = h * 18446744073709551616 + l := by omega
  have h0 : 0 ≤ h ∧ h < 1000000 := by omega
  have l0 : 0 ≤ l ∧ l < 18446744073709551616 := by omega
  rw [← hh, ← hl]
  clear hh hl hp hp0
  unfold bits_Div64.f
  rw [if_neg (by omega), if_neg (by omega)]
  by_cases c : h = 0
  · subst c
    rw [if_pos rfl]
    refine some_first ?_
    rw [IntKind.wrap_u64, Int.tdiv_eq_ediv_of_nonneg l0.1]
    omega
  rw [if_neg c, lz6, Option.bind_some]
  have w44 : IntKind.u64.wrap 44 = 44 := by decide +kernel
  have w20 : IntKind.u64.wrap (64 - 44) = 20 := by decide +kernel
  rw [w44, w20, if_pos (by omega), if_pos (by omega), y6, y6a]
  have s1 : shl .u64 h 44 = h * 17592186044416 := by
    have e : shl .u64 h 44 = IntKind.u64.wrap (h * 17592186044416) := rfl
    rw [e, IntKind.wrap_u64]; omega
  have s2 : shr .u64 l 20 = l / 1048576 := rfl
  have s3 : shl .u64 l 44 = l % 1048576 * 17592186044416 := by
    have e : shl .u64 l 44 = IntKind.u64.wrap (l * 17592186044416) := rfl
    rw [e, IntKind.wrap_u64]; omega
  rw [s1, s2, s3, or44 h _ h0.1 (by omega) (by omega) (by omega), and32 _ (by omega) (by omega)]
  have d1 : (17592186044416000000 : Int) / 4294967296 = 4096000000 := by decide
  rw [d1, if_neg (by omega)]
  have z0 : l % 1048576 * 17592186044416 % 4294967296 = 0 := by omega
  have z1 : l % 1048576 * 17592186044416 / 4294967296 = l % 1048576 * 4096 := by omega
  rw [z0, z1]
  obtain ⟨n, hn⟩ : ∃ n, n = h * 17592186044416 + l / 1048576 := ⟨_, rfl⟩
  rw [← hn]
  have n0 : 0 ≤ n ∧ n < 17592186044416000000 := by omega
  rw [Int.tdiv_eq_ediv_of_nonneg n0.1]
  have q1 : IntKind.u64.wrap (n / 4096000000) = n / 4096000000 := by rw [IntKind.wrap_u64]; omega
  rw [q1]
  have r1 : IntKind.u64.wrap (n - IntKind.u64.wrap (n / 4096000000 * 4096000000)) = n % 4096000000 := by simp only [IntKind.wrap_u64]; omega
  rw [r1]
  have ez : ∀ x : Int, IntKind.u64.wrap (x * 0) = 0 := fun x => by rw [Int.mul_zero, IntKind.wrap_u64]; rfl
  have en : ∀ x : Int, decide ((0 : Int) > IntKind.u64.wrap x) = false := fun x => by rw [IntKind.wrap_u64]; exact decide_eq_false (by omega)
  show ∃ r, bits_Div64.l0 (k + 5 + 1) _ _ _ _ _ _ _ _ _ = _
  simp only [bits_Div64.l0]
  rw [if_neg (by omega), ez, en]
  simp only [bits_Div64.j1]
  rw [if_neg (by decide)]
  simp only [bits_Div64.j2]
  rw [if_neg (by omega)]
  have u1 : IntKind.u64.wrap (IntKind.u64.wrap (IntKind.u64.wrap (n * 4294967296) + l % 1048576 * 4096) - IntKind.u64.wrap (n / 4096000000 * 17592186044416000000)) = n % 4096000000 * 4294967296 + l % 1048576 * 4096 := by
    simp only [IntKind.wrap_u64]; omega
  rw [u1]
  obtain ⟨m, hm⟩ : ∃ m, m = n % 4096000000 * 4294967296 + l % 1048576 * 4096 := ⟨_, rfl⟩
  rw [← hm]
  have m0 : 0 ≤ m ∧ m < 17592186044416000000 := by omega
  rw [Int.tdiv_eq_ediv_of_nonneg m0.1]
  have q2 : IntKind.u64.wrap (m / 4096000000) = m / 4096000000 := by rw [IntKind.wrap_u64]; omega
  rw [q2]
  simp only [bits_Div64.l1]
  rw [if_neg (by omega), ez, en]
  simp only [bits_Div64.j4]
  rw [if_neg (by decide), if_pos (by omega)]
  refine some_first ?_
  · have w1 : IntKind.u64.wrap (n / 4096000000 * 4294967296) = n / 4096000000 * 4294967296 := by rw [IntKind.wrap_u64]; omega
    rw [w1, IntKind.wrap_u64]
    have k1 : n * 4294967296 + l % 1048576 * 4096 = p * 4096 := by omega
    have k2 : (p * 4096) / 4096000000 = p / 1000000 := by omega
    have k3 : n / 4096000000 * 4294967296 + m / 4096000000 = (n * 4294967296 + l % 1048576 * 4096) / 4096000000 := by omega
    rw [k3, k1, k2]
    have k4 : p / 1000000 < 18446744073709551616 := by omega
    omega
end Go.Proofs.YtdmganhmgbkliaaDoor.Pure
