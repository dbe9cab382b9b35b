/- What the draws' cursor gives: numbers in their ranges; no condition but that the place in the code is not negative. -/
import Derived.Test.YtdmganhmgbkliaaDoorQx
namespace Go.Proofs.YtdmganhmgbkliaaDoor.Pure
open Go Go.RowKit Go.Proofs.YtdmganhmgbkliaaDoor.Q Go.Proofs.YtdmganhmgbkliaaDoorW.PrintWords Go.Proofs.YtdmganhmgbkliaaDoorW.PrintLast Go.Proofs.YtdmganhmgbkliaaDoorW.PrintMore

theorem and255 (x : Int) : 0 ≤ Go.bits .and .i64 x 255 ∧ Go.bits .and .i64 x 255 ≤ 255 := by
  have h : ((BitVec.ofInt 64 x) &&& (BitVec.ofInt 64 255)).toNat ≤ 255 := by
    rw [BitVec.toNat_and]
    exact Nat.and_le_right
  have e : Go.bits .and .i64 x 255 = IntKind.i64.wrap (((BitVec.ofInt 64 x) &&& (BitVec.ofInt 64 255)).toNat : Int) := rfl
  rw [e, IntKind.wrap_i64]
  omega

/-- One byte of the cursor. -/
theorem l1Byte_some (b : List Int) (i h : Int) (hi : 0 ≤ i) (hb : b.length ≤ 9223372036854775807) : ∃ r i' h', spec_l1Byte.f b i h = some (r, i', h') ∧ 0 ≤ i' ∧ 0 ≤ r ∧ r ≤ 255 := by
  unfold spec_l1Byte.f
  by_cases h1 : i < (b.length : Int)
  · rw [if_pos h1, if_pos hi]
    refine ⟨_, _, _, rfl, ?_, and255 _⟩
    unfold wrap64; omega
  · rw [if_neg h1]
    exact ⟨_, _, _, rfl, hi, and255 _⟩

/-- A number below n. -/
theorem l1Below_some (b : List Int) (i h n : Int) (hi : 0 ≤ i) (hb : b.length ≤ 9223372036854775807) : ∃ r i' h', spec_l1Below.f b i h n = some (r, i', h') ∧ 0 ≤ i' ∧ (n ≤ 0 → r = 0) ∧ (0 < n → n ≤ 256 → 0 ≤ r ∧ r < n) := by
  unfold spec_l1Below.f
  by_cases h0 : n ≤ 0
  · rw [if_pos h0]
    exact ⟨_, _, _, rfl, hi, fun _ => rfl, fun h => by omega⟩
  rw [if_neg h0]
  by_cases h1 : n ≤ 256
  · rw [if_pos h1]
    obtain ⟨r, i', h', e, hi', hr⟩ := l1Byte_some b i h hi hb
    rw [e, Option.bind_some, if_neg (by omega)]
    refine ⟨_, _, _, rfl, hi', fun h => by omega, fun _ _ => ?_⟩
    show 0 ≤ Int.tmod r n ∧ Int.tmod r n < n
    exact ⟨Int.tmod_nonneg _ hr.1, Int.tmod_lt_of_pos _ (by omega)⟩
  · rw [if_neg h1]
    obtain ⟨r1, i1, h1', e1, hi1, _⟩ := l1Byte_some b i h hi hb
    obtain ⟨r2, i2, h2', e2, hi2, _⟩ := l1Byte_some b i1 h1' hi1 hb
    obtain ⟨r3, i3, h3', e3, hi3, _⟩ := l1Byte_some b i2 h2' hi2 hb
    obtain ⟨r4, i4, h4', e4, hi4, _⟩ := l1Byte_some b i3 h3' hi3 hb
    rw [e1, Option.bind_some]
    dsimp only
    rw [e2, Option.bind_some]
    dsimp only
    rw [e3, Option.bind_some]
    dsimp only
    rw [e4, Option.bind_some, if_neg (by omega)]
    exact ⟨_, _, _, rfl, hi4, fun h => by omega, fun h h' => by omega⟩

theorem l1PickInt_some (b : List Int) (i h : Int) (l : List Int) (hi : 0 ≤ i) (hb : b.length ≤ 9223372036854775807) (hl : 0 < l.length) (hl2 : l.length ≤ 256) : ∃ r i' h', spec_l1PickInt.f b i h l = some (r, i', h') ∧ 0 ≤ i' ∧ r ∈ l := by
  unfold spec_l1PickInt.f
  obtain ⟨r, i', h', e, hi', _, hr⟩ := l1Below_some b i h (l.length : Int) hi hb
  obtain ⟨h1, h2⟩ := hr (by omega) (by omega)
  rw [e, Option.bind_some]
  dsimp only
  rw [if_pos h1, if_pos h2]
  refine ⟨_, _, _, rfl, hi', ?_⟩
  unfold rd
  rw [List.getD_eq_getElem?_getD, List.getElem?_eq_getElem (by omega)]
  exact List.getElem_mem _

theorem l1num_some (b : List Int) (i h : Int) (hi : 0 ≤ i) (hb : b.length ≤ 9223372036854775807) : ∃ r i' h', spec_l1num.f b i h = some (r, i', h') ∧ 0 ≤ i' ∧ -9223372036854775808 ≤ r ∧ r ≤ 9223372036854775807 := by
  have hw : ∀ x : Int, -9223372036854775808 ≤ wrap64 x ∧ wrap64 x ≤ 9223372036854775807 := fun x => by unfold wrap64; omega
  unfold spec_l1num.f
  obtain ⟨r, i1, h1, e, hi1, _⟩ := l1Below_some b i h 4 hi hb
  rw [e, Option.bind_some]
  dsimp only
  by_cases c0 : r = 0
  · rw [if_pos c0]
    obtain ⟨r2, i2, h2, e2, hi2, hm⟩ := l1PickInt_some b i1 h1 [0, 1, (-1), 1000000, (-1000000), 9000000000000, (-9000000000000), 9000000000001, (-9000000000001), 500000, 4611686018427387904, 3000000] hi1 hb (by simp) (by simp)
    rw [e2, Option.bind_some]
    refine ⟨_, _, _, rfl, hi2, ?_⟩
    simp only [List.mem_cons, List.mem_nil_iff, or_false] at hm
    dsimp only
    omega
  rw [if_neg c0]
  by_cases c1 : r = 1
  · rw [if_pos c1]
    obtain ⟨r2, i2, h2, e2, hi2, _⟩ := l1Below_some b i1 h1 4294967296 hi1 hb
    rw [e2, Option.bind_some]
    exact ⟨_, _, _, rfl, hi2, hw _⟩
  · rw [if_neg c1]
    obtain ⟨r2, i2, h2, e2, hi2, _⟩ := l1Below_some b i1 h1 30 hi1 hb
    rw [e2, Option.bind_some]
    dsimp only
    obtain ⟨r3, i3, h3, e3, hi3, _⟩ := l1PickInt_some b i2 h2 [0, 0, 500000, 250000, 1] hi2 hb (by simp) (by simp)
    rw [e3, Option.bind_some]
    exact ⟨_, _, _, rfl, hi3, hw _⟩

theorem l1New_l0 (l : List Int) (hl : l.length ≤ 9223372036854775807) (d : Nat) : ∀ (i k : Nat) (h : Int), i ≤ l.length → l.length - i = d → d < k → ∃ h', spec_l1New.l0 k l h i = some (l, 0, h') := by
  induction d with
  | zero =>
    intro i k h hi hd hk
    obtain ⟨k, rfl⟩ : ∃ m, k = m + 1 := ⟨k - 1, by omega⟩
    simp only [spec_l1New.l0]; rw [if_neg (by omega)]
    exact ⟨_, rfl⟩
  | succ d ih =>
    intro i k h hi hd hk
    obtain ⟨k, rfl⟩ : ∃ m, k = m + 1 := ⟨k - 1, by omega⟩
    simp only [spec_l1New.l0]
    rw [if_pos (by omega)]
    by_cases c : (i : Int) < 4000
    · rw [if_pos c, if_pos (by omega)]
      have e : wrap64 ((i : Int) + 1) = ((i + 1 : Nat) : Int) := by unfold wrap64; omega
      rw [e]
      exact ih (i + 1) k _ (by omega) (by omega) (by omega)
    · rw [if_neg c]
      exact ⟨_, rfl⟩

theorem l1New_some (l : List Int) (hl : l.length ≤ 9223372036854775807) (k : Nat) (hk : l.length < k) : ∃ h, spec_l1New.f k l = some (l, 0, h) := by
  unfold spec_l1New.f
  exact l1New_l0 l hl l.length 0 k _ (by omega) (by omega) hk

theorem l1pair_some (l : List Int) (hl : l.length ≤ 9223372036854775807) (k : Nat) (hk : l.length < k) : ∃ a b, spec_l1pair.f k l = some (a, b) ∧ (-9223372036854775808 ≤ a ∧ a ≤ 9223372036854775807) ∧ (-9223372036854775808 ≤ b ∧ b ≤ 9223372036854775807) := by
  unfold spec_l1pair.f
  obtain ⟨h, e⟩ := l1New_some l hl k hk
  rw [e, Option.bind_some]
  dsimp only
  obtain ⟨a, i1, h1, e1, hi1, ha⟩ := l1num_some l 0 h (by omega) hl
  rw [e1, Option.bind_some]
  dsimp only
  obtain ⟨b, i2, h2, e2, hi2, hb⟩ := l1num_some l i1 h1 hi1 hl
  rw [e2, Option.bind_some]
  exact ⟨a, b, rfl, ha, hb⟩
end Go.Proofs.YtdmganhmgbkliaaDoor.Pure
