/- What the row of FnAriths rests on, and the row: for every input that can be read the call returns true and the input reads as it did; condition: what the row lists of the library reads as the program lays it. -/
import Derived.Test.YtnfiljnncpieoaaGreatDoorKFnArithse
import Derived.Test.YtnfiljnncpieoaaGreatDoorCards
import Derived.Test.YtnfiljnncpieoaaGreatDoorRows
import Derived.Test.YtnfiljnncpieoaaGreatDoorTie
set_option linter.unusedVariables false
set_option linter.unusedSimpArgs false
namespace Go.Proofs.YtnfiljnncpieoaaGreatDoor.Pure
open Go Go.RowKit Go.Proofs.YtnfiljnncpieoaaGreatDoor.Q Go.Proofs.YtnfiljnncpieoaaGreatDoorW.PrintWords Go.Proofs.YtnfiljnncpieoaaGreatDoorW.PrintLast Go.Proofs.YtnfiljnncpieoaaGreatDoorW.PrintMore
section
variable (b : List Int) (hb : b.length ≤ 9223372036854775807)
include hb
theorem of_l0 (n : Nat) (set : ByteArray) (h0 : 0 < set.size) (h1 : set.size ≤ 256) (hn : n ≤ 1000) (d : Nat) : ∀ (j k : Nat) (x : List Int) (i h : Int), 0 ≤ i → j + d = n → d < k → x.length = j →
    Dr (spec_l1of.l0 k (n : Int) set x (j : Int) b i h) (fun r => r.1.size = n ∧ 0 ≤ r.2.1 ∧ ∃ y, r.1 = strOfNums (x ++ y) ∧ ∀ c ∈ y, ∃ q : Nat, q < set.size ∧ c = bt set q) := by
  induction d with
  | zero =>
    intro j k x i h hi hj hk hx
    obtain ⟨k, rfl⟩ : ∃ m, k = m + 1 := ⟨k - 1, by omega⟩
    simp only [spec_l1of.l0]
    rw [if_neg (by omega)]
    exact Dr.some ⟨by rw [strOfNums_size]; omega, hi, [], by simp, by simp⟩
  | succ d ih =>
    intro j k x i h hi hj hk hx
    obtain ⟨k, rfl⟩ : ∃ m, k = m + 1 := ⟨k - 1, by omega⟩
    simp only [spec_l1of.l0]
    rw [if_pos (by omega)]
    refine Dr.bind (below_dr b hb i h (set.size : Int) hi (by omega) (by omega)) ?_
    rintro ⟨r, i', h'⟩ ⟨hi', hr0, hr1⟩
    dsimp only at hi' hr0 hr1 ⊢
    refine Dr.pos hr0 (Dr.pos hr1 (Dr.pos (by omega) ?_))
    rw [w64 (by omega) (by omega), show (j : Int) + 1 = ((j + 1 : Nat) : Int) by omega]
    refine (ih (j + 1) k (x ++ [bt set r]) i' h' hi' (by omega) (by omega) (by simp [hx])).mono ?_
    rintro ⟨s, i2, h2⟩ ⟨a1, a2, y, a3, a4⟩
    refine ⟨a1, a2, bt set r :: y, by rw [a3, List.append_assoc]; rfl, fun c hc => ?_⟩
    rcases List.mem_cons.1 hc with rfl | hc
    · obtain ⟨q, rfl⟩ := Int.eq_ofNat_of_zero_le hr0
      exact ⟨q, by omega, rfl⟩
    · exact a4 c hc
theorem of_dr (k n : Nat) (i h : Int) (set : ByteArray) (hi : 0 ≤ i) (h0 : 0 < set.size) (h1 : set.size ≤ 256) (hn : n ≤ 1000) (hk : n < k) :
    Dr (spec_l1of.f k b i h (n : Int) set) (fun r => r.1.size = n ∧ 0 ≤ r.2.1 ∧ ∃ y, r.1 = strOfNums y ∧ ∀ c ∈ y, ∃ q : Nat, q < set.size ∧ c = bt set q) := by
  unfold spec_l1of.f
  refine (of_l0 b hb n set h0 h1 hn n 0 k [] i h hi (by omega) (by omega) rfl).mono ?_
  rintro ⟨s, i2, h2⟩ ⟨a1, a2, y, a3, a4⟩
  exact ⟨a1, a2, y, by simpa using a3, a4⟩
theorem of_dr' (k : Nat) (n : Int) (i h : Int) (set : ByteArray) (hi : 0 ≤ i) (h0 : 0 < set.size) (h1 : set.size ≤ 256) (hn0 : 0 ≤ n) (hn : n ≤ 1000) (hk : 1001 ≤ k) :
    Dr (spec_l1of.f k b i h n set) (fun r => (r.1.size : Int) = n ∧ 0 ≤ r.2.1) := by
  obtain ⟨m, rfl⟩ := Int.eq_ofNat_of_zero_le hn0
  refine (of_dr b hb k m i h set hi h0 h1 (by omega) (by omega)).mono ?_
  rintro ⟨s, i2, h2⟩ ⟨a1, a2, _⟩
  exact ⟨by dsimp only at a1 ⊢; omega, a2⟩
theorem new_dr (k : Nat) (hk : b.length < k) : Dr (spec_l1New.f k b) (fun r => r.1 = b ∧ r.2.1 = 0) := by
  obtain ⟨h, e⟩ := l1New_some b hb k hk
  exact ⟨_, e, rfl, rfl⟩
end
end Go.Proofs.YtnfiljnncpieoaaGreatDoor.Pure
namespace Go.Proofs.YtnfiljnncpieoaaGreatDoor.Pure
open Go Go.RowKit Go.Proofs.YtnfiljnncpieoaaGreatDoor.Q Go.Proofs.YtnfiljnncpieoaaGreatDoorW.PrintWords Go.Proofs.YtnfiljnncpieoaaGreatDoorW.PrintLast Go.Proofs.YtnfiljnncpieoaaGreatDoorW.PrintMore
def isDec (n : Int) : Prop := -9000000000000 ≤ n ∧ n ≤ 9000000000000
instance (n : Int) : Decidable (isDec n) := inferInstanceAs (Decidable (_ ∧ _))
theorem decOk_eq (n : Int) : impl_DecOk.f n = some (decide (isDec n)) := by
  unfold impl_DecOk.f impl_between.f
  by_cases h : n ≥ -9000000000000
  · rw [if_pos h, Option.bind_some]
    by_cases h2 : n ≤ 9000000000000
    · rw [decide_eq_true h2, decide_eq_true (show isDec n from ⟨h, h2⟩)]
    · rw [decide_eq_false h2, decide_eq_false (show ¬ isDec n from fun h => h2 h.2)]
  · rw [if_neg h, Option.bind_some, decide_eq_false (show ¬ isDec n from fun h2 => h h2.1)]
theorem areDecs_eq (a b : Int) : impl_areDecs.f a b = some (decide (isDec a ∧ isDec b)) := by
  unfold impl_areDecs.f
  rw [decOk_eq, Option.bind_some]
  by_cases h : isDec a
  · rw [if_pos (decide_eq_true h), decOk_eq, Option.bind_some]
    simp [h]
  · rw [if_neg (by simp [h])]
    simp [h]
def orZero (n : Int) : Int × Bool := if isDec n then (n, true) else (0, false)
def addV (a b : Int) : Int × Bool := if isDec a ∧ isDec b then orZero (a + b) else (0, false)
def subV (a b : Int) : Int × Bool := if isDec a ∧ isDec b then orZero (a - b) else (0, false)
theorem decOr_eq (n : Int) : impl_decOr.f n = some (orZero n) := by
  unfold impl_decOr.f orZero
  rw [decOk_eq, Option.bind_some]
  by_cases h : isDec n
  · rw [if_pos (decide_eq_true h), if_pos h]
  · rw [if_neg (by simp [h]), if_neg h]
theorem decAdd_eq (a b : Int) : impl_DecAdd.f a b = some (addV a b) := by
  unfold impl_DecAdd.f addV
  rw [areDecs_eq, Option.bind_some]
  by_cases h : isDec a ∧ isDec b
  · have e : wrap64 (a + b) = a + b := by unfold isDec at h; unfold wrap64; omega
    rw [if_pos (decide_eq_true h), if_pos h, e, decOr_eq, Option.bind_some]
  · rw [if_neg (by simpa using h), if_neg h]
theorem decSub_eq (a b : Int) : impl_DecSub.f a b = some (subV a b) := by
  unfold impl_DecSub.f subV
  rw [areDecs_eq, Option.bind_some]
  by_cases h : isDec a ∧ isDec b
  · have e : wrap64 (a - b) = a - b := by unfold isDec at h; unfold wrap64; omega
    rw [if_pos (decide_eq_true h), if_pos h, e, decOr_eq, Option.bind_some]
  · rw [if_neg (by simpa using h), if_neg h]
theorem specDecOk_eq (n : Int) : spec_DecOk.f n = some (decide (isDec n)) := by
  unfold spec_DecOk.f
  by_cases h : n ≥ -9000000000000
  · rw [if_pos h]
    by_cases h2 : n ≤ 9000000000000
    · rw [decide_eq_true h2, decide_eq_true (show isDec n from ⟨h, h2⟩)]
    · rw [decide_eq_false h2, decide_eq_false (show ¬ isDec n from fun h => h2 h.2)]
  · rw [if_neg h, decide_eq_false (show ¬ isDec n from fun h2 => h h2.1)]
def ab (a : Int) : Int := if a < 0 then -a else a
theorem ab_dec (a : Int) (h : isDec a) : 0 ≤ ab a ∧ ab a ≤ 9000000000000 := by
  unfold isDec at h; unfold ab; split <;> omega
theorem mx_ab (a : Int) (h : isDec a) : IntKind.u64.wrap (mx a (wrap64 (-a))) = ab a := by
  unfold isDec at h
  unfold mx ab wrap64
  rw [IntKind.wrap_u64]
  split <;> split <;> omega
theorem l1abs_eq (a : Int) (h : isDec a) : spec_l1abs.f a = some (ab a) := by
  unfold isDec at h
  unfold spec_l1abs.f ab wrap64
  split
  · congr 1; omega
  · rfl
theorem toList_nil (s : ByteArray) : s.toList = ([] : List UInt8) ↔ s.size = 0 := by
  have h : s.toList.length = s.size := by simp [ByteArray.toList_eq, Array.length_toList]
  constructor
  · intro e; rw [e] at h; exact h.symm
  · intro e; rw [e] at h; exact List.eq_nil_of_length_eq_zero h
def cellV (t n : Int) (s : ByteArray) : Bool :=
  if t = 0 then decide (s.size = 0) && (n == 0)
  else if t = 1 then decide (s.size = 0) && decide (isDec n)
  else if t = 2 then decide (s.size ≤ 500) && (n == 0)
  else if t = 3 then decide (s.size ≤ 500) && (looksV s && (n == (readV s).1))
  else false
theorem implCellOk_eq (t n : Int) (s : ByteArray) (hs : s.size ≤ 140737488355328) : impl_CellOk.f t n s = some (cellV t n s) := by
  unfold impl_CellOk.f cellV
  by_cases h0 : t = 0
  · rw [if_pos h0, if_pos h0]
    by_cases c : s.size = 0
    · rw [if_pos ((toList_nil s).2 c), decide_eq_true c, Bool.true_and]
    · rw [if_neg (fun h => c ((toList_nil s).1 h)), decide_eq_false c, Bool.false_and]
  rw [if_neg h0, if_neg h0]
  by_cases h1 : t = 1
  · rw [if_pos h1, if_pos h1]
    by_cases c : s.size = 0
    · rw [if_pos ((toList_nil s).2 c), decide_eq_true c, Bool.true_and, decOk_eq, Option.bind_some]
    · rw [if_neg (fun h => c ((toList_nil s).1 h)), decide_eq_false c, Bool.false_and]
  rw [if_neg h1, if_neg h1]
  by_cases h2 : t = 2
  · rw [if_pos h2, if_pos h2]
    by_cases c : s.size ≤ 500
    · rw [if_pos (by omega), decide_eq_true c, Bool.true_and]
    · rw [if_neg (by omega), decide_eq_false c, Bool.false_and]
  rw [if_neg h2, if_neg h2]
  by_cases h3 : t = 3
  · rw [if_pos h3, if_pos h3, implReadDec_eq s hs, Option.bind_some]
    by_cases c : s.size ≤ 500
    · rw [if_pos (by omega), decide_eq_true c, Bool.true_and, implLooksNum_eq s hs, Option.bind_some]
      cases looksV s <;> rfl
    · rw [if_neg (by omega), decide_eq_false c, Bool.false_and]
  rw [if_neg h3, if_neg h3]
theorem specCellOk_eq (t n : Int) (s : ByteArray) (k : Nat) (hk : 1600 ≤ k) : spec_CellOk.f k t n s = some (cellV t n s) := by
  unfold spec_CellOk.f cellV
  by_cases hb : (s.size : Int) > 500
  · rw [if_pos hb]
    have c0 : decide (s.size = 0) = false := decide_eq_false (by omega)
    have c5 : decide (s.size ≤ 500) = false := decide_eq_false (by omega)
    rw [c0, c5]
    simp
  rw [if_neg hb]
  have c5 : decide (s.size ≤ 500) = true := decide_eq_true (by omega)
  by_cases h0 : t = 0
  · rw [if_pos h0, if_pos h0]
    by_cases c : s.size = 0
    · rw [if_pos ((toList_nil s).2 c), decide_eq_true c, Bool.true_and]
    · rw [if_neg (fun h => c ((toList_nil s).1 h)), decide_eq_false c, Bool.false_and]
  rw [if_neg h0, if_neg h0]
  by_cases h1 : t = 1
  · rw [if_pos h1, if_pos h1]
    by_cases c : s.size = 0
    · rw [if_pos ((toList_nil s).2 c), decide_eq_true c, Bool.true_and, specDecOk_eq, Option.bind_some]
    · rw [if_neg (fun h => c ((toList_nil s).1 h)), decide_eq_false c, Bool.false_and]
  rw [if_neg h1, if_neg h1]
  by_cases h2 : t = 2
  · rw [if_pos h2, if_pos h2, c5, Bool.true_and]
  rw [if_neg h2, if_neg h2]
  by_cases h3 : t = 3
  · rw [if_pos h3, if_pos h3, c5, Bool.true_and, specReadDec_eq s (by omega) k (by omega), Option.bind_some, specLooksNum_eq s (by omega) k (by omega), Option.bind_some]
    cases looksV s <;> rfl
  rw [if_neg h3, if_neg h3]
theorem specFieldCell_eq (k : Nat) (s : ByteArray) (hs : s.size ≤ 500) (hk : 1601 ≤ k) : spec_FieldCell.f k s = some (if looksV s = true then (3, (readV s).1, s) else (2, 0, s)) := by
  unfold spec_FieldCell.f
  rw [if_neg (by omega), specLooksNum_eq s (by omega) k (by omega), Option.bind_some]
  by_cases c : looksV s = true
  · rw [if_pos c, if_pos c, specReadDec_eq s (by omega) k (by omega), Option.bind_some]
  · rw [if_neg c, if_neg c]
end Go.Proofs.YtnfiljnncpieoaaGreatDoor.Pure
namespace Go.Proofs.YtnfiljnncpieoaaGreatDoor.Pure
open Go Go.RowKit Go.Proofs.YtnfiljnncpieoaaGreatDoor.Q Go.Proofs.YtnfiljnncpieoaaGreatDoorW.PrintWords Go.Proofs.YtnfiljnncpieoaaGreatDoorW.PrintLast Go.Proofs.YtnfiljnncpieoaaGreatDoorW.PrintMore
section
variable (b : List Int) (hb : b.length ≤ 9223372036854775807)
include hb
theorem text_dr (i h : Int) (l : List ByteArray) (m : Nat) (hi : 0 ≤ i) (h0 : 0 < l.length) (h1 : l.length ≤ 256) (hm : ∀ s ∈ l, s.size ≤ m) : Dr (spec_l1text.f b i h l) (fun r => r.1.size ≤ m ∧ r.1 ∈ l ∧ 0 ≤ r.2.1) := by
  unfold spec_l1text.f
  refine Dr.bind (below_dr b hb i h (l.length : Int) hi (by omega) (by omega)) ?_
  rintro ⟨r, i1, h1⟩ ⟨hi1, p, q⟩
  dsimp only at hi1 p q ⊢
  refine Dr.pos p (Dr.pos q (Dr.some ?_))
  have hmem : rdOf ByteArray.empty l r ∈ l := by
    unfold rdOf
    rw [List.getD_eq_getElem?_getD, List.getElem?_eq_getElem (by omega)]
    exact List.getElem_mem _
  exact ⟨hm _ hmem, hmem, hi1⟩
theorem draw7_dr (k : Nat) (i h : Int) (hi : 0 ≤ i) (hk : 1601 ≤ k) : Dr (spec_l7draw.f k b i h) (fun r => r.2.2.1.size ≤ 10 ∧ 0 ≤ r.2.2.2.1) := by
  unfold spec_l7draw.f
  refine Dr.bind (below_dr b hb i h 4 hi (by omega) (by omega)) ?_
  rintro ⟨r, i1, h1⟩ ⟨hi1, _, _⟩
  dsimp only at hi1 ⊢
  refine Dr.ite (fun _ => Dr.some ⟨Nat.zero_le _, hi1⟩) (fun _ => Dr.ite (fun _ => ?_) (fun _ => Dr.ite (fun _ => ?_) (fun _ => ?_)))
  · refine Dr.bind (below_dr b hb i1 h1 20 hi1 (by omega) (by omega)) ?_
    rintro ⟨r2, i2, h2⟩ ⟨hi2, _, _⟩
    dsimp only at hi2 ⊢
    refine Dr.bind (below_dr b hb i2 h2 2 hi2 (by omega) (by omega)) ?_
    rintro ⟨r3, i3, h3⟩ ⟨hi3, _, _⟩
    exact Dr.some ⟨Nat.zero_le _, hi3⟩
  · refine Dr.bind (text_dr b hb i1 h1 _ 10 hi1 (by decide) (by decide) (by decide)) ?_
    rintro ⟨s, i2, h2⟩ ⟨hs, _, hi2⟩
    dsimp only at hs hi2 ⊢
    rw [specFieldCell_eq k s (by omega) hk, Option.bind_some]
    by_cases c : looksV s = true
    · rw [if_pos c]; exact Dr.some ⟨hs, hi2⟩
    · rw [if_neg c]; exact Dr.some ⟨hs, hi2⟩
  · refine Dr.bind (text_dr b hb i1 h1 _ 10 hi1 (by decide) (by decide) (by decide)) ?_
    rintro ⟨s, i2, h2⟩ ⟨hs, _, hi2⟩
    exact Dr.some ⟨hs, hi2⟩
theorem bent7_dr (k : Nat) (i h : Int) (hi : 0 ≤ i) (hk : 1601 ≤ k) : Dr (spec_l7bent.f k b i h) (fun r => r.2.2.1.size ≤ 501 ∧ 0 ≤ r.2.2.2.1) := by
  unfold spec_l7bent.f
  refine Dr.bind (draw7_dr b hb k i h hi hk) ?_
  rintro ⟨t, n, s, i1, h1⟩ ⟨hs, hi1⟩
  dsimp only at hs hi1 ⊢
  refine Dr.bind (below_dr b hb i1 h1 16 hi1 (by omega) (by omega)) ?_
  rintro ⟨r, i2, h2⟩ ⟨hi2, _, _⟩
  dsimp only at hi2 ⊢
  refine Dr.ite (fun _ => ?_) (fun _ => Dr.ite (fun _ => ?_) (fun _ => Dr.ite (fun _ => ?_) (fun _ => Dr.some ⟨by dsimp only; omega, hi2⟩)))
  · refine Dr.bind (below_dr b hb i2 h2 6 hi2 (by omega) (by omega)) ?_
    rintro ⟨r3, i3, h3⟩ ⟨hi3, _, _⟩
    exact Dr.some ⟨by dsimp only; omega, hi3⟩
  · refine Dr.bind (num_dr b hb i2 h2 hi2) ?_
    rintro ⟨r3, i3, h3⟩ ⟨hi3, _, _⟩
    exact Dr.some ⟨by dsimp only; omega, hi3⟩
  · refine Dr.bind (below_dr b hb i2 h2 2 hi2 (by omega) (by omega)) ?_
    rintro ⟨r3, i3, h3⟩ ⟨hi3, p, q⟩
    dsimp only at hi3 p q ⊢
    rw [w64 (x := 500 + r3) (by omega) (by omega)]
    refine Dr.bind (of_dr' b hb k (500 + r3) i3 h3 _ hi3 (by decide) (by decide) (by omega) (by omega) (by omega)) ?_
    rintro ⟨s2, i4, h4⟩ ⟨hs2, hi4⟩
    dsimp only at hs2 hi4 ⊢
    exact Dr.some ⟨by dsimp only; omega, hi4⟩
theorem drawArith_dr (k : Nat) (hk : b.length + 1601 ≤ k) : Dr (spec_DrawArith.f k b) (fun r => r.2.2.2.1.size ≤ 501 ∧ r.2.2.2.2.2.2.size ≤ 501) := by
  unfold spec_DrawArith.f
  refine Dr.bind (new_dr b hb k (by omega)) ?_
  rintro ⟨c, i, h⟩ ⟨rfl, rfl⟩
  dsimp only
  obtain ⟨r, i1, h1, e, hi1, _⟩ := l1PickInt_some c 0 h [20, 21, 22, 23, 24, 19, 25, -1] (by omega) hb (by decide) (by decide)
  rw [e, Option.bind_some]
  dsimp only
  refine Dr.bind (bent7_dr c hb k i1 h1 hi1 (by omega)) ?_
  rintro ⟨t, n, s, i2, h2⟩ ⟨hs, hi2⟩
  dsimp only at hs hi2 ⊢
  refine Dr.bind (bent7_dr c hb k i2 h2 hi2 (by omega)) ?_
  rintro ⟨t2, n2, s2, i3, h3⟩ ⟨hs2, hi3⟩
  exact Dr.some ⟨hs, hs2⟩
end
end Go.Proofs.YtnfiljnncpieoaaGreatDoor.Pure
namespace Go.Proofs.YtnfiljnncpieoaaGreatDoor.Pure
open Go Go.RowKit Go.Proofs.YtnfiljnncpieoaaGreatDoor.Q Go.Proofs.YtnfiljnncpieoaaGreatDoorW.PrintWords Go.Proofs.YtnfiljnncpieoaaGreatDoorW.PrintLast Go.Proofs.YtnfiljnncpieoaaGreatDoorW.PrintMore
theorem and32 (x : Int) (h0 : 0 ≤ x) (h : x < 18446744073709551616) : Go.bits .and .u64 x 4294967295 = x % 4294967296 := by
  obtain ⟨n, rfl⟩ := Int.eq_ofNat_of_zero_le h0
  have e := bits_and_u64_nat n 4294967295 (by omega) (by omega)
  have e2 : n &&& 4294967295 = n % 4294967296 := Nat.and_two_pow_sub_one_eq_mod n 32
  rw [e2] at e
  exact e.trans (by omega)
theorem or44 (x y : Int) (h0 : 0 ≤ x) (h : x < 1048576) (k0 : 0 ≤ y) (k : y < 17592186044416) : Go.bits .or .u64 (x * 17592186044416) y = x * 17592186044416 + y := by
  obtain ⟨n, rfl⟩ := Int.eq_ofNat_of_zero_le h0
  obtain ⟨m, rfl⟩ := Int.eq_ofNat_of_zero_le k0
  have e := bits_or_u64_nat (n * 17592186044416) m (by omega) (by omega)
  have e2 : n * 17592186044416 ||| m = n * 17592186044416 + m := by
    have h2 : (2 : Nat) ^ 44 = 17592186044416 := by decide +kernel
    have h3 : m < 2 ^ 44 := by rw [h2]; omega
    have h4 := Nat.two_pow_add_eq_or_of_lt h3 n
    rw [h2] at h4
    rw [Nat.mul_comm n]
    exact h4.symm
  have c : ((n * 17592186044416 : Nat) : Int) = (n : Int) * 17592186044416 := Int.natCast_mul n 17592186044416
  rw [e2, Int.natCast_add, c] at e
  exact e
theorem mul64_eq (a b : Int) (ha0 : 0 ≤ a) (ha : a ≤ 9000000000000) (hb0 : 0 ≤ b) (hb : b ≤ 9000000000000) : bits_Mul64.f a b = some (a * b / 18446744073709551616, a * b % 18446744073709551616) := by
  unfold bits_Mul64.f
  rw [and32 a ha0 (by omega), and32 b hb0 (by omega)]
  simp only [IntKind.wrap_u64]
  obtain ⟨u, hu⟩ : ∃ u, u = a / 4294967296 := ⟨_, rfl⟩
  obtain ⟨v, hv⟩ : ∃ v, v = a % 4294967296 := ⟨_, rfl⟩
  obtain ⟨s, hs⟩ : ∃ s, s = b / 4294967296 := ⟨_, rfl⟩
  obtain ⟨t, ht⟩ : ∃ t, t = b % 4294967296 := ⟨_, rfl⟩
  have ea : a = u * 4294967296 + v := by omega
  have eb : b = s * 4294967296 + t := by omega
  have u0 : 0 ≤ u ∧ u ≤ 2095 := by omega
  have v0 : 0 ≤ v ∧ v ≤ 4294967295 := by omega
  have s0 : 0 ≤ s ∧ s ≤ 2095 := by omega
  have t0 : 0 ≤ t ∧ t ≤ 4294967295 := by omega
  rw [← hu, ← hv, ← hs, ← ht]
  have eP : a * b = (u * s) * 18446744073709551616 + (u * t) * 4294967296 + (v * s) * 4294967296 + v * t := by
    rw [ea, eb]; grind
  rw [eP]
  have b1 : 0 ≤ u * s ∧ u * s ≤ 2095 * 2095 := ⟨Int.mul_nonneg u0.1 s0.1, Int.mul_le_mul u0.2 s0.2 s0.1 (by omega)⟩
  have b2 : 0 ≤ u * t ∧ u * t ≤ 2095 * 4294967295 := ⟨Int.mul_nonneg u0.1 t0.1, Int.mul_le_mul u0.2 t0.2 t0.1 (by omega)⟩
  have b3 : 0 ≤ v * s ∧ v * s ≤ 4294967295 * 2095 := ⟨Int.mul_nonneg v0.1 s0.1, Int.mul_le_mul v0.2 s0.2 s0.1 (by omega)⟩
  have b4 : 0 ≤ v * t ∧ v * t ≤ 4294967295 * 4294967295 := ⟨Int.mul_nonneg v0.1 t0.1, Int.mul_le_mul v0.2 t0.2 t0.1 (by omega)⟩
  clear eP ea eb hu hv hs ht ha0 ha hb0 hb
  generalize u * s = p1 at *
  generalize u * t = p2 at *
  generalize v * s = p3 at *
  generalize v * t = p4 at *
  have e4 : p4 % 18446744073709551616 = p4 := by omega
  have e2 : p2 % 18446744073709551616 = p2 := by omega
  have e3 : p3 % 18446744073709551616 = p3 := by omega
  have e1 : p1 % 18446744073709551616 = p1 := by omega
  rw [e1, e2, e3, e4]
  obtain ⟨q, hq⟩ : ∃ q, q = p4 / 4294967296 := ⟨_, rfl⟩
  rw [← hq]
  have eq1 : (p2 + q) % 18446744073709551616 = p2 + q := by omega
  rw [eq1, and32 (p2 + q) (by omega) (by omega)]
  congr 1
  refine Prod.ext ?_ ?_
  · dsimp only
    omega
  · dsimp only
theorem lz6 : bits_LeadingZeros64.f 1000000 = some 44 := by decide +kernel
theorem y6 : shl .u64 1000000 44 = 17592186044416000000 := by decide +kernel
theorem y6a : Go.bits .and .u64 17592186044416000000 4294967295 = 0 := by decide +kernel
theorem some_first {a b c : Int} (h : a = b) : ∃ r : Int, some (a, c) = some (b, r) := ⟨c, by rw [h]⟩
theorem div64_eq (k : Nat) (p : Int) (hp0 : 0 ≤ p) (hp : p / 18446744073709551616 < 1000000) : ∃ r, bits_Div64.f (k + 6) (p / 18446744073709551616) (p % 18446744073709551616) 1000000 = some (p / 1000000, r) := by
  obtain ⟨h, hh⟩ : ∃ h, h = p / 18446744073709551616 := ⟨_, rfl⟩
  obtain ⟨l, hl⟩ : ∃ l, l = p % 18446744073709551616 := ⟨_, rfl⟩
  have ep : p = h * 18446744073709551616 + l := by omega
  have h0 : 0 ≤ h ∧ h < 1000000 := by omega
  have l0 : 0 ≤ l ∧ l < 18446744073709551616 := by omega
  rw [← hh, ← hl]
  clear hh hl hp hp0
  unfold bits_Div64.f
  rw [if_neg (by omega), if_neg (by omega)]
  by_cases c : h = 0
  · subst c
    rw [if_pos rfl]
    refine some_first ?_
    rw [IntKind.wrap_u64, Int.tdiv_eq_ediv_of_nonneg l0.1]
    omega
  rw [if_neg c, lz6, Option.bind_some]
  have w44 : IntKind.u64.wrap 44 = 44 := by decide +kernel
  have w20 : IntKind.u64.wrap (64 - 44) = 20 := by decide +kernel
  rw [w44, w20, if_pos (by omega), if_pos (by omega), y6, y6a]
  have s1 : shl .u64 h 44 = h * 17592186044416 := by
    have e : shl .u64 h 44 = IntKind.u64.wrap (h * 17592186044416) := rfl
    rw [e, IntKind.wrap_u64]; omega
  have s2 : shr .u64 l 20 = l / 1048576 := rfl
  have s3 : shl .u64 l 44 = l % 1048576 * 17592186044416 := by
    have e : shl .u64 l 44 = IntKind.u64.wrap (l * 17592186044416) := rfl
    rw [e, IntKind.wrap_u64]; omega
  rw [s1, s2, s3, or44 h _ h0.1 (by omega) (by omega) (by omega), and32 _ (by omega) (by omega)]
  have d1 : (17592186044416000000 : Int) / 4294967296 = 4096000000 := by decide
  rw [d1, if_neg (by omega)]
  have z0 : l % 1048576 * 17592186044416 % 4294967296 = 0 := by omega
  have z1 : l % 1048576 * 17592186044416 / 4294967296 = l % 1048576 * 4096 := by omega
  rw [z0, z1]
  obtain ⟨n, hn⟩ : ∃ n, n = h * 17592186044416 + l / 1048576 := ⟨_, rfl⟩
  rw [← hn]
  have n0 : 0 ≤ n ∧ n < 17592186044416000000 := by omega
  rw [Int.tdiv_eq_ediv_of_nonneg n0.1]
  have q1 : IntKind.u64.wrap (n / 4096000000) = n / 4096000000 := by rw [IntKind.wrap_u64]; omega
  rw [q1]
  have r1 : IntKind.u64.wrap (n - IntKind.u64.wrap (n / 4096000000 * 4096000000)) = n % 4096000000 := by simp only [IntKind.wrap_u64]; omega
  rw [r1]
  have ez : ∀ x : Int, IntKind.u64.wrap (x * 0) = 0 := fun x => by rw [Int.mul_zero, IntKind.wrap_u64]; rfl
  have en : ∀ x : Int, decide ((0 : Int) > IntKind.u64.wrap x) = false := fun x => by rw [IntKind.wrap_u64]; exact decide_eq_false (by omega)
  show ∃ r, bits_Div64.l0 (k + 5 + 1) _ _ _ _ _ _ _ _ _ = _
  simp only [bits_Div64.l0]
  rw [if_neg (by omega), ez, en]
  simp only [bits_Div64.j1]
  rw [if_neg (by decide)]
  simp only [bits_Div64.j2]
  rw [if_neg (by omega)]
  have u1 : IntKind.u64.wrap (IntKind.u64.wrap (IntKind.u64.wrap (n * 4294967296) + l % 1048576 * 4096) - IntKind.u64.wrap (n / 4096000000 * 17592186044416000000)) = n % 4096000000 * 4294967296 + l % 1048576 * 4096 := by
    simp only [IntKind.wrap_u64]; omega
  rw [u1]
  obtain ⟨m, hm⟩ : ∃ m, m = n % 4096000000 * 4294967296 + l % 1048576 * 4096 := ⟨_, rfl⟩
  rw [← hm]
  have m0 : 0 ≤ m ∧ m < 17592186044416000000 := by omega
  rw [Int.tdiv_eq_ediv_of_nonneg m0.1]
  have q2 : IntKind.u64.wrap (m / 4096000000) = m / 4096000000 := by rw [IntKind.wrap_u64]; omega
  rw [q2]
  simp only [bits_Div64.l1]
  rw [if_neg (by omega), ez, en]
  simp only [bits_Div64.j4]
  rw [if_neg (by decide), if_pos (by omega)]
  refine some_first ?_
  · have w1 : IntKind.u64.wrap (n / 4096000000 * 4294967296) = n / 4096000000 * 4294967296 := by rw [IntKind.wrap_u64]; omega
    rw [w1, IntKind.wrap_u64]
    have k1 : n * 4294967296 + l % 1048576 * 4096 = p * 4096 := by omega
    have k2 : (p * 4096) / 4096000000 = p / 1000000 := by omega
    have k3 : n / 4096000000 * 4294967296 + m / 4096000000 = (n * 4294967296 + l % 1048576 * 4096) / 4096000000 := by omega
    rw [k3, k1, k2]
    have k4 : p / 1000000 < 18446744073709551616 := by omega
    omega
def mulV (a b : Int) : Int × Bool := if (isDec a ∧ isDec b) ∧ ab a * ab b / 1000000 ≤ 9000000000000 then (if (decide (a < 0) != decide (b < 0)) = true then -(ab a * ab b / 1000000) else ab a * ab b / 1000000, true) else (0, false)
theorem decMul_eq (k : Nat) (hk : 6 ≤ k) (a b : Int) : impl_DecMul.f k a b = some (mulV a b) := by
  obtain ⟨k, rfl⟩ : ∃ m, k = m + 6 := ⟨k - 6, by omega⟩
  unfold impl_DecMul.f mulV
  rw [areDecs_eq, Option.bind_some]
  by_cases h : isDec a ∧ isDec b
  · rw [if_pos (decide_eq_true h), mx_ab a h.1, mx_ab b h.2]
    obtain ⟨a0, a1⟩ := ab_dec a h.1
    obtain ⟨b0, b1⟩ := ab_dec b h.2
    rw [mul64_eq _ _ a0 a1 b0 b1, Option.bind_some]
    have p0 : 0 ≤ ab a * ab b := Int.mul_nonneg a0 b0
    generalize ab a * ab b = p at *
    dsimp only
    by_cases c : p / 18446744073709551616 ≥ 1000000
    · rw [if_pos c, if_neg (by omega)]
    · rw [if_neg c]
      obtain ⟨r, e⟩ := div64_eq k p p0 (by omega)
      rw [e, Option.bind_some]
      dsimp only
      by_cases d : p / 1000000 > 9000000000000
      · rw [if_pos d, if_neg (by omega)]
      · rw [if_neg d, if_pos (show (isDec a ∧ isDec b) ∧ p / 1000000 ≤ 9000000000000 from ⟨h, by omega⟩)]
        have w1 : wrap64 (p / 1000000) = p / 1000000 := by unfold wrap64; omega
        have w2 : wrap64 (-(p / 1000000)) = -(p / 1000000) := by unfold wrap64; omega
        rw [w1, w2]
        by_cases g : (decide (a < 0) != decide (b < 0)) = true
        · rw [if_pos g, if_pos g]
        · rw [if_neg g, if_neg g]
  · rw [if_neg (by simpa using h), if_neg (fun g => h g.1)]
theorem made_eq (n : Int) : spec_l1made.f n = some (orZero n) := by
  unfold spec_l1made.f orZero
  rw [specDecOk_eq, Option.bind_some]
  by_cases h : isDec n
  · rw [if_pos (decide_eq_true h), if_pos h]
  · rw [if_neg (by simp [h]), if_neg h]
theorem specDecMul_j0 (k : Nat) (a b : Int) : spec_DecMul.j0 (k + 1) a b true = some (0, false) := by
  simp only [spec_DecMul.j0]
  first | rw [if_pos rfl] | rw [if_pos trivial]
theorem specDecMul_j1 (k : Nat) (a b : Int) (h1 : isDec a) (h2 : isDec b) (hs : ab a / 1000000 * ab b ≤ 9000000000000) : spec_DecMul.j1 (k + 1) a b (ab a) (ab b) (ab a / 1000000) false = some (mulV a b) := by
  obtain ⟨a0, a1⟩ := ab_dec a h1
  obtain ⟨b0, b1⟩ := ab_dec b h2
  simp only [spec_DecMul.j1]
  rw [if_neg (by decide), made_eq, made_eq, Option.bind_some, Option.bind_some, Int.tmod_eq_emod_of_nonneg a0]
  have x0 : 0 ≤ ab a / 1000000 * ab b := Int.mul_nonneg (by omega) b0
  have y0 : 0 ≤ ab a % 1000000 * ab b := Int.mul_nonneg (by omega) b0
  have y1 : ab a % 1000000 * ab b ≤ 999999 * 9000000000000 := Int.mul_le_mul (by omega) b1 b0 (by omega)
  have e : ab a * ab b = ab a / 1000000 * ab b * 1000000 + ab a % 1000000 * ab b := by
    have e0 : ab a = ab a / 1000000 * 1000000 + ab a % 1000000 := by omega
    generalize ab a / 1000000 = u at *
    generalize ab a % 1000000 = v at *
    rw [e0]
    grind
  unfold mulV
  generalize ab a * ab b = p at *
  generalize ab a / 1000000 * ab b = x at *
  generalize ab a % 1000000 * ab b = y at *
  have w1 : wrap64 y = y := by unfold wrap64; omega
  rw [w1, Int.tdiv_eq_ediv_of_nonneg y0]
  have w2 : wrap64 (wrap64 x + wrap64 (y / 1000000)) = p / 1000000 := by unfold wrap64; omega
  rw [w2]
  have w3 : wrap64 (-(p / 1000000)) = -(p / 1000000) := by unfold wrap64; omega
  rw [w3]
  unfold orZero
  by_cases d : p / 1000000 ≤ 9000000000000
  · have i1 : isDec (p / 1000000) := by unfold isDec; omega
    have i2 : isDec (-(p / 1000000)) := by unfold isDec; omega
    rw [if_pos i1, if_pos i2, if_pos (show (isDec a ∧ isDec b) ∧ p / 1000000 ≤ 9000000000000 from ⟨⟨h1, h2⟩, d⟩)]
    by_cases g : (decide (a < 0) != decide (b < 0)) = true
    · rw [if_pos g, if_pos g]
    · rw [if_neg g, if_neg g]
  · have i1 : ¬ isDec (p / 1000000) := by unfold isDec; omega
    have i2 : ¬ isDec (-(p / 1000000)) := by unfold isDec; omega
    rw [if_neg i1, if_neg i2, if_neg (show ¬ ((isDec a ∧ isDec b) ∧ p / 1000000 ≤ 9000000000000) from fun g => d g.2)]
    by_cases g : (decide (a < 0) != decide (b < 0)) = true
    · rw [if_pos g]
    · rw [if_neg g]
theorem specDecMul_eq (k : Nat) (hk : 2 ≤ k) (a b : Int) : spec_DecMul.f k a b = some (mulV a b) := by
  obtain ⟨k, rfl⟩ : ∃ m, k = m + 1 + 1 := ⟨k - 2, by omega⟩
  unfold spec_DecMul.f
  rw [specDecOk_eq, Option.bind_some]
  by_cases h1 : isDec a
  · rw [if_pos (decide_eq_true h1), specDecOk_eq, Option.bind_some]
    by_cases h2 : isDec b
    · rw [decide_eq_true h2]
      obtain ⟨a0, a1⟩ := ab_dec a h1
      obtain ⟨b0, b1⟩ := ab_dec b h2
      simp only [spec_DecMul.j0]
      rw [if_neg (by decide), l1abs_eq a h1, l1abs_eq b h2, Option.bind_some, Option.bind_some, Int.tdiv_eq_ediv_of_nonneg a0]
      have w1 : wrap64 (ab a / 1000000) = ab a / 1000000 := by unfold wrap64; omega
      rw [w1]
      by_cases c : ab a / 1000000 > 0
      · rw [if_pos c, if_neg (by omega), Int.tdiv_eq_ediv_of_nonneg (by omega)]
        have u0 : 0 ≤ 9000000000000 / (ab a / 1000000) := Int.ediv_nonneg (by omega) (by omega)
        have u1 : 9000000000000 / (ab a / 1000000) ≤ 9000000000000 := Int.ediv_le_self _ (by omega)
        have w2 : wrap64 (9000000000000 / (ab a / 1000000)) = 9000000000000 / (ab a / 1000000) := by unfold wrap64; omega
        rw [w2]
        by_cases d : ab b > 9000000000000 / (ab a / 1000000)
        · rw [decide_eq_true d]
          simp only [spec_DecMul.j1]
          first | rw [if_pos rfl] | rw [if_pos trivial]
          have l1 : 9000000000000 < ab b * (ab a / 1000000) := (Int.ediv_lt_iff_lt_mul c).mp d
          have e : ab a * ab b = ab b * (ab a / 1000000) * 1000000 + ab a % 1000000 * ab b := by
            have e0 : ab a = ab a / 1000000 * 1000000 + ab a % 1000000 := by omega
            generalize ab a / 1000000 = u at *
            generalize ab a % 1000000 = v at *
            rw [e0]
            grind
          have y0 : 0 ≤ ab a % 1000000 * ab b := Int.mul_nonneg (by omega) b0
          unfold mulV
          rw [if_neg (fun g => by have := g.2; omega)]
        · rw [decide_eq_false d]
          refine specDecMul_j1 k a b h1 h2 ?_
          have l1 : ab b * (ab a / 1000000) ≤ 9000000000000 := (Int.le_ediv_iff_mul_le c).mp (by omega)
          rw [Int.mul_comm]; exact l1
      · rw [if_neg c]
        have c0 : ab a / 1000000 = 0 := by omega
        exact specDecMul_j1 k a b h1 h2 (by rw [c0, Int.zero_mul]; omega)
    · rw [decide_eq_false h2]
      show spec_DecMul.j0 (k + 1 + 1) a b true = _
      rw [specDecMul_j0]
      unfold mulV
      rw [if_neg (fun g => h2 g.1.2)]
  · rw [if_neg (by simp [h1]), specDecMul_j0]
    unfold mulV
    rw [if_neg (fun g => h1 g.1.1)]
theorem cells_true (k : Nat) (hk : 100 ≤ k) : laws_cells.f k = some true := at_rounds (g := fun k => laws_cells.f k) (fun k => laws_cells.mono k) hk (by decide +kernel)
def numV (t n : Int) (s : ByteArray) : Int := if t = 2 then (readV s).1 else n
theorem numV_dec (t n : Int) (s : ByteArray) (h : cellV t n s = true) : isDec (numV t n s) := by
  unfold numV
  by_cases h2 : t = 2
  · rw [if_pos h2]; exact readV_range s
  · rw [if_neg h2]
    unfold cellV at h
    by_cases h0 : t = 0
    · rw [if_pos h0, Bool.and_eq_true, beq_iff_eq] at h
      rw [h.2]; unfold isDec; omega
    rw [if_neg h0] at h
    by_cases h1 : t = 1
    · rw [if_pos h1, Bool.and_eq_true, decide_eq_true_eq, decide_eq_true_eq] at h
      exact h.2
    rw [if_neg h1, if_neg h2] at h
    by_cases h3 : t = 3
    · rw [if_pos h3, Bool.and_eq_true, Bool.and_eq_true, beq_iff_eq] at h
      rw [h.2.2]; exact readV_range s
    · rw [if_neg h3] at h; cases h
theorem cellNum_eq (t n : Int) (s : ByteArray) (hs : s.size ≤ 140737488355328) : impl_Cell_num.f t n s = some (numV t n s) := by
  unfold impl_Cell_num.f numV
  by_cases h2 : t = 2
  · rw [if_pos h2, if_pos h2, implReadDec_eq s hs, Option.bind_some]
  · rw [if_neg h2, if_neg h2]
theorem implToNum_eq (t n : Int) (s : ByteArray) (hs : s.size ≤ 140737488355328) : impl_ToNum.f t n s = some (if cellV t n s = true then numV t n s else 0) := by
  unfold impl_ToNum.f
  rw [implCellOk_eq t n s hs, Option.bind_some, cellNum_eq t n s hs]
  cases cellV t n s <;> rfl
theorem specToNum_eq (t n : Int) (s : ByteArray) (k : Nat) (hk : 1600 ≤ k) (hs : s.size ≤ 501) : spec_ToNum.f k t n s = some (if cellV t n s = true then numV t n s else 0) := by
  unfold spec_ToNum.f
  rw [specCellOk_eq t n s k hk, Option.bind_some]
  cases cellV t n s with
  | false => rfl
  | true =>
    rw [if_pos rfl, if_pos rfl]
    unfold numV
    by_cases h2 : t = 2
    · rw [if_pos h2, if_pos h2, specReadDec_eq s (by omega) k (by omega), Option.bind_some]
    · rw [if_neg h2, if_neg h2]
def divV (a b : Int) : Int × Bool := if isDec a ∧ isDec b then (if b = 0 then (0, false) else orZero (wrap64 (Int.tdiv (wrap64 (a * 1000000)) b))) else (0, false)
def modV (a b : Int) : Int × Bool := if isDec a ∧ isDec b then (if b = 0 then (0, false) else (Int.tmod a b, true)) else (0, false)
theorem of_decide_eq_false' {p : Prop} [Decidable p] (h : ¬ p) : ¬ decide p = true := fun e => h (of_decide_eq_true e)
theorem implDiv_eq (a b : Int) : impl_DecDiv.f a b = some (divV a b) := by
  unfold impl_DecDiv.f divV
  rw [areDecs_eq, Option.bind_some]
  by_cases h : isDec a ∧ isDec b
  · rw [if_pos h, if_pos (by simpa using h)]
    by_cases c : b = 0
    · rw [if_pos c, if_pos c]
    · rw [if_neg c, if_neg c, decOr_eq, Option.bind_some]
  · rw [if_neg h, if_neg (by simpa using h)]
theorem implMod_eq (a b : Int) : impl_DecMod.f a b = some (modV a b) := by
  unfold impl_DecMod.f modV
  rw [areDecs_eq, Option.bind_some]
  by_cases h : isDec a ∧ isDec b
  · rw [if_pos h, if_pos (by simpa using h)]
    by_cases c : b = 0
    · rw [if_pos c, if_pos c]
    · rw [if_neg c, if_neg c]
  · rw [if_neg h, if_neg (by simpa using h)]
theorem specDiv_eq (a b : Int) : spec_DecDiv.f a b = some (divV a b) := by
  unfold spec_DecDiv.f divV
  rw [specDecOk_eq, Option.bind_some]
  by_cases h1 : isDec a
  · rw [if_pos (decide_eq_true h1), specDecOk_eq, Option.bind_some]
    by_cases h2 : isDec b
    · rw [if_pos (decide_eq_true h2), if_pos (show isDec a ∧ isDec b from ⟨h1, h2⟩)]
      by_cases c : b = 0
      · rw [if_pos c, if_pos c]
      · rw [if_neg c, if_neg c, made_eq, Option.bind_some]
    · rw [if_neg (of_decide_eq_false' h2), if_neg (fun h => h2 h.2)]
  · rw [if_neg (of_decide_eq_false' h1), if_neg (fun h => h1 h.1)]
theorem specMod_eq (a b : Int) : spec_DecMod.f a b = some (modV a b) := by
  unfold spec_DecMod.f modV
  rw [specDecOk_eq, Option.bind_some]
  by_cases h1 : isDec a
  · rw [if_pos (decide_eq_true h1), specDecOk_eq, Option.bind_some]
    by_cases h2 : isDec b
    · rw [if_pos (decide_eq_true h2), if_pos (show isDec a ∧ isDec b from ⟨h1, h2⟩)]
      by_cases c : b = 0
      · rw [if_pos c, if_pos c]
      · rw [if_neg c, if_neg c]
    · rw [if_neg (of_decide_eq_false' h2), if_neg (fun h => h2 h.2)]
  · rw [if_neg (of_decide_eq_false' h1), if_neg (fun h => h1 h.1)]
theorem specAdd_eq (a b : Int) : spec_DecAdd.f a b = some (addV a b) := by
  unfold spec_DecAdd.f addV
  rw [specDecOk_eq, Option.bind_some]
  by_cases h1 : isDec a
  · rw [if_pos (decide_eq_true h1), specDecOk_eq, Option.bind_some]
    by_cases h2 : isDec b
    · rw [if_pos (decide_eq_true h2), if_pos (show isDec a ∧ isDec b from ⟨h1, h2⟩), made_eq, Option.bind_some]
      have e : wrap64 (a + b) = a + b := by unfold isDec at h1 h2; unfold wrap64; omega
      rw [e]
    · rw [if_neg (of_decide_eq_false' h2), if_neg (fun h => h2 h.2)]
  · rw [if_neg (of_decide_eq_false' h1), if_neg (fun h => h1 h.1)]
theorem specSub_eq (a b : Int) : spec_DecSub.f a b = some (subV a b) := by
  unfold spec_DecSub.f subV
  rw [specDecOk_eq, Option.bind_some]
  by_cases h1 : isDec a
  · rw [if_pos (decide_eq_true h1), specDecOk_eq, Option.bind_some]
    by_cases h2 : isDec b
    · rw [if_pos (decide_eq_true h2), if_pos (show isDec a ∧ isDec b from ⟨h1, h2⟩), made_eq, Option.bind_some]
      have e : wrap64 (a - b) = a - b := by unfold isDec at h1 h2; unfold wrap64; omega
      rw [e]
    · rw [if_neg (of_decide_eq_false' h2), if_neg (fun h => h2 h.2)]
  · rw [if_neg (of_decide_eq_false' h1), if_neg (fun h => h1 h.1)]
theorem orZero_dec (n : Int) (h : (orZero n).2 = true) : isDec (orZero n).1 := by
  unfold orZero at h ⊢
  by_cases c : isDec n
  · rw [if_pos c]; exact c
  · rw [if_neg c] at h; cases h
theorem addV_dec (a b : Int) (h : (addV a b).2 = true) : isDec (addV a b).1 := by
  unfold addV at h ⊢
  by_cases c : isDec a ∧ isDec b
  · rw [if_pos c] at h ⊢; exact orZero_dec _ h
  · rw [if_neg c] at h; cases h
theorem subV_dec (a b : Int) (h : (subV a b).2 = true) : isDec (subV a b).1 := by
  unfold subV at h ⊢
  by_cases c : isDec a ∧ isDec b
  · rw [if_pos c] at h ⊢; exact orZero_dec _ h
  · rw [if_neg c] at h; cases h
theorem divV_dec (a b : Int) (h : (divV a b).2 = true) : isDec (divV a b).1 := by
  unfold divV at h ⊢
  by_cases c : isDec a ∧ isDec b
  · rw [if_pos c] at h ⊢
    by_cases z : b = 0
    · rw [if_pos z] at h; cases h
    · rw [if_neg z] at h ⊢; exact orZero_dec _ h
  · rw [if_neg c] at h; cases h
theorem tmod_le (m : Nat) (b : Int) : Int.tmod (m : Int) b ≤ m := by
  cases b with
  | ofNat n => exact Int.ofNat_le.2 (Nat.mod_le m n)
  | negSucc n => exact Int.ofNat_le.2 (Nat.mod_le m (n + 1))
theorem modV_dec (a b : Int) (h : (modV a b).2 = true) : isDec (modV a b).1 := by
  unfold modV at h ⊢
  by_cases c : isDec a ∧ isDec b
  · rw [if_pos c] at h ⊢
    by_cases z : b = 0
    · rw [if_pos z] at h; cases h
    · rw [if_neg z]
      have h1 := c.1
      unfold isDec at h1 ⊢
      dsimp only
      rcases Int.le_total 0 a with ha | ha
      · have p := Int.tmod_nonneg b ha
        have q : Int.tmod a b ≤ a := by
          obtain ⟨m, rfl⟩ := Int.eq_ofNat_of_zero_le ha
          exact tmod_le m b
        omega
      · have e : Int.tmod a b = - Int.tmod (-a) b := by rw [Int.neg_tmod]; omega
        have p := Int.tmod_nonneg b (a := -a) (by omega)
        have q : Int.tmod (-a) b ≤ -a := by
          obtain ⟨m, hm⟩ := Int.eq_ofNat_of_zero_le (show 0 ≤ -a by omega)
          rw [hm]
          exact tmod_le m b
        omega
  · rw [if_neg c] at h; cases h
theorem mulV_dec (a b : Int) (h : (mulV a b).2 = true) : isDec (mulV a b).1 := by
  unfold mulV at h ⊢
  by_cases c : (isDec a ∧ isDec b) ∧ ab a * ab b / 1000000 ≤ 9000000000000
  · rw [if_pos c]
    have h0 : 0 ≤ ab a * ab b / 1000000 := Int.ediv_nonneg (Int.mul_nonneg (ab_dec a c.1.1).1 (ab_dec b c.1.2).1) (by omega)
    have h1 := c.2
    generalize ab a * ab b / 1000000 = z at h0 h1
    unfold isDec
    dsimp only
    split <;> omega
  · rw [if_neg c] at h; cases h
def opV (x a b : Int) : Int × Bool := if x = 20 then addV a b else if x = 21 then subV a b else if x = 22 then mulV a b else if x = 23 then divV a b else modV a b
theorem opV_dec (x a b : Int) (h : (opV x a b).2 = true) : isDec (opV x a b).1 := by
  unfold opV at h ⊢
  by_cases h0 : x = 20
  · rw [if_pos h0] at h ⊢; exact addV_dec _ _ h
  rw [if_neg h0] at h ⊢
  by_cases h1 : x = 21
  · rw [if_pos h1] at h ⊢; exact subV_dec _ _ h
  rw [if_neg h1] at h ⊢
  by_cases h2 : x = 22
  · rw [if_pos h2] at h ⊢; exact mulV_dec _ _ h
  rw [if_neg h2] at h ⊢
  by_cases h3 : x = 23
  · rw [if_pos h3] at h ⊢; exact divV_dec _ _ h
  rw [if_neg h3] at h ⊢; exact modV_dec _ _ h
theorem opV_zero (x a : Int) (h : 23 ≤ x) : (opV x a 0).2 = false := by
  unfold opV
  rw [if_neg (by omega), if_neg (by omega), if_neg (by omega)]
  unfold divV modV
  by_cases h3 : x = 23
  · rw [if_pos h3]; split <;> rfl
  · rw [if_neg h3]; split <;> rfl
def ansV (x a b : Int) : Int × Int × ByteArray × Int :=
  if (opV x a b).2 = true then (1, (opV x a b).1, ⟨#[]⟩, 0) else if b = 0 ∧ 23 ≤ x then (0, 0, ⟨#[]⟩, 2) else (0, 0, ⟨#[]⟩, 1)
def arithV (x t1 n1 : Int) (s1 : ByteArray) (t2 n2 : Int) (s2 : ByteArray) : Int × Int × ByteArray × Int :=
  if (20 ≤ x ∧ x ≤ 24) ∧ cellV t1 n1 s1 = true ∧ cellV t2 n2 s2 = true then ansV x (numV t1 n1 s1) (numV t2 n2 s2) else (0, 0, ⟨#[]⟩, 3)
theorem implArith_j1 (k : Nat) (hk : 6 ≤ k) (x a b : Int) (h0 : 20 ≤ x) (h1 : x ≤ 24) : impl_Arith.j1 (k + 1) x a b 0 false (decide (b = 0 ∧ 23 ≤ x)) = some (ansV x a b) := by
  simp only [impl_Arith.j1]
  unfold ansV
  by_cases hz : b = 0 ∧ 23 ≤ x
  · have e : (opV x a b).2 = false := by rw [hz.1]; exact opV_zero x a hz.2
    rw [decide_eq_true hz, if_pos rfl, e, if_neg (by decide), if_pos hz]
  · rw [decide_eq_false hz, if_neg (by decide), if_neg hz]
    unfold opV
    by_cases c0 : x = 20
    · rw [if_pos c0, if_pos c0, decAdd_eq, Option.bind_some]; split <;> rfl
    rw [if_neg c0, if_neg c0]
    by_cases c1 : x = 21
    · rw [if_pos c1, if_pos c1, decSub_eq, Option.bind_some]; split <;> rfl
    rw [if_neg c1, if_neg c1]
    by_cases c2 : x = 22
    · rw [if_pos c2, if_pos c2, decMul_eq k hk, Option.bind_some]; split <;> rfl
    rw [if_neg c2, if_neg c2]
    by_cases c3 : x = 23
    · rw [if_pos c3, if_pos c3, implDiv_eq, Option.bind_some]; split <;> rfl
    rw [if_neg c3, if_neg c3, if_pos (by omega), implMod_eq, Option.bind_some]; split <;> rfl
theorem implArith_eq (k : Nat) (hk : 8 ≤ k) (x t1 n1 : Int) (s1 : ByteArray) (t2 n2 : Int) (s2 : ByteArray) (hs1 : s1.size ≤ 501) (hs2 : s2.size ≤ 501) :
    impl_Arith.f k x t1 n1 s1 t2 n2 s2 = some (arithV x t1 n1 s1 t2 n2 s2) := by
  obtain ⟨k, rfl⟩ : ∃ j, k = j + 2 := ⟨k - 2, by omega⟩
  have hno : impl_Arith.j0 (k + 1 + 1) x true t1 n1 s1 t2 n2 s2 = some (0, 0, ⟨#[]⟩, 3) := by
    simp only [impl_Arith.j0, if_true]
  unfold impl_Arith.f arithV impl_between.f
  by_cases h0 : 20 ≤ x
  · rw [if_pos (show x ≥ 20 from h0), Option.bind_some]
    by_cases h1 : x ≤ 24
    · rw [decide_eq_true h1, if_pos rfl, implCellOk_eq _ _ _ (by omega), Option.bind_some]
      cases c1 : cellV t1 n1 s1 with
      | false => rw [if_neg (by decide), hno, if_neg (fun h => absurd h.2.1 (by decide))]
      | true =>
        rw [if_pos rfl, implCellOk_eq _ _ _ (by omega), Option.bind_some]
        cases c2 : cellV t2 n2 s2 with
        | false =>
          rw [if_neg (fun h => absurd h.2.2 (by decide))]
          exact hno
        | true =>
          rw [if_pos ⟨⟨h0, h1⟩, rfl, rfl⟩]
          simp only [impl_Arith.j0, Bool.not_true]
          rw [if_neg (by decide), cellNum_eq _ _ _ (by omega), cellNum_eq _ _ _ (by omega), Option.bind_some, Option.bind_some]
          have hj := implArith_j1 k (by omega) x (numV t1 n1 s1) (numV t2 n2 s2) h0 h1
          by_cases z : numV t2 n2 s2 = 0
          · rw [if_pos z]
            by_cases c : x = 23
            · rw [if_pos c, ← hj]
              rw [decide_eq_true ⟨z, by omega⟩]
            · rw [if_neg c, ← hj]
              have e : (x == 24) = decide (numV t2 n2 s2 = 0 ∧ 23 ≤ x) := by
                by_cases c4 : x = 24
                · rw [decide_eq_true ⟨z, by omega⟩]; simpa using c4
                · rw [decide_eq_false (fun h => by omega)]; simpa using c4
              rw [e]
          · rw [if_neg z, ← hj, decide_eq_false (fun h => z h.1)]
    · rw [decide_eq_false h1, if_neg (by decide), hno, if_neg (fun h => h1 h.1.2)]
  · rw [if_neg (show ¬ x ≥ 20 from h0), Option.bind_some, if_neg (by decide), hno, if_neg (fun h => h0 h.1.1)]
theorem specArith_j1 (k : Nat) (x a b : Int) (r : Int × Bool) (hr : r = opV x a b) : spec_Arith.j1 (k + 1) x b r.1 r.2 = some (ansV x a b) := by
  simp only [spec_Arith.j1]
  unfold ansV
  rw [hr]
  by_cases c : (opV x a b).2 = true
  · rw [if_pos c, if_pos c]
  · rw [if_neg c, if_neg c]
    by_cases z : b = 0
    · rw [if_pos z]
      by_cases y : x ≥ 23
      · rw [if_pos y, if_pos ⟨z, y⟩]
      · rw [if_neg y, if_neg (fun h => y h.2)]
    · rw [if_neg z, if_neg (fun h => z h.1)]
theorem specArith_eq (k : Nat) (hk : 1602 ≤ k) (x t1 n1 : Int) (s1 : ByteArray) (t2 n2 : Int) (s2 : ByteArray) (hs1 : s1.size ≤ 501) (hs2 : s2.size ≤ 501) :
    spec_Arith.f k x t1 n1 s1 t2 n2 s2 = some (arithV x t1 n1 s1 t2 n2 s2) := by
  obtain ⟨k, rfl⟩ : ∃ j, k = j + 2 := ⟨k - 2, by omega⟩
  have hno : spec_Arith.j0 (k + 1 + 1) x true t1 n1 s1 t2 n2 s2 = some (0, 0, ⟨#[]⟩, 3) := by
    simp only [spec_Arith.j0, if_true]
  unfold spec_Arith.f arithV
  by_cases h0 : x < 20
  · rw [if_pos h0, hno, if_neg (fun h => by omega)]
  rw [if_neg h0]
  by_cases h1 : x > 24
  · rw [if_pos h1, hno, if_neg (fun h => by omega)]
  rw [if_neg h1, specCellOk_eq _ _ _ _ (by omega), Option.bind_some]
  cases c1 : cellV t1 n1 s1 with
  | false => rw [if_neg (by decide), hno, if_neg (fun h => absurd h.2.1 (by decide))]
  | true =>
    rw [if_pos rfl, specCellOk_eq _ _ _ _ (by omega), Option.bind_some]
    cases c2 : cellV t2 n2 s2 with
    | false =>
      rw [if_neg (fun h => absurd h.2.2 (by decide))]
      exact hno
    | true =>
      rw [if_pos ⟨⟨by omega, by omega⟩, rfl, rfl⟩]
      simp only [spec_Arith.j0, Bool.not_true]
      rw [if_neg (by decide), specToNum_eq _ _ _ _ (by omega) hs1, specToNum_eq _ _ _ _ (by omega) hs2, Option.bind_some, Option.bind_some, if_pos c1, if_pos c2]
      by_cases d0 : x = 20
      · rw [if_pos d0, specAdd_eq, Option.bind_some]; exact specArith_j1 _ _ _ _ _ (by unfold opV; rw [if_pos d0])
      rw [if_neg d0]
      by_cases d1 : x = 21
      · rw [if_pos d1, specSub_eq, Option.bind_some]; exact specArith_j1 _ _ _ _ _ (by unfold opV; rw [if_neg d0, if_pos d1])
      rw [if_neg d1]
      by_cases d2 : x = 22
      · rw [if_pos d2, specDecMul_eq _ (by omega), Option.bind_some]; exact specArith_j1 _ _ _ _ _ (by unfold opV; rw [if_neg d0, if_neg d1, if_pos d2])
      rw [if_neg d2]
      by_cases d3 : x = 23
      · rw [if_pos d3, specDiv_eq, Option.bind_some]; exact specArith_j1 _ _ _ _ _ (by unfold opV; rw [if_neg d0, if_neg d1, if_neg d2, if_pos d3])
      rw [if_neg d3, specMod_eq, Option.bind_some]; exact specArith_j1 _ _ _ _ _ (by unfold opV; rw [if_neg d0, if_neg d1, if_neg d2, if_neg d3])
theorem cellV_one (n : Int) (h : isDec n) : cellV 1 n ⟨#[]⟩ = true := by
  unfold cellV
  rw [if_neg (by decide), if_pos rfl, decide_eq_true h]; rfl
theorem FnAriths : laws_FnAriths.Pure := by
  intro l0 hm hy hw
  have hl : l0.length ≤ 9223372036854775807 := hm
  obtain ⟨⟨x, t1, n1, s1, t2, n2, s2⟩, e, h1, h2⟩ := drawArith_dr l0 hl (l0.length + 2000 + 1) (by omega)
  dsimp only at h1 h2
  refine ⟨l0.length + 2000 + 1, ?_⟩
  unfold laws_FnAriths.f
  rw [e, Option.bind_some]
  dsimp only
  rw [implArith_eq _ (by omega) _ _ _ _ _ _ _ h1 h2, Option.bind_some, specArith_eq _ (by omega) _ _ _ _ _ _ _ h1 h2, Option.bind_some, if_pos rfl]
  have hK := cells_true (l0.length + 2000) (by omega)
  simp only [laws_FnAriths.j0]
  by_cases c : (20 ≤ x ∧ x ≤ 24) ∧ cellV t1 n1 s1 = true ∧ cellV t2 n2 s2 = true
  · have hA : arithV x t1 n1 s1 t2 n2 s2 = ansV x (numV t1 n1 s1) (numV t2 n2 s2) := if_pos c
    have d1 := numV_dec t1 n1 s1 c.2.1
    have d2 := numV_dec t2 n2 s2 c.2.2
    rw [hA]
    by_cases o : (opV x (numV t1 n1 s1) (numV t2 n2 s2)).2 = true
    · have hV : ansV x (numV t1 n1 s1) (numV t2 n2 s2) = (1, (opV x (numV t1 n1 s1) (numV t2 n2 s2)).1, ⟨#[]⟩, 0) := if_pos o
      have hd := opV_dec _ _ _ o
      rw [hV]
      dsimp only
      rw [if_neg (by decide), implToNum_eq _ _ _ (by omega), Option.bind_some, implToNum_eq _ _ _ (by omega), Option.bind_some, if_pos c.2.1, if_pos c.2.2,
        implArith_eq _ (by omega) _ _ _ _ _ _ _ (by decide) (by decide), Option.bind_some]
      have hA2 : arithV x 1 (numV t1 n1 s1) ⟨#[]⟩ 1 (numV t2 n2 s2) ⟨#[]⟩ = ansV x (numV t1 n1 s1) (numV t2 n2 s2) :=
        if_pos ⟨c.1, cellV_one _ d1, cellV_one _ d2⟩
      rw [hA2, hV]
      generalize (opV x (numV t1 n1 s1) (numV t2 n2 s2)).1 = v at hd
      dsimp only
      have hT : impl_Truth.f 1 v ⟨#[]⟩ = some (v != 0) := by
        unfold impl_Truth.f impl_Cell_truth.f
        rw [implCellOk_eq _ _ _ (by decide), Option.bind_some, cellV_one _ hd, if_pos rfl, if_neg (by decide)]; rfl
      rw [if_pos rfl, if_pos (by simp), if_pos rfl, implCellOk_eq _ _ _ (by decide), Option.bind_some, cellV_one _ hd, if_pos rfl, hT, Option.bind_some, if_pos (by simp), hK]; rfl
    · have hV : ∃ r, r ≠ 0 ∧ ansV x (numV t1 n1 s1) (numV t2 n2 s2) = (0, 0, ⟨#[]⟩, r) := by
        unfold ansV
        rw [if_neg o]
        split
        · exact ⟨2, by decide, rfl⟩
        · exact ⟨1, by decide, rfl⟩
      obtain ⟨r, hr, hV⟩ := hV
      rw [hV]
      dsimp only
      rw [if_pos (by simpa using hr)]
      simp only [if_true]
      rw [if_pos (by decide +kernel), hK]; rfl
  · have hA : arithV x t1 n1 s1 t2 n2 s2 = (0, 0, ⟨#[]⟩, 3) := if_neg c
    rw [hA]
    dsimp only
    rw [if_pos (by decide)]
    simp only [if_true]
    rw [if_pos (by decide +kernel), hK]; rfl
end Go.Proofs.YtnfiljnncpieoaaGreatDoor.Pure
namespace Go.Proofs.YtnfiljnncpieoaaGreatDoor.fnAriths
open Go.ChangeShapes Go.WideShapes Go.ChangeAt Go.RowKit
open Go.ChangeMaps (open_string shut_string)
open Go.Lib
open Go.Proofs.YtnfiljnncpieoaaGreatDoorW.PrintWords
set_option linter.unusedVariables false
theorem own : ownKnob Tryz.prog.godebug = none := by kernel_rfl
theorem laidOut : laidOutB Tryz.prog = true := by kernel_rfl
def IsRow (k : IntKind) (w : World) (a : Option Addr) (len cap : Nat) (zs : List Int) : Prop :=
  (a = none ∧ len = 0 ∧ cap = 0 ∧ zs = []) ∨
  ∃ x, a = some x ∧ len ≤ cap ∧ cap ≤ maxLen ∧ zs.length = cap ∧ (∀ i, i < zs.length → w.cell? (x.add i) = some (.int k (zs.getD i 0))) ∧ ∀ n ∈ zs, (Lit.int k n).wf = true
set_option maxRecDepth 100000 in
theorem lifted (os : Os) (started : os.Started) (H : Type) (enc : TypeId × Value → H) :
    ReturnsInHanded {} Tryz.checked os 3 .any (fun w args => (Rows.fnArithsSpec.pre enc Tryz.prog Tryz.f3 [] false w args ∧ laidMetH Tryz.prog Rows.fnArithsRow.laid w) ∧ sizedMet enc Tryz.prog Tryz.f3 (OpenSpec.ofChange Rows.fnArithsSpec) false w args)
      (Rows.fnArithsSpec.post enc Tryz.prog Tryz.f3 false true false false) := by
  refine returnsInHanded_of_change_and_shaped_ytnfiljnncpieoaagreatdoor (C := Tryz.checked) (X := fun w _ => laidMetH Tryz.prog Rows.fnArithsRow.laid w) (fun _ _ _ hh h => h.of_heap hh) own started (by kernel_rfl) Tryz.func3
    (ChangeSpec.witness_shaped (enc := enc) (C := Tryz.checked) (os := os) (X := fun w _ => laidMetH Tryz.prog Rows.fnArithsRow.laid w) false (World.laidAll Tryz.prog os Rows.fnArithsRow.laid) #[.slice none 0 0] 8 (World.laidAll_os _ _ _)
      (World.shaped_of_ZipB (by kernel_rfl) (by kernel_rfl)) (by kernel_rfl) (by kernel_rfl) (by kernel_rfl)
      (by rw [MakeChecks.laidMetH_plain _ _ _ (by kernel_rfl)]; exact laidMet_laidAll _ (by kernel_rfl) (by kernel_rfl))) ?_
  intro W base args ds gs before hval0 hW hcnd hsz0 hL hS _
  have hsz : (DataW.weightsEach Tryz.prog (Tryz.f3.params.toList ++ Rows.fnArithsSpec.plain.varTypes Tryz.prog) (ds ++ gs)).all (· ≤ reachBytes) = true := hsz0
  have hval : ∀ (j : Nat) t v, Tryz.f3.params[j]? = some t → args[j]? = some v → Value.okWide Tryz.prog W .any base t v := hval0
  have hW' := hW
  obtain ⟨p, q, hA0, hV, rfl, hfz, hnd⟩ := hW
  have hA : DataW.TrodAll enc Tryz.prog W 0 (fun _ => true) true Tryz.f3.params.toList args.toList ds p := hA0
  rw [Tryz.params3] at hA hval hsz
  obtain ⟨v0, vs0, d0, ds0, p0, q0, hargs, rfl, rfl, h0, r0⟩ := trodAll_cons hA
  obtain ⟨rfl, rfl, rfl⟩ := trodAll_nil r0
  obtain rfl : args = #[v0] := by cases args; simp_all
  obtain ⟨rfl, rfl⟩ := trodVars_none hV
  have k0 := h0
  have lt0 : ∀ x ∈ p0, x.block < W.heap.size := by obtain ⟨m, hm⟩ := k0; exact DataW.trod_lt m _ _ _ hm
  obtain ⟨a0, len0, cap0, rfl⟩ := okWide_slice Tryz.underlying22 (hval 0 22 v0 rfl rfl)
  obtain ⟨z0, w0⟩ : ∃ zs, IsRow .u8 W a0 len0 cap0 zs := by
    obtain ⟨fuel, hf⟩ := h0
    rcases open_ints Tryz.underlying22 Tryz.underlying5 (by kernel_rfl) hf with ⟨hcs, _⟩ | ⟨x, l, c, zs, hcs, _, hl, hm, hz, _, hcell, hwz⟩
    · simp [Value.cells] at hcs
      obtain ⟨rfl, rfl, rfl⟩ := hcs
      exact ⟨[], .inl ⟨rfl, rfl, rfl, rfl⟩⟩
    · simp [Value.cells] at hcs
      obtain ⟨rfl, rfl, rfl⟩ := hcs
      exact ⟨zs, .inr ⟨_, rfl, hl, hm, by simpa using hz, hcell, hwz⟩⟩
  have y0 : len0 * 1 ≤ 140737488351232 := Go.Proofs.YtnfiljnncpieoaaGreatDoorW.PrintWords.sized_ints hsz (j := 0) (t := 22) rfl rfl Tryz.underlying22 Tryz.underlying5 (by kernel_rfl) (by kernel_rfl) h0
  obtain ⟨l0, rfl, hr0, hm0, hw0, hc0⟩ := ReadsInt.ofRowC w0
  clear hA0 hval0 hsz0 hsz
  rw [MakeChecks.laidMetH_plain _ _ _ (by kernel_rfl)] at hL
  have hTabs : Q.Tabs W := Q.tabs_of_laid hL (.tail _ (.tail _ (.head _))) hS
  obtain ⟨k, hk⟩ := Pure.FnAriths l0 hm0 y0 hw0
  refine (Q.laws_FnAriths.calls k _ _ l0 true W (Kd.C_of_reads (d := (0 : Int)) (h1 := fun _ => rfl) hr0) hc0 hk hTabs).mono fun e W' ⟨he, bel⟩ => ?_
  subst he
  exact ⟨_, rfl, _, _, _, [], _, [], hW', trodAll_mk1 (shut_bool Tryz.underlying4 _), (trodAll_cons_mk (Below.trod laidOut (by kernel_rfl) (of_decide_eq_true (by kernel_rfl)) k0 bel lt0) trodAll_mk0), rfl, bel.frame _, fun h => by cases h⟩
theorem over : Rows.fnArithsRow.holds Tryz.pinned (OpenSpec.ofChange Rows.fnArithsSpec) :=
  OpenClaim.holds_of_wide 3 Tryz.f3 rfl rfl rfl rfl rfl rfl rfl ⟨rfl, rfl, rfl, rfl, rfl⟩ rfl rfl rfl rfl rfl (by kernel_rfl) Tryz.func3 (by kernel_rfl)
    (of_decide_eq_true (by kernel_rfl)) (by unfold Func.isWrapper; first | (rw [if_pos (by decide +kernel)]; kernel_rfl) | (rw [if_neg (by decide +kernel)]; exact ⟨rfl, rfl⟩))
    (fun os started H enc _ => lifted os started H enc)
theorem proved : Rows.FnArithsCardSaid :=
  Claim7.holds_tied_plain_at .later [] [.data, .data, .data, .data, .pinned] true (true, "87e797b3401a44210684e561bf6d05c093b6c5ca82a9d269558aaecf1cbd6e26") true over (fun _ h => by cases h) (by kernel_rfl) (fun _ h => by cases h) fnAriths_row_tie rfl ⟨rfl, rfl⟩ (by kernel_rfl) rfl
    (fun f fn hf hfn => by
      obtain rfl : f = 3 := Option.some.inj ((show Tryz.prog.funcNamed Rows.fnArithsRow.func = some 3 by kernel_rfl).symm.trans hf) |>.symm
      obtain rfl : fn = Tryz.f3 := (Option.some.inj (Tryz.func3.symm.trans hfn)).symm
      exact ⟨by kernel_rfl, fun j t ht => by
        rw [Tryz.params3] at ht
        have hm : t ∈ [22] := by simpa using Array.mem_of_getElem? ht
        have hall : ([22].all fun u => !Tryz.prog.wantsStandIn u) = true := by kernel_rfl
        exact (show Tryz.prog.wantsStandIn t = false by simpa using List.all_eq_true.1 hall t hm)⟩)
    (by kernel_rfl)
#print axioms proved
end Go.Proofs.YtnfiljnncpieoaaGreatDoor.fnAriths
namespace Go.Proofs.YtnfiljnncpieoaaGreatDoor
theorem fnAriths_holds : Rows.FnArithsCardSaid := fnAriths.proved
end Go.Proofs.YtnfiljnncpieoaaGreatDoor
