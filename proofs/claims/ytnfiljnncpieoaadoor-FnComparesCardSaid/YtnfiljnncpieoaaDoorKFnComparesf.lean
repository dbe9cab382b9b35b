/- What the row of FnCompares rests on, and the row: for every input that can be read the call returns true and the input reads as it did; condition: what the row lists of the library reads as the program lays it. -/
import Derived.Test.YtnfiljnncpieoaaDoorKFnComparese
import Derived.Test.YtnfiljnncpieoaaDoorCards
import Derived.Test.YtnfiljnncpieoaaDoorRows
import Derived.Test.YtnfiljnncpieoaaDoorTie
set_option linter.unusedVariables false
set_option linter.unusedSimpArgs false
namespace Go.Proofs.YtnfiljnncpieoaaDoor.Pure
open Go Go.RowKit Go.Proofs.YtnfiljnncpieoaaDoor.Q Go.Proofs.YtnfiljnncpieoaaDoorW.PrintWords Go.Proofs.YtnfiljnncpieoaaDoorW.PrintLast Go.Proofs.YtnfiljnncpieoaaDoorW.PrintMore
theorem dl_pos (j : Nat) : ∀ r, 0 < r → r < 10 ^ j → trimR (dl j r) ≠ [] := by
  induction j with
  | zero => intro r h0 h1; simp at h1; omega
  | succ j ih =>
    intro r h0 h1
    have hp : 0 < 10 ^ j := Nat.pos_of_ne_zero (by simp)
    simp only [dl, trimR]
    by_cases h : r % 10 ^ j = 0
    · rw [h, dl_zero, if_pos rfl, if_neg]
      · simp
      · have hd : 0 < r / 10 ^ j := by
          have := Nat.div_add_mod r (10 ^ j)
          rcases Nat.eq_zero_or_pos (r / 10 ^ j) with e | e
          · rw [e] at this; omega
          · exact e
        exact digit_ne _ hd (Nat.div_lt_of_lt_mul (by rw [Nat.pow_succ] at h1; omega))
    · rw [if_neg (ih _ (by omega) (Nat.mod_lt _ hp))]
      simp
theorem one_digit (d : Nat) (h : d < 10) (k : Nat) : spec_l1dec.f (k + 1) (d : Int) = some (bmk [UInt8.ofNat (48 + d)]) := by
  simp only [spec_l1dec.f]
  rw [Option.bind_some, if_pos (by omega)]
  have e : (wrap64 (48 + Int.tmod (d : Int) 10)) % 256 = ((48 + d : Nat) : Int) := by
    rw [Int.tmod_eq_emod_of_nonneg (by omega), w64 (by omega) (by omega)]; omega
  rw [e]
  rfl
theorem decText_step (K : Nat) (x : ByteArray) (r u : Int) : spec_DecText.l0 (K + 1) x r u = (if r > 0 then (if u = 0 then none else ((spec_l1dec.f K (wrap64 (Int.tdiv r u))).bind fun t => (if x.size + t.size ≤ 9223372036854775807 then (spec_DecText.l0 K (x ++ t) (Int.tmod r u) (wrap64 (Int.tdiv u 10))) else none))) else some x) := by
  simp only [spec_DecText.l0]
theorem trimR_cons (a : UInt8) (l : List UInt8) : trimR (a :: l) = if trimR l = [] then (if a = 48 then [] else [a]) else a :: trimR l := rfl
theorem dl_succ (j r : Nat) : dl (j + 1) r = UInt8.ofNat (48 + r / 10 ^ j) :: dl j (r % 10 ^ j) := rfl
theorem decText_l0 (j : Nat) : ∀ (x : List UInt8) (r k : Nat), j ≤ 6 → 0 < r → r < 10 ^ (j + 1) → x.length + j ≤ 1000 →
    spec_DecText.l0 (k + j + 3) (bmk x) (r : Int) ((10 ^ j : Nat) : Int) = some (bmk (x ++ trimR (dl (j + 1) r))) := by
  induction j with
  | zero =>
    intro x r k _ h0 h1 hx
    have hr : r < 10 := by simpa using h1
    have e : Int.tdiv (r : Int) ((10 ^ 0 : Nat) : Int) = (r : Int) := by simp
    have e2 : Int.tmod (r : Int) ((10 ^ 0 : Nat) : Int) = 0 := by simp
    rw [show k + 0 + 3 = (k + 1) + 1 + 1 by omega, decText_step, if_pos (by omega), if_neg (by simp), e, e2, w64 (by omega) (by omega), one_digit r hr, Option.bind_some, if_pos (by simp [bmk_size]; omega), bmk_append, decText_step, if_neg (by omega)]
    have hd := digit_ne r h0 hr
    have e3 : dl 0 (r % 10 ^ 0) = [] := rfl
    have e4 : r / 10 ^ 0 = r := by simp
    rw [dl_succ, e3, e4, trimR_cons, if_pos (show trimR [] = [] from rfl), if_neg hd]
  | succ j ih =>
    intro x r k hj h0 h1 hx
    have hp : 0 < 10 ^ (j + 1) := Nat.pos_of_ne_zero (by simp)
    have hd : r / 10 ^ (j + 1) < 10 := Nat.div_lt_of_lt_mul (by rw [Nat.pow_succ] at h1; omega)
    have hR := Nat.mod_lt r hp
    have hz : r % 10 ^ (j + 1) = 0 → 0 < r / 10 ^ (j + 1) := fun h => by
      have := Nat.div_add_mod r (10 ^ (j + 1))
      rcases Nat.eq_zero_or_pos (r / 10 ^ (j + 1)) with e | e
      · rw [e] at this; omega
      · exact e
    have hu : (10 ^ (j + 1) : Nat) ≤ 10 ^ 6 := Nat.pow_le_pow_right (by omega) hj
    have e : Int.tdiv (r : Int) ((10 ^ (j + 1) : Nat) : Int) = ((r / 10 ^ (j + 1) : Nat) : Int) := (Int.ofNat_tdiv _ _).symm
    have e2 : Int.tmod (r : Int) ((10 ^ (j + 1) : Nat) : Int) = ((r % 10 ^ (j + 1) : Nat) : Int) := (Int.ofNat_tmod _ _).symm
    have e3 : Int.tdiv ((10 ^ (j + 1) : Nat) : Int) 10 = ((10 ^ j : Nat) : Int) := by
      have := (Int.ofNat_tdiv (10 ^ (j + 1)) 10).symm
      rw [Nat.pow_succ, Nat.mul_div_cancel _ (by omega)] at this
      rw [Nat.pow_succ]
      exact this
    have hq : (10 ^ j : Nat) ≤ 10 ^ 6 := Nat.pow_le_pow_right (by omega) (by omega)
    have hne : r % 10 ^ (j + 1) ≠ 0 → trimR (dl (j + 1) (r % 10 ^ (j + 1))) ≠ [] := fun h => dl_pos (j + 1) _ (by omega) hR
    rw [dl_succ, trimR_cons, show k + (j + 1) + 3 = (k + j + 2) + 1 + 1 by omega, decText_step, e, e2, e3]
    generalize r / 10 ^ (j + 1) = D at *
    generalize r % 10 ^ (j + 1) = R at *
    generalize 10 ^ j = U at *
    generalize 10 ^ (j + 1) = V at *
    rw [if_pos (by omega), if_neg (by omega), w64 (x := (D : Int)) (by omega) (by omega), w64 (x := (U : Int)) (by omega) (by omega), one_digit _ hd, Option.bind_some, if_pos (by simp [bmk_size]; omega), bmk_append]
    by_cases h : R = 0
    · have hd0 := hz h
      rw [h, decText_step, if_neg (by omega), dl_zero, if_pos rfl, if_neg (digit_ne _ hd0 hd)]
    · rw [show k + j + 2 + 1 = k + j + 3 by omega, ih (x ++ [UInt8.ofNat (48 + D)]) R k (by omega) (by omega) hR (by simp; omega), if_neg (hne h), List.append_assoc]; rfl
theorem decDigits_le (k : Nat) : ∀ n : Nat, n < 10 ^ (k + 1) → (Lib.decDigits n).length ≤ k + 1 := by
  induction k with
  | zero => intro n h; rw [Lib.decDigits_one (by simpa using h)]; simp
  | succ k ih =>
    intro n h
    by_cases hn : n < 10
    · rw [Lib.decDigits_one hn]; simp
    · have := ih (n / 10) (by rw [Nat.pow_succ] at h; omega)
      rw [Lib.decDigits.eq_1 n, dif_neg hn, List.length_append]
      simp; omega
theorem digits_le (m : Nat) (h : m ≤ 9000000000000) : (Lib.decDigits m).length ≤ 21 := by
  have := decDigits_le 12 m (by omega)
  omega
theorem l1dec_step (K : Nat) (n : Int) : spec_l1dec.f (K + 1) n = (if n < 10 then some (strOfNums [(wrap64 (48 + (Int.tmod n 10))) % 256]) else ((spec_l1dec.f K (wrap64 (Int.tdiv n 10))).bind fun t => (if t.size + (strOfNums [(wrap64 (48 + (Int.tmod n 10))) % 256]).size ≤ 9223372036854775807 then (some (t ++ (strOfNums [(wrap64 (48 + (Int.tmod n 10))) % 256]))) else (none)))) := by
  simp only [spec_l1dec.f]
  rw [Option.bind_some]
theorem dec_eq (k : Nat) : ∀ n : Nat, n < 10 ^ (k + 1) → n ≤ 9000000000000 → spec_l1dec.f (k + 1) (n : Int) = some (bmk (Lib.decDigits n)) := by
  induction k with
  | zero =>
    intro n h _
    have hn : n < 10 := by simpa using h
    rw [one_digit n hn, Lib.decDigits_one hn]
  | succ k ih =>
    intro n h hb
    by_cases hn : n < 10
    · rw [one_digit n hn, Lib.decDigits_one hn]
    · have e : (wrap64 (48 + Int.tmod (n : Int) 10)) % 256 = ((48 + n % 10 : Nat) : Int) := by
        rw [Int.tmod_eq_emod_of_nonneg (by omega), w64 (by omega) (by omega)]; omega
      have e2 : wrap64 (Int.tdiv (n : Int) 10) = ((n / 10 : Nat) : Int) := by
        rw [Int.tdiv_eq_ediv_of_nonneg (by omega), w64 (by omega) (by omega)]; omega
      have hlen := digits_le (n / 10) (by omega)
      rw [l1dec_step, if_neg (by omega), e2, ih (n / 10) (by rw [Nat.pow_succ] at h; omega) (by omega), Option.bind_some, e]
      have es : strOfNums [((48 + n % 10 : Nat) : Int)] = bmk [UInt8.ofNat (48 + n % 10)] := rfl
      rw [es, if_pos (by simp [bmk_size]; omega), bmk_append]
      congr 2
      rw [Lib.decDigits.eq_1 n, dif_neg hn]
theorem million (r : Nat) (h : r < 1000000) : Lib.decDigits (1000000 + r) = 49 :: dl 6 r := by
  have e : ∀ u, ¬ u < 10 → Lib.decDigits u = Lib.decDigits (u / 10) ++ [UInt8.ofNat (48 + u % 10)] := fun u hu => by rw [Lib.decDigits.eq_1 u, dif_neg hu]
  rw [e (1000000 + r) (by omega), e ((1000000 + r) / 10) (by omega), e ((1000000 + r) / 10 / 10) (by omega), e ((1000000 + r) / 10 / 10 / 10) (by omega), e ((1000000 + r) / 10 / 10 / 10 / 10) (by omega),
    e ((1000000 + r) / 10 / 10 / 10 / 10 / 10) (by omega), Lib.decDigits_one (i := (1000000 + r) / 10 / 10 / 10 / 10 / 10 / 10) (by omega)]
  have q : ∀ a b : Nat, a = b → UInt8.ofNat (48 + a) = UInt8.ofNat (48 + b) := fun a b h => by rw [h]
  simp only [dl, List.cons_append, List.nil_append]
  rw [q ((1000000 + r) / 10 / 10 / 10 / 10 / 10 / 10) 1 (by omega)]
  have p5 : (10 : Nat) ^ 5 = 100000 := by decide
  have p4 : (10 : Nat) ^ 4 = 10000 := by decide
  have p3 : (10 : Nat) ^ 3 = 1000 := by decide
  have p2 : (10 : Nat) ^ 2 = 100 := by decide
  have p1 : (10 : Nat) ^ 1 = 10 := by decide
  have p0 : (10 : Nat) ^ 0 = 1 := by decide
  rw [p5, p4, p3, p2, p1, p0]
  rw [q ((1000000 + r) / 10 / 10 / 10 / 10 / 10 % 10) (r / 100000) (by omega), q ((1000000 + r) / 10 / 10 / 10 / 10 % 10) (r % 100000 / 10000) (by omega), q ((1000000 + r) / 10 / 10 / 10 % 10) (r % 100000 % 10000 / 1000) (by omega),
    q ((1000000 + r) / 10 / 10 % 10) (r % 100000 % 10000 % 1000 / 100) (by omega), q ((1000000 + r) / 10 % 10) (r % 100000 % 10000 % 1000 % 100 / 10) (by omega), q ((1000000 + r) % 10) (r % 100000 % 10000 % 1000 % 100 % 10 / 1) (by omega)]
  rfl
/-- The notation of a decimal. -/
def fracL (r : Nat) : List UInt8 := if r = 0 then [] else 46 :: trimR (dl 6 r)
def absL (m : Nat) : List UInt8 := Lib.decDigits (m / 1000000) ++ fracL (m % 1000000)
def decT (n : Int) : List UInt8 := if isDec n then (if n < 0 then 45 :: absL n.natAbs else absL n.natAbs) else []
theorem implDecText_j0 (k m : Nat) (x : List UInt8) (hm : m ≤ 9000000000000) (hx : x.length ≤ 10) (hk : 20 ≤ k) : impl_DecText.j0 (k + 1) (m : Int) (bmk x) = some (bmk (x ++ absL m)) := by
  simp only [impl_DecText.j0]
  have hl := digits_le (m / 1000000) (by omega)
  have e1 : wrap64 (Int.tdiv (m : Int) 1000000) = ((m / 1000000 : Nat) : Int) := by
    rw [Int.tdiv_eq_ediv_of_nonneg (by omega), w64 (by omega) (by omega)]; omega
  have e2 : Int.tmod (m : Int) 1000000 = ((m % 1000000 : Nat) : Int) := by
    rw [Int.tmod_eq_emod_of_nonneg (by omega)]; omega
  have e3 : strconv_Itoa.f ((m / 1000000 : Nat) : Int) = some (bmk (Lib.decDigits (m / 1000000))) := by
    unfold strconv_Itoa.f
    rw [if_pos (by omega), Lib.itoa_nonneg]; rfl
  rw [e1, e2, e3, Option.bind_some, if_pos (by simp [bmk_size]; omega), bmk_append]
  unfold absL fracL
  by_cases h : m % 1000000 = 0
  · rw [if_neg (by omega), if_pos h, List.append_nil]
  · have e4 : wrap64 (1000000 + ((m % 1000000 : Nat) : Int)) = ((1000000 + m % 1000000 : Nat) : Int) := by rw [w64 (by omega) (by omega)]; omega
    have e5 : strconv_Itoa.f ((1000000 + m % 1000000 : Nat) : Int) = some (bmk (49 :: dl 6 (m % 1000000))) := by
      unfold strconv_Itoa.f
      rw [if_pos (by omega), Lib.itoa_nonneg, million _ (by omega)]; rfl
    have hsz : (bmk (49 :: dl 6 (m % 1000000))).size = 7 := by rw [bmk_size, List.length_cons, dl_length]
    have hex : (bmk (49 :: dl 6 (m % 1000000))).extract 1 7 = bmk (dl 6 (m % 1000000)) := by
      rw [bmk_extract]
      rw [List.drop_one, List.tail_cons, List.take_of_length_le (by rw [dl_length]; omega)]
    have ht := trimR_length (dl 6 (m % 1000000))
    rw [dl_length] at ht
    have e6 : (⟨#[46]⟩ : ByteArray) = bmk [46] := rfl
    rw [if_pos (by omega), if_neg h, e4, e5, Option.bind_some, hsz, if_pos (by omega), hex, trimRight _ k (by rw [dl_length]; omega) (by rw [dl_length]; omega), Option.bind_some, if_pos (by simp [bmk_size]; omega), e6, bmk_append, if_pos (by simp [bmk_size]; omega), bmk_append, List.append_assoc]
    rfl
theorem implDecText_eq (n : Int) (k : Nat) (hk : 21 ≤ k) : impl_DecText.f k n = some (bmk (decT n)) := by
  obtain ⟨k, rfl⟩ : ∃ m, k = m + 1 := ⟨k - 1, by omega⟩
  unfold impl_DecText.f decT
  rw [decOk_eq, Option.bind_some]
  by_cases h : isDec n
  · have hd := h
    unfold isDec at hd
    have em : mx n (wrap64 (-n)) = (n.natAbs : Int) := by rw [w64 (by omega) (by omega)]; unfold mx; omega
    have e1 : (⟨#[45]⟩ : ByteArray) = bmk [45] := rfl
    have e2 : (⟨#[]⟩ : ByteArray) = bmk [] := rfl
    rw [if_pos (decide_eq_true h), if_pos h, em, e1, e2, implDecText_j0 k _ [45] (by omega) (by simp) (by omega), implDecText_j0 k _ [] (by omega) (by simp) (by omega)]
    by_cases c : n < 0
    · rw [if_pos c, if_pos c]; rfl
    · rw [if_neg c, if_neg c]; rfl
  · rw [if_neg (by simp [h]), if_neg h]; rfl
theorem specDecText_j0 (k m : Nat) (n : Int) (x : List UInt8) (hn : isDec n) (hm : m = n.natAbs) (hx : x.length ≤ 30) : spec_DecText.j0 (k + 9) n (bmk x) = some (bmk (x ++ fracL (m % 1000000))) := by
  have hd := hn
  unfold isDec at hd
  have ea : ab n = (m : Int) := by unfold ab; split <;> omega
  simp only [spec_DecText.j0]
  have e2 : Int.tmod (m : Int) 1000000 = ((m % 1000000 : Nat) : Int) := by
    rw [Int.tmod_eq_emod_of_nonneg (by omega)]; omega
  rw [l1abs_eq n hn, Option.bind_some, ea, e2]
  unfold fracL
  by_cases h : m % 1000000 = 0
  · rw [if_pos (by omega), if_pos h, List.append_nil]
  · have e6 : (⟨#[46]⟩ : ByteArray) = bmk [46] := rfl
    have hq := decText_l0 5 (x ++ [46]) (m % 1000000) k (by omega) (by omega) (by omega) (by simp; omega)
    rw [if_neg (by omega), if_neg h, if_pos (by simp [bmk_size]; omega), e6, bmk_append]
    rw [show k + 5 + 3 = k + 8 by omega] at hq
    refine hq.trans ?_
    rw [List.append_assoc]; rfl
theorem specDecText_eq (n : Int) (k : Nat) (hk : 21 ≤ k) : spec_DecText.f k n = some (bmk (decT n)) := by
  obtain ⟨k, rfl⟩ : ∃ m, k = m + 20 + 1 := ⟨k - 21, by omega⟩
  unfold spec_DecText.f decT
  rw [specDecOk_eq, Option.bind_some]
  by_cases h : isDec n
  · have hd := h
    unfold isDec at hd
    have ea : ab n = (n.natAbs : Int) := by unfold ab; split <;> omega
    have e1 : wrap64 (Int.tdiv (n.natAbs : Int) 1000000) = ((n.natAbs / 1000000 : Nat) : Int) := by
      rw [Int.tdiv_eq_ediv_of_nonneg (by omega), w64 (by omega) (by omega)]; omega
    have hp : n.natAbs / 1000000 < 10 ^ (k + 20 + 1) := Nat.lt_of_lt_of_le (show n.natAbs / 1000000 < 10 ^ 13 by omega) (Nat.pow_le_pow_right (by omega) (by omega))
    have hl := digits_le (n.natAbs / 1000000) (by omega)
    have e3 : (⟨#[45]⟩ : ByteArray) = bmk [45] := rfl
    rw [if_pos (decide_eq_true h), if_pos h, l1abs_eq n h, Option.bind_some, ea, e1, dec_eq (k + 20) _ hp (by omega), Option.bind_some, e3, bmk_append]
    rw [show k + 20 + 1 = (k + 12) + 9 by omega, specDecText_j0 _ _ n _ h rfl (by simp; omega), specDecText_j0 _ _ n _ h rfl (by omega)]
    unfold absL
    by_cases c : n < 0
    · rw [if_pos c, if_pos c, if_pos (by simp [bmk_size]; omega)]; rfl
    · rw [if_neg c, if_neg c]
  · rw [if_neg (by simp [h]), if_neg h]; rfl
/-- It answers, and the answer is such. -/
def Dr {α : Type} (x : Option α) (P : α → Prop) : Prop := ∃ r, x = some r ∧ P r
theorem Dr.bind {α β : Type} {x : Option α} {P : α → Prop} {f : α → Option β} {R : β → Prop} (h : Dr x P) (g : ∀ r, P r → Dr (f r) R) : Dr (x.bind f) R := by
  obtain ⟨r, rfl, hp⟩ := h
  exact g r hp
theorem Dr.some {α : Type} {r : α} {P : α → Prop} (h : P r) : Dr (Option.some r) P := ⟨r, rfl, h⟩
theorem Dr.pos {α : Type} {c : Prop} [Decidable c] {x y : Option α} {P : α → Prop} (hc : c) (h : Dr x P) : Dr (if c then x else y) P := by rw [if_pos hc]; exact h
theorem Dr.ite {α : Type} {c : Prop} [Decidable c] {x y : Option α} {P : α → Prop} (h1 : c → Dr x P) (h2 : ¬ c → Dr y P) : Dr (if c then x else y) P := by
  by_cases hc : c
  · rw [if_pos hc]; exact h1 hc
  · rw [if_neg hc]; exact h2 hc
theorem Dr.mono {α : Type} {x : Option α} {P R : α → Prop} (h : Dr x P) (hr : ∀ r, P r → R r) : Dr x R := by
  obtain ⟨r, e, hp⟩ := h
  exact ⟨r, e, hr r hp⟩
end Go.Proofs.YtnfiljnncpieoaaDoor.Pure
namespace Go.Proofs.YtnfiljnncpieoaaDoor.Pure
open Go Go.RowKit Go.Proofs.YtnfiljnncpieoaaDoor.Q Go.Proofs.YtnfiljnncpieoaaDoorW.PrintWords Go.Proofs.YtnfiljnncpieoaaDoorW.PrintLast Go.Proofs.YtnfiljnncpieoaaDoorW.PrintMore
section
variable (b : List Int) (hb : b.length ≤ 9223372036854775807)
include hb
theorem below_dr (i h n : Int) (hi : 0 ≤ i) (hn : 0 < n) (hn2 : n ≤ 256) : Dr (spec_l1Below.f b i h n) (fun r => 0 ≤ r.2.1 ∧ 0 ≤ r.1 ∧ r.1 < n) := by
  obtain ⟨r, i', h', e, hi', _, hr⟩ := l1Below_some b i h n hi hb
  exact ⟨_, e, hi', hr hn hn2⟩
theorem num_dr (i h : Int) (hi : 0 ≤ i) : Dr (spec_l1num.f b i h) (fun r => 0 ≤ r.2.1 ∧ -9223372036854775808 ≤ r.1 ∧ r.1 ≤ 9223372036854775807) := by
  obtain ⟨r, i', h', e, hi', hr⟩ := l1num_some b i h hi hb
  exact ⟨_, e, hi', hr⟩
theorem of_l0 (n : Nat) (set : ByteArray) (h0 : 0 < set.size) (h1 : set.size ≤ 256) (hn : n ≤ 1000) (d : Nat) : ∀ (j k : Nat) (x : List Int) (i h : Int), 0 ≤ i → j + d = n → d < k → x.length = j →
    Dr (spec_l1of.l0 k (n : Int) set x (j : Int) b i h) (fun r => r.1.size = n ∧ 0 ≤ r.2.1 ∧ ∃ y, r.1 = strOfNums (x ++ y) ∧ ∀ c ∈ y, ∃ q : Nat, q < set.size ∧ c = bt set q) := by
  induction d with
  | zero =>
    intro j k x i h hi hj hk hx
    obtain ⟨k, rfl⟩ : ∃ m, k = m + 1 := ⟨k - 1, by omega⟩
    simp only [spec_l1of.l0]
    rw [if_neg (by omega)]
    exact Dr.some ⟨by rw [strOfNums_size]; omega, hi, [], by simp, by simp⟩
  | succ d ih =>
    intro j k x i h hi hj hk hx
    obtain ⟨k, rfl⟩ : ∃ m, k = m + 1 := ⟨k - 1, by omega⟩
    simp only [spec_l1of.l0]
    rw [if_pos (by omega)]
    refine Dr.bind (below_dr b hb i h (set.size : Int) hi (by omega) (by omega)) ?_
    rintro ⟨r, i', h'⟩ ⟨hi', hr0, hr1⟩
    dsimp only at hi' hr0 hr1 ⊢
    refine Dr.pos hr0 (Dr.pos hr1 (Dr.pos (by omega) ?_))
    rw [w64 (by omega) (by omega), show (j : Int) + 1 = ((j + 1 : Nat) : Int) by omega]
    refine (ih (j + 1) k (x ++ [bt set r]) i' h' hi' (by omega) (by omega) (by simp [hx])).mono ?_
    rintro ⟨s, i2, h2⟩ ⟨a1, a2, y, a3, a4⟩
    refine ⟨a1, a2, bt set r :: y, by rw [a3, List.append_assoc]; rfl, fun c hc => ?_⟩
    rcases List.mem_cons.1 hc with rfl | hc
    · obtain ⟨q, rfl⟩ := Int.eq_ofNat_of_zero_le hr0
      exact ⟨q, by omega, rfl⟩
    · exact a4 c hc
theorem of_dr (k n : Nat) (i h : Int) (set : ByteArray) (hi : 0 ≤ i) (h0 : 0 < set.size) (h1 : set.size ≤ 256) (hn : n ≤ 1000) (hk : n < k) :
    Dr (spec_l1of.f k b i h (n : Int) set) (fun r => r.1.size = n ∧ 0 ≤ r.2.1 ∧ ∃ y, r.1 = strOfNums y ∧ ∀ c ∈ y, ∃ q : Nat, q < set.size ∧ c = bt set q) := by
  unfold spec_l1of.f
  refine (of_l0 b hb n set h0 h1 hn n 0 k [] i h hi (by omega) (by omega) rfl).mono ?_
  rintro ⟨s, i2, h2⟩ ⟨a1, a2, y, a3, a4⟩
  exact ⟨a1, a2, y, by simpa using a3, a4⟩
/-- How many of a set: a number drawn below m. -/
theorem of_dr' (k : Nat) (n : Int) (i h : Int) (set : ByteArray) (hi : 0 ≤ i) (h0 : 0 < set.size) (h1 : set.size ≤ 256) (hn0 : 0 ≤ n) (hn : n ≤ 1000) (hk : 1001 ≤ k) :
    Dr (spec_l1of.f k b i h n set) (fun r => (r.1.size : Int) = n ∧ 0 ≤ r.2.1) := by
  obtain ⟨m, rfl⟩ := Int.eq_ofNat_of_zero_le hn0
  refine (of_dr b hb k m i h set hi h0 h1 (by omega) (by omega)).mono ?_
  rintro ⟨s, i2, h2⟩ ⟨a1, a2, _⟩
  exact ⟨by dsimp only at a1 ⊢; omega, a2⟩
theorem new_dr (k : Nat) (hk : b.length < k) : Dr (spec_l1New.f k b) (fun r => r.1 = b ∧ r.2.1 = 0) := by
  obtain ⟨h, e⟩ := l1New_some b hb k hk
  exact ⟨_, e, rfl, rfl⟩
end
end Go.Proofs.YtnfiljnncpieoaaDoor.Pure
namespace Go.Proofs.YtnfiljnncpieoaaDoor.Pure
open Go Go.RowKit Go.Proofs.YtnfiljnncpieoaaDoor.Q Go.Proofs.YtnfiljnncpieoaaDoorW.PrintWords Go.Proofs.YtnfiljnncpieoaaDoorW.PrintLast Go.Proofs.YtnfiljnncpieoaaDoorW.PrintMore
theorem toList_nil (s : ByteArray) : s.toList = ([] : List UInt8) ↔ s.size = 0 := by
  have h : s.toList.length = s.size := by simp [ByteArray.toList_eq, Array.length_toList]
  constructor
  · intro e; rw [e] at h; exact h.symm
  · intro e; rw [e] at h; exact List.eq_nil_of_length_eq_zero h
/-- Is a value valid? -/
def cellV (t n : Int) (s : ByteArray) : Bool :=
  if t = 0 then decide (s.size = 0) && (n == 0)
  else if t = 1 then decide (s.size = 0) && decide (isDec n)
  else if t = 2 then decide (s.size ≤ 500) && (n == 0)
  else if t = 3 then decide (s.size ≤ 500) && (looksV s && (n == (readV s).1))
  else false
theorem implCellOk_eq (t n : Int) (s : ByteArray) (hs : s.size ≤ 140737488355328) : impl_CellOk.f t n s = some (cellV t n s) := by
  unfold impl_CellOk.f cellV
  by_cases h0 : t = 0
  · rw [if_pos h0, if_pos h0]
    by_cases c : s.size = 0
    · rw [if_pos ((toList_nil s).2 c), decide_eq_true c, Bool.true_and]
    · rw [if_neg (fun h => c ((toList_nil s).1 h)), decide_eq_false c, Bool.false_and]
  rw [if_neg h0, if_neg h0]
  by_cases h1 : t = 1
  · rw [if_pos h1, if_pos h1]
    by_cases c : s.size = 0
    · rw [if_pos ((toList_nil s).2 c), decide_eq_true c, Bool.true_and, decOk_eq, Option.bind_some]
    · rw [if_neg (fun h => c ((toList_nil s).1 h)), decide_eq_false c, Bool.false_and]
  rw [if_neg h1, if_neg h1]
  by_cases h2 : t = 2
  · rw [if_pos h2, if_pos h2]
    by_cases c : s.size ≤ 500
    · rw [if_pos (by omega), decide_eq_true c, Bool.true_and]
    · rw [if_neg (by omega), decide_eq_false c, Bool.false_and]
  rw [if_neg h2, if_neg h2]
  by_cases h3 : t = 3
  · rw [if_pos h3, if_pos h3, implReadDec_eq s hs, Option.bind_some]
    by_cases c : s.size ≤ 500
    · rw [if_pos (by omega), decide_eq_true c, Bool.true_and, implLooksNum_eq s hs, Option.bind_some]
      cases looksV s <;> rfl
    · rw [if_neg (by omega), decide_eq_false c, Bool.false_and]
  rw [if_neg h3, if_neg h3]
theorem specCellOk_eq (t n : Int) (s : ByteArray) (k : Nat) (hk : 1600 ≤ k) : spec_CellOk.f k t n s = some (cellV t n s) := by
  unfold spec_CellOk.f cellV
  by_cases hb : (s.size : Int) > 500
  · rw [if_pos hb]
    have c0 : decide (s.size = 0) = false := decide_eq_false (by omega)
    have c5 : decide (s.size ≤ 500) = false := decide_eq_false (by omega)
    rw [c0, c5]
    simp
  rw [if_neg hb]
  have c5 : decide (s.size ≤ 500) = true := decide_eq_true (by omega)
  by_cases h0 : t = 0
  · rw [if_pos h0, if_pos h0]
    by_cases c : s.size = 0
    · rw [if_pos ((toList_nil s).2 c), decide_eq_true c, Bool.true_and]
    · rw [if_neg (fun h => c ((toList_nil s).1 h)), decide_eq_false c, Bool.false_and]
  rw [if_neg h0, if_neg h0]
  by_cases h1 : t = 1
  · rw [if_pos h1, if_pos h1]
    by_cases c : s.size = 0
    · rw [if_pos ((toList_nil s).2 c), decide_eq_true c, Bool.true_and, specDecOk_eq, Option.bind_some]
    · rw [if_neg (fun h => c ((toList_nil s).1 h)), decide_eq_false c, Bool.false_and]
  rw [if_neg h1, if_neg h1]
  by_cases h2 : t = 2
  · rw [if_pos h2, if_pos h2, c5, Bool.true_and]
  rw [if_neg h2, if_neg h2]
  by_cases h3 : t = 3
  · rw [if_pos h3, if_pos h3, c5, Bool.true_and, specReadDec_eq s (by omega) k (by omega), Option.bind_some, specLooksNum_eq s (by omega) k (by omega), Option.bind_some]
    cases looksV s <;> rfl
  rw [if_neg h3, if_neg h3]
/-- A value's text. -/
def strV (t n : Int) (s : ByteArray) : ByteArray := if t = 1 then bmk (decT n) else s
theorem implStr_eq (t n : Int) (s : ByteArray) (k : Nat) (hk : 21 ≤ k) : impl_Cell_str.f k t n s = some (strV t n s) := by
  unfold impl_Cell_str.f strV
  by_cases h : t = 1
  · rw [if_pos h, if_pos h, implDecText_eq n k hk, Option.bind_some]
  · rw [if_neg h, if_neg h]
theorem specToStr_eq (t n : Int) (s : ByteArray) (k : Nat) (hk : 1600 ≤ k) (hc : cellV t n s = true) : spec_ToStr.f k t n s = some (strV t n s) := by
  unfold spec_ToStr.f strV
  rw [specCellOk_eq t n s k hk, hc, Option.bind_some, if_pos rfl]
  by_cases h : t = 1
  · rw [if_pos h, if_pos h, specDecText_eq n k (by omega), Option.bind_some]
  · rw [if_neg h, if_neg h]
def cmpI (a b : Int) : Int := if a = b then 0 else if a < b then -1 else 1
def cmpS (a b : ByteArray) : Int := if (a.toList == b.toList) = true then 0 else if Op.bytesLess a.toList b.toList = true then -1 else 1
def compareV (t1 n1 : Int) (s1 : ByteArray) (t2 n2 : Int) (s2 : ByteArray) : Int := if t1 ≠ 2 ∧ t2 ≠ 2 then cmpI n1 n2 else cmpS (strV t1 n1 s1) (strV t2 n2 s2)
theorem less_irrefl (l : List UInt8) : Op.bytesLess l l = false := by
  rw [bytesLess_eq]
  exact decide_eq_false (List.lt_irrefl l)
theorem cmpInt_eq (a b : Int) : cmp_Compare_int.f a b = some (cmpI a b) := by
  unfold cmp_Compare_int.f cmp_isNaN_int.f cmpI
  have h : ∀ x : Int, (x != x) = false := fun x => by simp
  rw [h, h, Option.bind_some, Option.bind_some, if_neg (by decide), if_neg (by decide)]
  by_cases c : a = b
  · rw [if_pos c, if_neg (by omega), if_neg (by omega)]
  · rw [if_neg c]
    by_cases d : a < b
    · rw [if_pos d, if_pos d]
    · rw [if_neg d, if_neg d, if_pos (by omega)]
theorem cmpStr_eq (a b : ByteArray) : cmp_Compare_string.f a b = some (cmpS a b) := by
  unfold cmp_Compare_string.f cmpS
  cases h : (a.toList == b.toList) with
  | true =>
    have e := beq_iff_eq.mp h
    rw [e, less_irrefl]; rfl
  | false => rfl
theorem implCompare_j (t1 n1 : Int) (s1 : ByteArray) (t2 n2 : Int) (s2 : ByteArray) (k : Nat) (hk : 22 ≤ k) : impl_compare.f k t1 n1 s1 t2 n2 s2 = some (compareV t1 n1 s1 t2 n2 s2) := by
  obtain ⟨k, rfl⟩ : ∃ m, k = m + 1 := ⟨k - 1, by omega⟩
  unfold impl_compare.f compareV
  have key : ∀ b : Bool, impl_compare.j0 (k + 1) b t1 n1 s1 t2 n2 s2 = some (if b = true then cmpI n1 n2 else cmpS (strV t1 n1 s1) (strV t2 n2 s2)) := by
    intro b
    simp only [impl_compare.j0]
    cases b with
    | true => rw [if_pos rfl, if_pos rfl, cmpInt_eq, Option.bind_some]
    | false => rw [if_neg (by decide), if_neg (by decide), implStr_eq t1 n1 s1 k (by omega), Option.bind_some, implStr_eq t2 n2 s2 k (by omega), Option.bind_some, cmpStr_eq, Option.bind_some]
  rw [key, key]
  by_cases h1 : t1 = 2
  · rw [if_pos h1, if_neg (by decide), if_neg (fun h => h.1 h1)]
  · rw [if_neg h1]
    by_cases h2 : t2 = 2
    · rw [if_neg (by simp [h2]), if_neg (fun h => h.2 h2)]
    · rw [if_pos (by simpa using h2), if_pos ⟨h1, h2⟩]
def CompareV (t1 n1 : Int) (s1 : ByteArray) (t2 n2 : Int) (s2 : ByteArray) : Int := if (cellV t1 n1 s1 && cellV t2 n2 s2) = true then compareV t1 n1 s1 t2 n2 s2 else 0
theorem implCompare_eq (t1 n1 : Int) (s1 : ByteArray) (t2 n2 : Int) (s2 : ByteArray) (h1 : s1.size ≤ 140737488355328) (h2 : s2.size ≤ 140737488355328) (k : Nat) (hk : 22 ≤ k) : impl_Compare.f k t1 n1 s1 t2 n2 s2 = some (CompareV t1 n1 s1 t2 n2 s2) := by
  unfold impl_Compare.f CompareV
  rw [implCellOk_eq t1 n1 s1 h1, Option.bind_some, implCellOk_eq t2 n2 s2 h2]
  cases cellV t1 n1 s1 with
  | false => rfl
  | true =>
    cases cellV t2 n2 s2 with
    | false => rfl
    | true =>
      rw [if_pos rfl, Option.bind_some, if_pos rfl, implCompare_j _ _ _ _ _ _ k hk, Option.bind_some]; rfl
theorem specCompare_eq (t1 n1 : Int) (s1 : ByteArray) (t2 n2 : Int) (s2 : ByteArray) (k : Nat) (hk : 1610 ≤ k) : spec_Compare.f k t1 n1 s1 t2 n2 s2 = some (CompareV t1 n1 s1 t2 n2 s2) := by
  obtain ⟨k, rfl⟩ : ∃ m, k = m + 1 + 1 + 1 := ⟨k - 3, by omega⟩
  unfold spec_Compare.f CompareV
  rw [specCellOk_eq t1 n1 s1 _ (by omega), Option.bind_some, specCellOk_eq t2 n2 s2 _ (by omega)]
  have j2 : ∀ (k : Nat) (b c : Bool), spec_Compare.j2 (k + 1) b c = some (if c = true then 0 else if b = true then -1 else 1) := by
    intro k b c
    simp only [spec_Compare.j2]
    cases c <;> cases b <;> rfl
  have ji : (if (n1 == n2) = true then (0 : Int) else if (decide (n1 < n2)) = true then -1 else 1) = cmpI n1 n2 := by
    unfold cmpI
    by_cases c : n1 = n2
    · simp [c]
    · simp [c]
  cases hc1 : cellV t1 n1 s1 with
  | false =>
    rw [if_neg (by decide)]
    simp only [spec_Compare.j0]
    rw [if_pos trivial]; rfl
  | true =>
    rw [if_pos rfl, Option.bind_some]
    cases hc2 : cellV t2 n2 s2 with
    | false =>
      simp only [spec_Compare.j0]
      rw [if_pos (by decide)]; rfl
    | true =>
      have key : ∀ (b : Bool), spec_Compare.j1 (k + 1 + 1) (decide (n1 < n2)) (n1 == n2) b t1 n1 s1 t2 n2 s2 = some (if b = true then cmpS (strV t1 n1 s1) (strV t2 n2 s2) else cmpI n1 n2) := by
        intro b
        simp only [spec_Compare.j1]
        cases b with
        | true =>
          rw [if_pos rfl, if_pos rfl, specToStr_eq t1 n1 s1 _ (by omega) hc1, specToStr_eq t2 n2 s2 _ (by omega) hc2]
          simp only [Option.bind_some]
          rw [j2]; rfl
        | false => rw [if_neg (by decide), if_neg (by decide), j2, ji]
      simp only [spec_Compare.j0]
      rw [if_neg (by decide), key, key, if_pos (show (true && true) = true from rfl)]
      unfold compareV
      by_cases h1 : t1 = 2
      · rw [if_pos h1, if_pos rfl, if_neg (fun h => h.1 h1)]
      · rw [if_neg h1]
        by_cases h2 : t2 = 2
        · rw [if_pos (show (t2 == 2) = true by simp [h2]), if_neg (fun h => h.2 h2)]
        · rw [if_neg (show ¬ (t2 == 2) = true by simpa using h2), if_pos ⟨h1, h2⟩]
theorem specFieldCell_eq (k : Nat) (s : ByteArray) (hs : s.size ≤ 500) (hk : 1601 ≤ k) : spec_FieldCell.f k s = some (if looksV s = true then (3, (readV s).1, s) else (2, 0, s)) := by
  unfold spec_FieldCell.f
  rw [if_neg (by omega), specLooksNum_eq s (by omega) k (by omega), Option.bind_some]
  by_cases c : looksV s = true
  · rw [if_pos c, if_pos c, specReadDec_eq s (by omega) k (by omega), Option.bind_some]
  · rw [if_neg c, if_neg c]
end Go.Proofs.YtnfiljnncpieoaaDoor.Pure
namespace Go.Proofs.YtnfiljnncpieoaaDoor.Pure
open Go Go.RowKit Go.Proofs.YtnfiljnncpieoaaDoor.Q Go.Proofs.YtnfiljnncpieoaaDoorW.PrintWords Go.Proofs.YtnfiljnncpieoaaDoorW.PrintLast Go.Proofs.YtnfiljnncpieoaaDoorW.PrintMore
section
variable (b : List Int) (hb : b.length ≤ 9223372036854775807)
include hb
theorem text_dr (i h : Int) (l : List ByteArray) (m : Nat) (hi : 0 ≤ i) (h0 : 0 < l.length) (h1 : l.length ≤ 256) (hm : ∀ s ∈ l, s.size ≤ m) : Dr (spec_l1text.f b i h l) (fun r => r.1.size ≤ m ∧ r.1 ∈ l ∧ 0 ≤ r.2.1) := by
  unfold spec_l1text.f
  refine Dr.bind (below_dr b hb i h (l.length : Int) hi (by omega) (by omega)) ?_
  rintro ⟨r, i1, h1⟩ ⟨hi1, p, q⟩
  dsimp only at hi1 p q ⊢
  refine Dr.pos p (Dr.pos q (Dr.some ?_))
  have hmem : rdOf ByteArray.empty l r ∈ l := by
    unfold rdOf
    rw [List.getD_eq_getElem?_getD, List.getElem?_eq_getElem (by omega)]
    exact List.getElem_mem _
  exact ⟨hm _ hmem, hmem, hi1⟩
theorem draw7_dr (k : Nat) (i h : Int) (hi : 0 ≤ i) (hk : 1601 ≤ k) : Dr (spec_l7draw.f k b i h) (fun r => r.2.2.1.size ≤ 10 ∧ 0 ≤ r.2.2.2.1) := by
  unfold spec_l7draw.f
  refine Dr.bind (below_dr b hb i h 4 hi (by omega) (by omega)) ?_
  rintro ⟨r, i1, h1⟩ ⟨hi1, _, _⟩
  dsimp only at hi1 ⊢
  refine Dr.ite (fun _ => Dr.some ⟨Nat.zero_le _, hi1⟩) (fun _ => Dr.ite (fun _ => ?_) (fun _ => Dr.ite (fun _ => ?_) (fun _ => ?_)))
  · refine Dr.bind (below_dr b hb i1 h1 20 hi1 (by omega) (by omega)) ?_
    rintro ⟨r2, i2, h2⟩ ⟨hi2, _, _⟩
    dsimp only at hi2 ⊢
    refine Dr.bind (below_dr b hb i2 h2 2 hi2 (by omega) (by omega)) ?_
    rintro ⟨r3, i3, h3⟩ ⟨hi3, _, _⟩
    exact Dr.some ⟨Nat.zero_le _, hi3⟩
  · refine Dr.bind (text_dr b hb i1 h1 _ 10 hi1 (by decide) (by decide) (by decide)) ?_
    rintro ⟨s, i2, h2⟩ ⟨hs, _, hi2⟩
    dsimp only at hs hi2 ⊢
    rw [specFieldCell_eq k s (by omega) hk, Option.bind_some]
    by_cases c : looksV s = true
    · rw [if_pos c]; exact Dr.some ⟨hs, hi2⟩
    · rw [if_neg c]; exact Dr.some ⟨hs, hi2⟩
  · refine Dr.bind (text_dr b hb i1 h1 _ 10 hi1 (by decide) (by decide) (by decide)) ?_
    rintro ⟨s, i2, h2⟩ ⟨hs, _, hi2⟩
    exact Dr.some ⟨hs, hi2⟩
theorem bent7_dr (k : Nat) (i h : Int) (hi : 0 ≤ i) (hk : 1601 ≤ k) : Dr (spec_l7bent.f k b i h) (fun r => r.2.2.1.size ≤ 501 ∧ 0 ≤ r.2.2.2.1) := by
  unfold spec_l7bent.f
  refine Dr.bind (draw7_dr b hb k i h hi hk) ?_
  rintro ⟨t, n, s, i1, h1⟩ ⟨hs, hi1⟩
  dsimp only at hs hi1 ⊢
  refine Dr.bind (below_dr b hb i1 h1 16 hi1 (by omega) (by omega)) ?_
  rintro ⟨r, i2, h2⟩ ⟨hi2, _, _⟩
  dsimp only at hi2 ⊢
  refine Dr.ite (fun _ => ?_) (fun _ => Dr.ite (fun _ => ?_) (fun _ => Dr.ite (fun _ => ?_) (fun _ => Dr.some ⟨by dsimp only; omega, hi2⟩)))
  · refine Dr.bind (below_dr b hb i2 h2 6 hi2 (by omega) (by omega)) ?_
    rintro ⟨r3, i3, h3⟩ ⟨hi3, _, _⟩
    exact Dr.some ⟨by dsimp only; omega, hi3⟩
  · refine Dr.bind (num_dr b hb i2 h2 hi2) ?_
    rintro ⟨r3, i3, h3⟩ ⟨hi3, _, _⟩
    exact Dr.some ⟨by dsimp only; omega, hi3⟩
  · refine Dr.bind (below_dr b hb i2 h2 2 hi2 (by omega) (by omega)) ?_
    rintro ⟨r3, i3, h3⟩ ⟨hi3, p, q⟩
    dsimp only at hi3 p q ⊢
    rw [w64 (x := 500 + r3) (by omega) (by omega)]
    refine Dr.bind (of_dr' b hb k (500 + r3) i3 h3 _ hi3 (by decide) (by decide) (by omega) (by omega) (by omega)) ?_
    rintro ⟨s2, i4, h4⟩ ⟨hs2, hi4⟩
    dsimp only at hs2 hi4 ⊢
    exact Dr.some ⟨by dsimp only; omega, hi4⟩
theorem drawCompare_dr (k : Nat) (hk : b.length + 1601 ≤ k) : Dr (spec_DrawCompare.f k b) (fun r => r.2.2.1.size ≤ 501 ∧ r.2.2.2.2.2.size ≤ 501) := by
  unfold spec_DrawCompare.f
  refine Dr.bind (new_dr b hb k (by omega)) ?_
  rintro ⟨c, i, h⟩ ⟨rfl, rfl⟩
  dsimp only
  refine Dr.bind (bent7_dr c hb k 0 h (by omega) (by omega)) ?_
  rintro ⟨t, n, s, i1, h1⟩ ⟨hs, hi1⟩
  dsimp only at hs hi1 ⊢
  refine Dr.bind (bent7_dr c hb k i1 h1 hi1 (by omega)) ?_
  rintro ⟨t2, n2, s2, i2, h2⟩ ⟨hs2, hi2⟩
  exact Dr.some ⟨hs, hs2⟩
end
end Go.Proofs.YtnfiljnncpieoaaDoor.Pure
namespace Go.Proofs.YtnfiljnncpieoaaDoor.Pure
open Go Go.RowKit Go.Proofs.YtnfiljnncpieoaaDoor.Q Go.Proofs.YtnfiljnncpieoaaDoorW.PrintWords Go.Proofs.YtnfiljnncpieoaaDoorW.PrintLast Go.Proofs.YtnfiljnncpieoaaDoorW.PrintMore
def relV (kd c : Int) : Bool := if kd = 15 then decide (c < 0) else if kd = 16 then decide (c ≤ 0) else if kd = 17 then (c == 0) else if kd = 18 then (c != 0) else false
def RelateV (kd t1 n1 : Int) (s1 : ByteArray) (t2 n2 : Int) (s2 : ByteArray) : Bool := (cellV t1 n1 s1 && cellV t2 n2 s2) && relV kd (compareV t1 n1 s1 t2 n2 s2)
theorem relOf (kd c : Int) : (if kd = 15 then (some (decide (c < 0))) else (if kd = 16 then (some (decide (c ≤ 0))) else (if kd = 17 then (some (c == 0)) else (if kd = 18 then (some (c != 0)) else (some false))))) = some (relV kd c) := by
  unfold relV
  by_cases h1 : kd = 15
  · rw [if_pos h1, if_pos h1]
  rw [if_neg h1, if_neg h1]
  by_cases h2 : kd = 16
  · rw [if_pos h2, if_pos h2]
  rw [if_neg h2, if_neg h2]
  by_cases h3 : kd = 17
  · rw [if_pos h3, if_pos h3]
  rw [if_neg h3, if_neg h3]
  by_cases h4 : kd = 18
  · rw [if_pos h4, if_pos h4]
  rw [if_neg h4, if_neg h4]
theorem implRelate_eq (kd t1 n1 : Int) (s1 : ByteArray) (t2 n2 : Int) (s2 : ByteArray) (h1 : s1.size ≤ 140737488355328) (h2 : s2.size ≤ 140737488355328) (k : Nat) (hk : 22 ≤ k) : impl_Relate.f k kd t1 n1 s1 t2 n2 s2 = some (RelateV kd t1 n1 s1 t2 n2 s2) := by
  unfold impl_Relate.f RelateV
  rw [implCellOk_eq t1 n1 s1 h1, Option.bind_some, implCellOk_eq t2 n2 s2 h2]
  cases cellV t1 n1 s1 with
  | false => rfl
  | true =>
    cases cellV t2 n2 s2 with
    | false => rfl
    | true =>
      unfold impl_relate.f
      rw [if_pos rfl, Option.bind_some, if_pos rfl, implCompare_j _ _ _ _ _ _ k hk, Option.bind_some, relOf, Option.bind_some]; rfl
theorem cells_true (k : Nat) (hk : 100 ≤ k) : laws_cells.f k = some true := at_rounds (g := fun k => laws_cells.f k) (fun k => laws_cells.mono k) hk (by decide +kernel)
theorem ff : ¬ (false = true) := by decide
theorem cmpI_range (a b : Int) : -1 ≤ cmpI a b ∧ cmpI a b ≤ 1 := by
  unfold cmpI
  by_cases h : a = b
  · rw [if_pos h]; omega
  · rw [if_neg h]
    by_cases c : a < b
    · rw [if_pos c]; omega
    · rw [if_neg c]; omega
theorem cmpS_range (a b : ByteArray) : -1 ≤ cmpS a b ∧ cmpS a b ≤ 1 := by
  unfold cmpS
  by_cases h : (a.toList == b.toList) = true
  · rw [if_pos h]; omega
  · rw [if_neg h]
    by_cases c : Op.bytesLess a.toList b.toList = true
    · rw [if_pos c]; omega
    · rw [if_neg c]; omega
theorem cmpI_neg (a b : Int) : cmpI b a = -cmpI a b := by
  unfold cmpI
  rcases Int.lt_trichotomy a b with h | h | h
  · rw [if_neg (by omega), if_neg (by omega), if_neg (by omega), if_pos h]; rfl
  · rw [if_pos h.symm, if_pos h]; rfl
  · rw [if_neg (by omega), if_pos h, if_neg (by omega), if_neg (by omega)]
theorem cmpS_neg (a b : ByteArray) : cmpS b a = -cmpS a b := by
  unfold cmpS
  generalize a.toList = x
  generalize b.toList = y
  rw [bytesLess_eq, bytesLess_eq]
  by_cases h : x = y
  · subst h; simp
  · have h1 : (x == y) = false := by simpa using h
    have h2 : (y == x) = false := by simpa using fun e => h e.symm
    rw [h1, h2, if_neg ff, if_neg ff]
    by_cases c : x < y
    · have d : ¬ y < x := List.lt_asymm c
      rw [decide_eq_true c, decide_eq_false d, if_neg ff, if_pos rfl]; rfl
    · by_cases d : y < x
      · rw [decide_eq_false c, decide_eq_true d, if_pos rfl, if_neg ff]
      · exact absurd (List.le_antisymm (List.not_lt.mp d) (List.not_lt.mp c)) h
theorem compareV_range (t1 n1 : Int) (s1 : ByteArray) (t2 n2 : Int) (s2 : ByteArray) : -1 ≤ compareV t1 n1 s1 t2 n2 s2 ∧ compareV t1 n1 s1 t2 n2 s2 ≤ 1 := by
  unfold compareV
  split
  · exact cmpI_range _ _
  · exact cmpS_range _ _
theorem compareV_neg (t1 n1 : Int) (s1 : ByteArray) (t2 n2 : Int) (s2 : ByteArray) : compareV t2 n2 s2 t1 n1 s1 = -compareV t1 n1 s1 t2 n2 s2 := by
  unfold compareV
  by_cases h : t1 ≠ 2 ∧ t2 ≠ 2
  · rw [if_pos h, if_pos ⟨h.2, h.1⟩]; exact cmpI_neg _ _
  · rw [if_neg h, if_neg (fun g => h ⟨g.2, g.1⟩)]; exact cmpS_neg _ _
theorem compareV_self (t n : Int) (s : ByteArray) : compareV t n s t n s = 0 := by
  have := compareV_neg t n s t n s
  omega
theorem FnCompares : laws_FnCompares.Pure := by
  intro l0 hm hy hw
  have hl : l0.length ≤ 9223372036854775807 := hm
  obtain ⟨⟨t1, n1, s1, t2, n2, s2⟩, e, h1, h2⟩ := drawCompare_dr l0 hl (l0.length + 2000 + 1) (by omega)
  dsimp only at h1 h2
  refine ⟨l0.length + 2000 + 1, ?_⟩
  unfold laws_FnCompares.f
  rw [e, Option.bind_some]
  dsimp only
  rw [implCompare_eq _ _ _ _ _ _ (by omega) (by omega) _ (by omega), Option.bind_some, specCellOk_eq _ _ _ _ (by omega), Option.bind_some, specCellOk_eq _ _ _ _ (by omega)]
  have hC : CompareV t1 n1 s1 t2 n2 s2 = if (cellV t1 n1 s1 && cellV t2 n2 s2) = true then compareV t1 n1 s1 t2 n2 s2 else 0 := rfl
  have hC2 : CompareV t2 n2 s2 t1 n1 s1 = if (cellV t2 n2 s2 && cellV t1 n1 s1) = true then compareV t2 n2 s2 t1 n1 s1 else 0 := rfl
  have hC3 : CompareV t1 n1 s1 t1 n1 s1 = 0 := by unfold CompareV; rw [compareV_self]; split <;> rfl
  have hR : ∀ kd, RelateV kd t1 n1 s1 t2 n2 s2 = ((cellV t1 n1 s1 && cellV t2 n2 s2) && relV kd (compareV t1 n1 s1 t2 n2 s2)) := fun _ => rfl
  have hK := cells_true (l0.length + 2000) (by omega)
  generalize hk : l0.length + 2000 = K at *
  have hrel : ∀ kd, impl_Relate.f K kd t1 n1 s1 t2 n2 s2 = some (RelateV kd t1 n1 s1 t2 n2 s2) := fun kd => implRelate_eq kd t1 n1 s1 t2 n2 s2 (by omega) (by omega) K (by omega)
  have hbad : (cellV t1 n1 s1 && cellV t2 n2 s2) = false → laws_FnCompares.j0 (K + 1) (CompareV t1 n1 s1 t2 n2 s2) true t1 n1 s1 t2 n2 s2 = some true := by
    intro hb
    simp only [laws_FnCompares.j0]
    rw [if_pos trivial, hC, hb, if_neg ff, if_pos rfl, hrel, hR, hb, Option.bind_some, if_neg (by simp), hK, Option.bind_some]
  cases c1 : cellV t1 n1 s1 with
  | false => rw [if_neg ff]; exact hbad (by rw [c1]; rfl)
  | true =>
    rw [if_pos rfl, Option.bind_some]
    cases c2 : cellV t2 n2 s2 with
    | false => exact hbad (by rw [c1, c2]; rfl)
    | true =>
      have hc : (cellV t1 n1 s1 && cellV t2 n2 s2) = true := by rw [c1, c2]; rfl
      have hc' : (cellV t2 n2 s2 && cellV t1 n1 s1) = true := by rw [c1, c2]; rfl
      have hr := compareV_range t1 n1 s1 t2 n2 s2
      have hn := compareV_neg t1 n1 s1 t2 n2 s2
      rw [hc, if_pos rfl] at hC
      rw [hc', if_pos rfl, hn] at hC2
      simp only [laws_FnCompares.j0]
      rw [if_neg (show ¬ ((!true) = true) by decide), implCompare_eq t2 n2 s2 t1 n1 s1 (by omega) (by omega) K (by omega), Option.bind_some, implCompare_eq t1 n1 s1 t1 n1 s1 (by omega) (by omega) K (by omega), specCompare_eq t1 n1 s1 t2 n2 s2 K (by omega), hrel, hrel, hrel, hrel, hR, hR, hR, hR, hc, hC2, hC3, hC]
      generalize compareV t1 n1 s1 t2 n2 s2 = x at *
      simp only [Option.bind_some, Bool.true_and]
      have w : wrap64 (- -x) = x := by rw [w64 (by omega) (by omega)]; omega
      have e15 : (relV 15 x == decide (x < 0)) = true := by unfold relV; simp
      have e16 : (relV 16 x == decide (x ≤ 0)) = true := by unfold relV; simp
      have e17 : (relV 17 x == (x == 0)) = true := by unfold relV; simp
      have e18 : (relV 18 x == (x != 0)) = true := by unfold relV; simp
      rw [w, if_pos rfl, if_pos trivial, if_pos e15, if_pos e16, if_pos e17, if_pos e18, if_pos trivial, hK, Option.bind_some]
end Go.Proofs.YtnfiljnncpieoaaDoor.Pure
namespace Go.Proofs.YtnfiljnncpieoaaDoor.fnCompares
open Go.ChangeShapes Go.WideShapes Go.ChangeAt Go.RowKit
open Go.ChangeMaps (open_string shut_string)
open Go.Lib
open Go.Proofs.YtnfiljnncpieoaaDoorW.PrintWords
set_option linter.unusedVariables false
theorem own : ownKnob Tryd.prog.godebug = none := by kernel_rfl
theorem laidOut : laidOutB Tryd.prog = true := by kernel_rfl
def IsRow (k : IntKind) (w : World) (a : Option Addr) (len cap : Nat) (zs : List Int) : Prop :=
  (a = none ∧ len = 0 ∧ cap = 0 ∧ zs = []) ∨
  ∃ x, a = some x ∧ len ≤ cap ∧ cap ≤ maxLen ∧ zs.length = cap ∧ (∀ i, i < zs.length → w.cell? (x.add i) = some (.int k (zs.getD i 0))) ∧ ∀ n ∈ zs, (Lit.int k n).wf = true
set_option maxRecDepth 100000 in
theorem lifted (os : Os) (started : os.Started) (H : Type) (enc : TypeId × Value → H) :
    ReturnsInHanded {} Tryd.checked os 6 .any (fun w args => (Rows.fnComparesSpec.pre enc Tryd.prog Tryd.f6 [] false w args ∧ laidMetH Tryd.prog Rows.fnComparesRow.laid w) ∧ sizedMet enc Tryd.prog Tryd.f6 (OpenSpec.ofChange Rows.fnComparesSpec) false w args)
      (Rows.fnComparesSpec.post enc Tryd.prog Tryd.f6 false true false false) := by
  refine returnsInHanded_of_change_and_shaped_ytnfiljnncpieoaadoor (C := Tryd.checked) (X := fun w _ => laidMetH Tryd.prog Rows.fnComparesRow.laid w) (fun _ _ _ hh h => h.of_heap hh) own started (by kernel_rfl) Tryd.func6
    (ChangeSpec.witness_shaped (enc := enc) (C := Tryd.checked) (os := os) (X := fun w _ => laidMetH Tryd.prog Rows.fnComparesRow.laid w) false (World.laidAll Tryd.prog os Rows.fnComparesRow.laid) #[.slice none 0 0] 8 (World.laidAll_os _ _ _)
      (World.shaped_of_ZipB (by kernel_rfl) (by kernel_rfl)) (by kernel_rfl) (by kernel_rfl) (by kernel_rfl)
      (by rw [MakeChecks.laidMetH_plain _ _ _ (by kernel_rfl)]; exact laidMet_laidAll _ (by kernel_rfl) (by kernel_rfl))) ?_
  intro W base args ds gs before hval0 hW hcnd hsz0 hL hS _
  have hsz : (DataW.weightsEach Tryd.prog (Tryd.f6.params.toList ++ Rows.fnComparesSpec.plain.varTypes Tryd.prog) (ds ++ gs)).all (· ≤ reachBytes) = true := hsz0
  have hval : ∀ (j : Nat) t v, Tryd.f6.params[j]? = some t → args[j]? = some v → Value.okWide Tryd.prog W .any base t v := hval0
  have hW' := hW
  obtain ⟨p, q, hA0, hV, rfl, hfz, hnd⟩ := hW
  have hA : DataW.TrodAll enc Tryd.prog W 0 (fun _ => true) true Tryd.f6.params.toList args.toList ds p := hA0
  rw [Tryd.params6] at hA hval hsz
  obtain ⟨v0, vs0, d0, ds0, p0, q0, hargs, rfl, rfl, h0, r0⟩ := trodAll_cons hA
  obtain ⟨rfl, rfl, rfl⟩ := trodAll_nil r0
  obtain rfl : args = #[v0] := by cases args; simp_all
  obtain ⟨rfl, rfl⟩ := trodVars_none hV
  have k0 := h0
  have lt0 : ∀ x ∈ p0, x.block < W.heap.size := by obtain ⟨m, hm⟩ := k0; exact DataW.trod_lt m _ _ _ hm
  obtain ⟨a0, len0, cap0, rfl⟩ := okWide_slice Tryd.underlying31 (hval 0 31 v0 rfl rfl)
  obtain ⟨z0, w0⟩ : ∃ zs, IsRow .u8 W a0 len0 cap0 zs := by
    obtain ⟨fuel, hf⟩ := h0
    rcases open_ints Tryd.underlying31 Tryd.underlying5 (by kernel_rfl) hf with ⟨hcs, _⟩ | ⟨x, l, c, zs, hcs, _, hl, hm, hz, _, hcell, hwz⟩
    · simp [Value.cells] at hcs
      obtain ⟨rfl, rfl, rfl⟩ := hcs
      exact ⟨[], .inl ⟨rfl, rfl, rfl, rfl⟩⟩
    · simp [Value.cells] at hcs
      obtain ⟨rfl, rfl, rfl⟩ := hcs
      exact ⟨zs, .inr ⟨_, rfl, hl, hm, by simpa using hz, hcell, hwz⟩⟩
  have y0 : len0 * 1 ≤ 140737488351232 := Go.Proofs.YtnfiljnncpieoaaDoorW.PrintWords.sized_ints hsz (j := 0) (t := 31) rfl rfl Tryd.underlying31 Tryd.underlying5 (by kernel_rfl) (by kernel_rfl) h0
  obtain ⟨l0, rfl, hr0, hm0, hw0, hc0⟩ := ReadsInt.ofRowC w0
  clear hA0 hval0 hsz0 hsz
  rw [MakeChecks.laidMetH_plain _ _ _ (by kernel_rfl)] at hL
  have hTabs : Q.Tabs W := Q.tabs_of_laid hL (.tail _ (.tail _ (.head _))) hS
  obtain ⟨k, hk⟩ := Pure.FnCompares l0 hm0 y0 hw0
  refine (Q.laws_FnCompares.calls k _ _ l0 true W (Kd.C_of_reads (d := (0 : Int)) (h1 := fun _ => rfl) hr0) hc0 hk hTabs).mono fun e W' ⟨he, bel⟩ => ?_
  subst he
  exact ⟨_, rfl, _, _, _, [], _, [], hW', trodAll_mk1 (shut_bool Tryd.underlying4 _), (trodAll_cons_mk (Below.trod laidOut (by kernel_rfl) (of_decide_eq_true (by kernel_rfl)) k0 bel lt0) trodAll_mk0), rfl, bel.frame _, fun h => by cases h⟩
theorem over : Rows.fnComparesRow.holds Tryd.pinned (OpenSpec.ofChange Rows.fnComparesSpec) :=
  OpenClaim.holds_of_wide 6 Tryd.f6 rfl rfl rfl rfl rfl rfl rfl ⟨rfl, rfl, rfl, rfl, rfl⟩ rfl rfl rfl rfl rfl (by kernel_rfl) Tryd.func6 (by kernel_rfl)
    (of_decide_eq_true (by kernel_rfl)) (by unfold Func.isWrapper; first | (rw [if_pos (by decide +kernel)]; kernel_rfl) | (rw [if_neg (by decide +kernel)]; exact ⟨rfl, rfl⟩))
    (fun os started H enc _ => lifted os started H enc)
theorem proved : Rows.FnComparesCardSaid :=
  Claim7.holds_tied_plain_at .later [] [.data, .data, .data, .data, .pinned] true (true, "b75b773852959c5247afd18ef90919ec67df20c7244692005a47031de84d4aff") false over (fun _ h => by cases h) (by kernel_rfl) (fun _ h => by cases h) fnCompares_row_tie rfl ⟨rfl, rfl⟩ (by kernel_rfl) rfl
    (fun f fn hf hfn => by
      obtain rfl : f = 6 := Option.some.inj ((show Tryd.prog.funcNamed Rows.fnComparesRow.func = some 6 by kernel_rfl).symm.trans hf) |>.symm
      obtain rfl : fn = Tryd.f6 := (Option.some.inj (Tryd.func6.symm.trans hfn)).symm
      exact ⟨by kernel_rfl, fun j t ht => by
        rw [Tryd.params6] at ht
        have hm : t ∈ [31] := by simpa using Array.mem_of_getElem? ht
        have hall : ([31].all fun u => !Tryd.prog.wantsStandIn u) = true := by kernel_rfl
        exact (show Tryd.prog.wantsStandIn t = false by simpa using List.all_eq_true.1 hall t hm)⟩)
    (by kernel_rfl)
#print axioms proved
end Go.Proofs.YtnfiljnncpieoaaDoor.fnCompares
namespace Go.Proofs.YtnfiljnncpieoaaDoor
/-- The row, under a short name, for the claim. -/
theorem fnCompares_holds : Rows.FnComparesCardSaid := fnCompares.proved
end Go.Proofs.YtnfiljnncpieoaaDoor
