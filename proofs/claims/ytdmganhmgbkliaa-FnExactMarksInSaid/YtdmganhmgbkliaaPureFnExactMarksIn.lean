/- The law FnExactMarksIn over lists: whatever two lists of marks, the program's MarksIn and the reference's answer the same; conditions: no list and no text is longer than a Go value can be. -/
import Derived.Test.YtdmganhmgbkliaaQx2
namespace Go.Proofs.Ytdmganhmgbkliaa.Pure
open Go.RowKit Go.Proofs.Ytdmganhmgbkliaa.Q Go.Proofs.YtdmganhmgbkliaaW.PrintWords Go.Proofs.YtdmganhmgbkliaaW.PrintLast

def good32 (x : S32) : Prop := x.f0.size ≤ 9223372036854775807 ∧ x.f1.size ≤ 9223372036854775807

theorem wrap_sub {a : Int} {n : Nat} (h0 : 0 ≤ a) (h1 : a ≤ 1048576) (hn : n ≤ 9223372036854775807) : wrap64 (a - n) = a - n := by
  unfold wrap64; omega
theorem wrap_succ {i : Nat} {n : Nat} (h : i < n) (hn : n ≤ 9223372036854775807) : wrap64 ((i : Int) + 1) = ((i + 1 : Nat) : Int) := by
  unfold wrap64; omega

theorem szMark_some (x : S32) (hx : good32 x) (a : Int) (h0 : 0 ≤ a) (h1 : a ≤ 1048576) : ∃ r, laws_szMark.f x.f0 x.f1 x.f2 x.f3 a = some r ∧ (r < 0 ∨ r ≤ a) := by
  unfold laws_szMark.f
  rw [wrap_sub h0 h1 hx.1]
  split
  · exact ⟨_, rfl, .inl (by omega)⟩
  · rename_i h
    rw [wrap_sub (by omega) (by omega) hx.2]
    split
    · exact ⟨_, rfl, .inl (by omega)⟩
    · exact ⟨_, rfl, .inr (by omega)⟩

theorem szMarkS_l0 (l : List S32) (hl : l.length ≤ 9223372036854775807) (hg : ∀ x ∈ l, good32 x) (d : Nat) : ∀ (i : Nat) (k : Nat) (a : Int), i ≤ l.length → l.length - i = d → d < k → 0 ≤ a → a ≤ 1048576 →
    ∃ r, laws_szMarkS.l0 k l a i = some r ∧ (r < 0 ∨ r ≤ a) := by
  induction d with
  | zero =>
    intro i k a hi hd hk h0 h1
    obtain ⟨k, rfl⟩ : ∃ m, k = m + 1 := ⟨k - 1, by omega⟩
    refine ⟨a, ?_, .inr (Int.le_refl _)⟩
    simp only [laws_szMarkS.l0]; rw [if_neg (by omega)]
  | succ d ih =>
    intro i k a hi hd hk h0 h1
    obtain ⟨k, rfl⟩ : ∃ m, k = m + 1 := ⟨k - 1, by omega⟩
    have hlt : i < l.length := by omega
    have hx : rd_T32 l (i : Int) = l[i] := by simp [rd_T32, List.getD_eq_getElem?_getD, List.getElem?_eq_getElem hlt]
    obtain ⟨r, hr, hr1⟩ := szMark_some l[i] (hg _ (List.getElem_mem hlt)) a h0 h1
    simp only [laws_szMarkS.l0]
    rw [if_pos (by omega), if_pos (by omega), hx, hr, Option.bind_some]
    by_cases hn : r < 0
    · rw [if_pos hn]; exact ⟨_, rfl, .inl (by omega)⟩
    · rw [if_neg hn, wrap_succ hlt hl]
      obtain ⟨r', h2, h3⟩ := ih (i + 1) k r (by omega) (by omega) (by omega) (by omega) (by omega)
      exact ⟨r', h2, by omega⟩

theorem szMarkS_some (l : List S32) (hl : l.length ≤ 9223372036854775807) (hg : ∀ x ∈ l, good32 x) (k : Nat) (hk : l.length < k) (a : Int) (h0 : 0 ≤ a) (h1 : a ≤ 1048576) :
    ∃ r, laws_szMarkS.f k l a = some r ∧ (r < 0 ∨ r ≤ a ∧ l.length ≤ 1048576) := by
  unfold laws_szMarkS.f
  rw [wrap_sub h0 h1 hl]
  split
  · exact ⟨_, rfl, .inl (by omega)⟩
  · obtain ⟨r, h2, h3⟩ := szMarkS_l0 l hl hg l.length 0 k (a - l.length) (by omega) (by omega) hk (by omega) (by omega)
    exact ⟨r, h2, by omega⟩

def conv (x : S32) : S33 := ⟨x.f0, x.f1, x.f2, x.f3⟩

theorem toMarkS_l0 (l : List S32) (hl : l.length ≤ 9223372036854775807) (d : Nat) : ∀ (i : Nat) (k : Nat) (o : List S33), i ≤ l.length → l.length - i = d → d < k → o.length = l.length → o.take i = (l.take i).map conv →
    laws_toMarkS.l0 k l o i = some (l.map conv) := by
  induction d with
  | zero =>
    intro i k o hi hd hk ho hp
    obtain ⟨k, rfl⟩ : ∃ m, k = m + 1 := ⟨k - 1, by omega⟩
    simp only [laws_toMarkS.l0]; rw [if_neg (by omega)]
    rw [List.take_of_length_le (by omega), List.take_of_length_le (by omega)] at hp
    rw [hp]
  | succ d ih =>
    intro i k o hi hd hk ho hp
    obtain ⟨k, rfl⟩ : ∃ m, k = m + 1 := ⟨k - 1, by omega⟩
    have hlt : i < l.length := by omega
    have hx : rd_T32 l (i : Int) = l[i] := by simp [rd_T32, List.getD_eq_getElem?_getD, List.getElem?_eq_getElem hlt]
    simp only [laws_toMarkS.l0, laws_toMark.f]
    rw [if_pos (by omega), if_pos (by omega), hx, Option.bind_some, if_pos (by omega), wrap_succ hlt hl, Int.toNat_natCast]
    refine ih (i + 1) k _ (by omega) (by omega) (by omega) (by simpa using ho) ?_
    rw [List.take_succ_eq_append_getElem (by simp; omega), List.take_succ_eq_append_getElem hlt, List.map_append, List.take_set_of_le (by omega), hp]
    simp [conv]

theorem toMarkS_some (l : List S32) (hl : l.length ≤ 1048576) (k : Nat) (hk : l.length < k) : laws_toMarkS.f k l = some (l.map conv) := by
  unfold laws_toMarkS.f
  rw [if_pos (by omega), Int.toNat_natCast, if_pos (by omega)]
  exact toMarkS_l0 l (by omega) l.length 0 k _ (by omega) (by omega) hk (by simp) rfl

theorem eqMarkS_self (l : List S33) (hl : l.length ≤ 9223372036854775807) (d : Nat) : ∀ (i : Nat) (k : Nat), i ≤ l.length → l.length - i = d → d < k → laws_eqMarkS.l0 k l l i = some true := by
  induction d with
  | zero =>
    intro i k hi hd hk
    obtain ⟨k, rfl⟩ : ∃ m, k = m + 1 := ⟨k - 1, by omega⟩
    simp only [laws_eqMarkS.l0]; rw [if_neg (by omega)]
  | succ d ih =>
    intro i k hi hd hk
    obtain ⟨k, rfl⟩ : ∃ m, k = m + 1 := ⟨k - 1, by omega⟩
    simp only [laws_eqMarkS.l0, laws_eqMark.f]
    rw [if_pos (by omega), if_pos (by omega), if_pos (by omega), if_pos trivial, if_pos trivial, if_pos trivial, if_pos trivial, Option.bind_some, if_pos rfl, wrap_succ (by omega) hl]
    exact ih (i + 1) k (by omega) (by omega) (by omega)

theorem eqMarkS_some (l : List S33) (hl : l.length ≤ 1048576) (k : Nat) (hk : l.length < k) : laws_eqMarkS.f k l l = some true := by
  unfold laws_eqMarkS.f
  rw [if_pos rfl]
  exact eqMarkS_self l (by omega) l.length 0 k (by omega) (by omega) hk

/-- Two ways to say that all tags of one are in the other. -/
theorem tags_same (x y : Int) (hx : 0 ≤ x ∧ x ≤ 15) (hy : 0 ≤ y ∧ y ≤ 15) : (Go.bits .andNot .i64 x y == 0) = (Go.bits .or .i64 x y == y) := by
  have h : ∀ a : Fin 16, ∀ b : Fin 16, (Go.bits .andNot .i64 (a.1 : Int) (b.1 : Int) == 0) = (Go.bits .or .i64 (a.1 : Int) (b.1 : Int) == (b.1 : Int)) := by decide +kernel
  have := h ⟨x.toNat, by omega⟩ ⟨y.toNat, by omega⟩
  simpa [Int.toNat_of_nonneg hx.1, Int.toNat_of_nonneg hy.1] using this

theorem marksIn_same (a b : List S33) : impl_MarksIn.f a b = spec_MarksIn.f a b := by
  unfold impl_MarksIn.f spec_MarksIn.f
  congr 1
  rw [List.not_any_eq_all_not]
  congr 1
  funext x
  unfold wrong33
  simp only [Bool.not_or, Bool.not_not]
  by_cases hx : 0 ≤ x.f3 ∧ x.f3 ≤ 15
  · rw [decide_eq_true hx, Bool.true_and]
    congr 1
    funext y
    unfold same33 fits33
    by_cases hy : 0 ≤ y.f3 ∧ y.f3 ≤ 15
    · rw [tags_same _ _ hx hy]
      simp [hx.1, hx.2, hy.1, hy.2]
    · have : ¬ (0 ≤ y.f3) ∨ ¬ (y.f3 ≤ 15) := by omega
      rcases this with h | h <;> simp [h]
  · rw [decide_eq_false hx, Bool.false_and, eq_comm, List.any_eq_false]
    intro y _
    unfold fits33
    have : ¬ (0 ≤ x.f3) ∨ ¬ (x.f3 ≤ 15) := by omega
    rcases this with h | h <;> simp [h]

theorem marksIn (l0 l1 : List S32) (h0 : l0.length ≤ 9223372036854775807) (h1 : l1.length ≤ 9223372036854775807) (g0 : ∀ x ∈ l0, good32 x) (g1 : ∀ x ∈ l1, good32 x) : ∃ k, laws_FnExactMarksIn.f k l0 l1 = some true := by
  refine ⟨l0.length + l1.length + 1, ?_⟩
  unfold laws_FnExactMarksIn.f
  obtain ⟨r, hr, hr1⟩ := szMarkS_some l0 h0 g0 (l0.length + l1.length + 1) (by omega) 1048576 (by omega) (by omega)
  rw [hr, Option.bind_some]
  by_cases hn : r < 0
  · rw [if_pos hn]
  rw [if_neg hn]
  have hl0 : l0.length ≤ 1048576 := by omega
  obtain ⟨r2, hr2, hr3⟩ := szMarkS_some l1 h1 g1 (l0.length + l1.length + 1) (by omega) r (by omega) (by omega)
  rw [hr2, Option.bind_some]
  by_cases hn2 : r2 < 0
  · rw [if_pos hn2]
  rw [if_neg hn2]
  have hl1 : l1.length ≤ 1048576 := by omega
  rw [toMarkS_some l0 hl0 _ (by omega), Option.bind_some, toMarkS_some l1 hl1 _ (by omega), Option.bind_some]
  have he : ∃ b, spec_MarksIn.f (l0.map conv) (l1.map conv) = some b := ⟨_, rfl⟩
  obtain ⟨b, hb⟩ := he
  rw [hb, Option.bind_some, Option.bind_some, Option.bind_some, marksIn_same, hb, Option.bind_some]
  rw [if_neg (by simp), Option.bind_some, eqMarkS_some _ (by simpa using hl0) _ (by simp; omega), Option.bind_some, if_pos rfl, Option.bind_some, eqMarkS_some _ (by simpa using hl1) _ (by simp; omega), Option.bind_some, if_pos rfl]

end Go.Proofs.Ytdmganhmgbkliaa.Pure
