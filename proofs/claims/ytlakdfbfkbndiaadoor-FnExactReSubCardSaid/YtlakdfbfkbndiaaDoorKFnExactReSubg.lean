/- What the row of FnExactReSub rests on, and the row: for every input that can be read the call returns true and the input reads as it did; condition: what the row lists of the library reads as the program lays it. -/
import Derived.Test.YtlakdfbfkbndiaaDoorKFnExactReSubf
import Derived.Test.YtlakdfbfkbndiaaDoorCards
import Derived.Test.YtlakdfbfkbndiaaDoorRows
import Derived.Test.YtlakdfbfkbndiaaDoorTie
set_option linter.unusedVariables false
set_option linter.unusedSimpArgs false
namespace Go.Proofs.YtlakdfbfkbndiaaDoor.Q
open Go.RowKit Go.Proofs.YtlakdfbfkbndiaaDoor.Re Go.Proofs.YtlakdfbfkbndiaaDoorW.PrintWords Go.Proofs.YtlakdfbfkbndiaaDoorW.PrintLast Go.Proofs.YtlakdfbfkbndiaaDoorW.PrintMore
theorem implNode_ev (x : S49) (hs : x.f2.size ≤ 1099511627776) : Ev (fun k => impl_isReNode.f k x.f0 x.f1 x.f2 x.f3) (nodeB x) := by
  obtain ⟨f0, neg, s, f3⟩ := x
  dsimp only at hs ⊢
  refine ⟨s.size + 10, fun k hk => ?_⟩
  obtain ⟨k, rfl⟩ : ∃ j, k = j + 5 := ⟨k - 5, by omega⟩
  have hj3 : ∀ b, impl_isReNode.j3 (k + 5) b f0 neg s f3 = if b = true then some false else impl_isReNode.l0 (k + 4) 0 f0 neg s f3 := fun b => by simp only [impl_isReNode.j3]
  have e0 : (s.toList != ([] : List UInt8)) = decide (s.size ≠ 0) := by
    by_cases c : s.size = 0
    · rw [(toList_nil s).mpr c]; simp [c]
    · rw [decide_eq_true c]; exact bne_iff_ne.mpr fun h => c ((toList_nil s).mp h)
  show impl_isReNode.f (k + 5) f0 neg s f3 = _
  unfold impl_isReNode.f nodeB
  dsimp only
  by_cases h0 : f0 = 0
  · rw [if_pos h0, if_pos h0]
    by_cases h2 : s.size % 2 = 0
    · rw [if_pos (by omega)]
      by_cases h3 : f3.length = 0
      · rw [if_neg (by omega)]
        by_cases h4 : s.size = 0
        · rw [if_pos ((toList_nil s).mpr h4), hj3]
          cases neg with
          | false => rw [Bool.not_false, if_pos rfl, if_neg (fun h => h.2.2 ⟨h4, rfl⟩)]
          | true =>
            rw [Bool.not_true, if_neg (by decide), if_pos ⟨h2, h3, fun h => absurd h.2 (by decide)⟩]
            exact implPairs f0 true s f3 hs (s.size / 2) 0 (k + 4) (by omega) (by omega)
        · rw [if_neg (fun h => h4 ((toList_nil s).mp h)), hj3, if_neg (by decide), if_pos ⟨h2, h3, fun h => h4 h.1⟩]
          exact implPairs f0 neg s f3 hs (s.size / 2) 0 (k + 4) (by omega) (by omega)
      · rw [if_pos (by omega), hj3, if_pos rfl, if_neg (fun h => h3 h.2.1)]
    · rw [if_neg (by omega), hj3, if_pos rfl, if_neg (fun h => h2 h.1)]
  · rw [if_neg h0, if_neg h0, e0]
    have hj0 : ∀ b, impl_isReNode.j0 (k + 5) b f0 neg s f3 = if b = true then some false else if f0 = 1 ∨ f0 = 2 then some (decide (f3.length = 0)) else if f0 = 3 ∨ f0 = 4 then some (decide (2 ≤ f3.length)) else if f0 = 5 ∨ f0 = 6 ∨ f0 = 7 then some (decide (f3.length = 1)) else some false := fun b => by
      have l0 : ((f3.length : Int) == 0) = decide (f3.length = 0) := by
        by_cases c : f3.length = 0 <;> simp [c]
      have l1 : ((f3.length : Int) == 1) = decide (f3.length = 1) := by
        by_cases c : f3.length = 1
        · simp [c]
        · rw [decide_eq_false c]; exact beq_eq_false_iff_ne.mpr fun h => c (by omega)
      have l2 : decide ((f3.length : Int) ≥ 2) = decide (2 ≤ f3.length) := by
        by_cases c : 2 ≤ f3.length
        · rw [decide_eq_true c]; exact decide_eq_true (by omega)
        · rw [decide_eq_false c]; exact decide_eq_false (by omega)
      simp only [impl_isReNode.j0, impl_isReNode.j1, impl_isReNode.j2, l0, l1, l2]
      cases b with
      | true => rfl
      | false =>
        simp only [Bool.false_eq_true, if_false]
        by_cases c1 : f0 = 1
        · subst c1; rfl
        by_cases c2 : f0 = 2
        · subst c2; rfl
        by_cases c3 : f0 = 3
        · subst c3; rfl
        by_cases c4 : f0 = 4
        · subst c4; rfl
        by_cases c5 : f0 = 5
        · subst c5; rfl
        by_cases c6 : f0 = 6
        · subst c6; rfl
        by_cases c7 : f0 = 7
        · subst c7; rfl
        simp [c1, c2, c3, c4, c5, c6, c7]
    cases neg with
    | true => rw [if_pos rfl, hj0, if_pos rfl, if_pos (.inl rfl)]
    | false =>
      rw [if_neg (by decide), hj0]
      by_cases c : s.size = 0
      · rw [decide_eq_false (show ¬ s.size ≠ 0 from fun h => h c), if_neg (by decide), if_neg (show ¬ (false = true ∨ s.size ≠ 0) from fun h => h.elim (by decide) (fun h => h c))]
        split
        · rfl
        · split
          · rfl
          · split <;> rfl
      · rw [decide_eq_true c, if_pos rfl, if_pos (.inr c)]
theorem specNode_ev (x : S49) (hs : x.f2.size ≤ 1099511627776) : Ev (fun k => spec_l2kidsOk.f k x.f0 x.f1 x.f2 x.f3) (nodeB x) := by
  obtain ⟨f0, neg, s, f3⟩ := x
  dsimp only at hs ⊢
  refine ⟨s.size + 10, fun k hk => ?_⟩
  obtain ⟨k, rfl⟩ : ∃ j, k = j + 5 := ⟨k - 5, by omega⟩
  have hj0 : ∀ b, spec_l2pairs.j0 (k + 5) b f0 neg s f3 = if b = true then some false else spec_l2pairs.l0 (k + 4) 0 f0 neg s f3 := fun b => by simp only [spec_l2pairs.j0]
  have e0 : (s.toList == ([] : List UInt8)) = decide (s.size = 0) := by
    by_cases c : s.size = 0
    · rw [(toList_nil s).mpr c]; simp [c]
    · rw [decide_eq_false c]; exact beq_eq_false_iff_ne.mpr fun h => c ((toList_nil s).mp h)
  show spec_l2kidsOk.f (k + 5) f0 neg s f3 = _
  unfold spec_l2kidsOk.f nodeB
  dsimp only
  by_cases h0 : f0 = 0
  · rw [if_pos h0, if_pos h0]
    by_cases h3 : f3.length = 0
    · rw [if_pos (by omega)]
      unfold spec_l2pairs.f
      by_cases h2 : s.size % 2 = 0
      · rw [if_neg (by omega)]
        by_cases h4 : s.size = 0
        · rw [if_pos (by omega), hj0]
          cases neg with
          | false => rw [Bool.not_false, if_pos rfl, if_neg (fun h => h.2.2 ⟨h4, rfl⟩)]; rfl
          | true =>
            rw [Bool.not_true, if_neg (by decide), if_pos ⟨h2, h3, fun h => absurd h.2 (by decide)⟩, show (0 : Int) = ((0 : Nat) : Int) from rfl, specPairs f0 true s f3 hs (s.size / 2) 0 (k + 4) (by omega) (by omega)]; rfl
        · rw [if_neg (by omega), hj0, if_neg (by decide), if_pos ⟨h2, h3, fun h => h4 h.1⟩, show (0 : Int) = ((0 : Nat) : Int) from rfl, specPairs f0 neg s f3 hs (s.size / 2) 0 (k + 4) (by omega) (by omega)]; rfl
      · rw [if_pos (by omega), hj0, if_pos rfl, if_neg (fun h => h2 h.1)]; rfl
    · rw [if_neg (by omega), if_neg (fun h => h3 h.2.1)]
  · rw [if_neg h0, if_neg h0]
    have l0 : ((f3.length : Int) = 0) ↔ (f3.length = 0) := by omega
    have l1 : ((f3.length : Int) = 1) ↔ (f3.length = 1) := by omega
    have l2 : ((f3.length : Int) ≥ 2) ↔ (2 ≤ f3.length) := by omega
    have fin : ∀ (p : Prop) [Decidable p], (if p then (if neg = true then some false else some (s.toList == ([] : List UInt8))) else some false) = some (if neg = true ∨ s.size ≠ 0 then false else decide p) := fun p _ => by
      rw [e0]
      cases neg <;> by_cases c : s.size = 0 <;> by_cases d : p <;> simp [c, d]
    have res : ∀ b, b = decide (f0 = 1 ∨ f0 = 2) → spec_l2kidsOk.j0 (k + 5) f0 b f0 neg s f3 = some (if neg = true ∨ s.size ≠ 0 then false else if f0 = 1 ∨ f0 = 2 then decide (f3.length = 0) else if f0 = 3 ∨ f0 = 4 then decide (2 ≤ f3.length) else if f0 = 5 ∨ f0 = 6 ∨ f0 = 7 then decide (f3.length = 1) else false) := fun b hb => by
      simp only [spec_l2kidsOk.j0, spec_l2kidsOk.j1, fin, l0, l1, l2, hb]
      by_cases c1 : f0 = 1
      · subst c1; rfl
      by_cases c2 : f0 = 2
      · subst c2; rfl
      by_cases c3 : f0 = 3
      · subst c3; rfl
      by_cases c4 : f0 = 4
      · subst c4; rfl
      by_cases c5 : f0 = 5
      · subst c5; rfl
      by_cases c6 : f0 = 6
      · subst c6; rfl
      by_cases c7 : f0 = 7
      · subst c7; rfl
      simp [c1, c2, c3, c4, c5, c6, c7]
    by_cases c1 : f0 = 1
    · rw [if_pos c1, res _ (by rw [c1]; rfl)]
    · rw [if_neg c1, res _ (by by_cases c2 : f0 = 2 <;> simp [c1, c2])]
def cnts (n : Nat) (D : List Int) : List Int := (List.range n).map fun (j : Nat) => (D.count (j : Int) : Int)
theorem cnts_len (n : Nat) (D : List Int) : (cnts n D).length = n := by simp [cnts]
theorem cnts_nil (n : Nat) : cnts n [] = List.replicate n 0 := by
  apply List.ext_getElem
  · simp [cnts]
  · intro i h1 h2
    simp [cnts]
theorem cnts_rd (n : Nat) (D : List Int) (q : Int) (h0 : 0 ≤ q) (h1 : q < n) : rd (cnts n D) q = (D.count q : Int) := by
  unfold rd cnts
  obtain ⟨m, rfl⟩ := Int.eq_ofNat_of_zero_le h0
  have hm : m < n := by omega
  rw [List.getD_eq_getElem?_getD, Int.toNat_natCast, List.getElem?_map, List.getElem?_range hm]; rfl
theorem cnts_set (n : Nat) (D : List Int) (q : Int) (h0 : 0 ≤ q) (h1 : q < n) : (cnts n D).set q.toNat ((D.count q : Int) + 1) = cnts n (D ++ [q]) := by
  obtain ⟨m, rfl⟩ := Int.eq_ofNat_of_zero_le h0
  have hm : m < n := by omega
  apply List.ext_getElem
  · simp [cnts]
  · intro i h1 h2
    rw [List.getElem_set]
    have hi : i < n := by simpa [cnts] using h2
    by_cases c : ((m : Int)).toNat = i
    · have c' : m = i := by omega
      rw [if_pos c]
      subst c'
      simp [cnts, List.count_append]
    · have c' : ¬ (m : Int) = (i : Int) := by omega
      rw [if_neg c]
      simp [cnts, List.count_append, List.count_singleton, c']
def chkB (n : Nat) (D : List Int) : Bool := (List.range (n - 1)).all fun (j : Nat) => decide (D.count (j : Int) = 1)
def kidB (i : Nat) (q : Int) : Bool := decide (0 ≤ q) && decide (q < (i : Int))
def resB (l : List S49) : Nat → Nat → List Int → Bool
  | 0, _, D => chkB l.length D
  | d + 1, i, D => nodeB (nodeAt l i) && ((nodeAt l i).f3.all (kidB i) && resB l d (i + 1) (D ++ (nodeAt l i).f3))
def okB (l : List S49) : Bool := decide (1 ≤ l.length) && (decide (l.length ≤ 200) && resB l l.length 0 [])
theorem resB_twice (l : List S49) (j : Nat) (hj : j < l.length - 1) : ∀ (d i : Nat) (D : List Int), 2 ≤ D.count (j : Int) → resB l d i D = false
  | 0, _, D, h => by
    simp only [resB, chkB]
    rw [List.all_eq_false]
    exact ⟨j, List.mem_range.mpr hj, by simp; omega⟩
  | d + 1, i, D, h => by
    simp only [resB]
    rw [resB_twice l j hj d (i + 1) _ (by rw [List.count_append]; omega), Bool.and_false, Bool.and_false]
structure Fits (l : List S49) : Prop where
  kids : ∀ n, n < l.length → (nodeAt l n).f3.length ≤ 1048576
  set : ∀ n, n < l.length → (nodeAt l n).f2.size ≤ 1048576
end Go.Proofs.YtlakdfbfkbndiaaDoor.Q
namespace Go.Proofs.YtlakdfbfkbndiaaDoor.Q
open Go.RowKit Go.Proofs.YtlakdfbfkbndiaaDoor.Re Go.Proofs.YtlakdfbfkbndiaaDoorW.PrintWords Go.Proofs.YtlakdfbfkbndiaaDoorW.PrintLast Go.Proofs.YtlakdfbfkbndiaaDoorW.PrintMore
section
variable {l : List S49}
theorem between_eq (q a b : Int) : impl_between.f q a b = some (decide (a ≤ q) && decide (q ≤ b)) := by
  unfold impl_between.f
  by_cases h : q ≥ a
  · rw [if_pos h, decide_eq_true (show a ≤ q from h), Bool.true_and]
  · rw [if_neg h, decide_eq_false (show ¬ a ≤ q from h), Bool.false_and]
theorem drop_at (ks : List Int) (p : Nat) (hp : p < ks.length) : ks.drop p = rd ks (p : Int) :: ks.drop (p + 1) := by
  unfold rd
  rw [Int.toNat_natCast, List.drop_eq_getElem_cons hp, List.getD_eq_getElem?_getD, List.getElem?_eq_getElem hp]; rfl
theorem implOk_l1 (hl : l.length ≤ 200) (i : Nat) (hi : i < l.length) (ks : List Int) (hks : ks.length ≤ 1048576) : ∀ (e p : Nat), p + e = ks.length → ∀ (k : Nat) (D : List Int), D.length ≤ 1048576 * i + p →
    impl_ReOk.l1 (k + e + 1) l (cnts l.length D) (i : Int) l (l.length : Int) (i : Int) ks (ks.length : Int) (p : Int) =
      if (ks.drop p).all (kidB i) = true then impl_ReOk.l0 k l (cnts l.length (D ++ ks.drop p)) l (l.length : Int) ((i + 1 : Nat) : Int) else some false
  | 0, p, hp, k, D, hD => by
    have wi : wrap64 ((i : Int) + 1) = ((i + 1 : Nat) : Int) := by unfold wrap64; omega
    simp only [impl_ReOk.l1]
    rw [if_neg (by omega), wi, List.drop_eq_nil_of_le (by omega), List.append_nil]
    rfl
  | e + 1, p, hp, k, D, hD => by
    have hlt : p < ks.length := by omega
    have wp : wrap64 ((p : Int) + 1) = ((p + 1 : Nat) : Int) := by unfold wrap64; omega
    have wi : wrap64 ((i : Int) - 1) = (i : Int) - 1 := by unfold wrap64; omega
    have ih := implOk_l1 hl i hi ks hks e (p + 1) (by omega) k
    have e1 : k + (e + 1) + 1 = (k + e + 1) + 1 := rfl
    rw [e1]
    generalize k + e + 1 = K at ih ⊢
    simp only [impl_ReOk.l1]
    rw [if_pos (by omega), if_pos (by omega), if_pos (by omega), between_eq, Option.bind_some, wi, wp, drop_at ks p hlt]
    generalize rd ks (p : Int) = q
    by_cases hq : 0 ≤ q ∧ q < (i : Int)
    · have hb : (decide (0 ≤ q) && decide (q ≤ (i : Int) - 1)) = true := by rw [decide_eq_true hq.1, decide_eq_true (show q ≤ (i : Int) - 1 by omega)]; rfl
      have hk : kidB i q = true := by unfold kidB; rw [decide_eq_true hq.1, decide_eq_true hq.2]; rfl
      have hc : D.count q ≤ D.length := List.count_le_length
      have wc : wrap64 ((D.count q : Int) + 1) = (D.count q : Int) + 1 := by unfold wrap64; omega
      rw [hb, if_pos rfl, if_pos hq.1, if_pos (by rw [cnts_len]; omega), cnts_rd _ _ _ hq.1 (by omega), wc, cnts_set _ _ _ hq.1 (by omega),
        ih (D ++ [q]) (by rw [List.length_append, List.length_singleton]; omega), List.all_cons, hk, Bool.true_and, List.append_assoc]
      rfl
    · have hb : (decide (0 ≤ q) && decide (q ≤ (i : Int) - 1)) = false := by
        by_cases c : 0 ≤ q
        · rw [decide_eq_false (show ¬ q ≤ (i : Int) - 1 by omega), Bool.and_false]
        · rw [decide_eq_false c, Bool.false_and]
      have hk : kidB i q = false := by
        unfold kidB
        by_cases c : 0 ≤ q
        · rw [decide_eq_false (show ¬ q < (i : Int) by omega), Bool.and_false]
        · rw [decide_eq_false c, Bool.false_and]
      rw [hb, if_neg (by decide), List.all_cons, hk, Bool.false_and, if_neg (by decide)]
theorem rdn (l : List S49) (i : Nat) : rd_T49 l (i : Int) = nodeAt l i := rfl
theorem take_cnts (n : Nat) (D : List Int) : ((cnts n D).take (n - 1)).any (fun x => x != 1) = !chkB n D := by
  unfold cnts chkB
  rw [← List.map_take, List.any_map, List.take_range, show min (n - 1) n = n - 1 by omega, List.not_all_eq_any_not]
  refine congrArg (fun f => List.any (List.range (n - 1)) f) (funext fun j => ?_)
  show ((D.count (j : Int) : Int) != 1) = !decide (D.count (j : Int) = 1)
  by_cases c : D.count (j : Int) = 1
  · rw [c]; rfl
  · rw [decide_eq_false c]
    exact bne_iff_ne.mpr fun h => c (by omega)
theorem implOk_l0 (hF : Fits l) (h1 : 1 ≤ l.length) (hl : l.length ≤ 200) : ∀ (d i : Nat) (D : List Int), i + d = l.length → D.length ≤ 1048576 * i → Ev (fun k => impl_ReOk.l0 k l (cnts l.length D) l (l.length : Int) (i : Int)) (resB l d i D) := by
  intro d
  induction d with
  | zero =>
    intro i D hi hD
    refine Ev.succ (Ev.mk fun k => ?_)
    have wl : wrap64 ((l.length : Int) - 1) = ((l.length - 1 : Nat) : Int) := by unfold wrap64; omega
    simp only [impl_ReOk.l0]
    rw [if_neg (by omega), wl, if_pos (by omega), if_pos (by rw [cnts_len]; omega), Int.toNat_natCast]
    unfold slices_ContainsFunc_int_int.f
    rw [if_pos rfl, Option.bind_some, take_cnts, Bool.not_not]
    rfl
  | succ d ih =>
    intro i D hi hD
    have hlt : i < l.length := by omega
    have hks := hF.kids i hlt
    have hn := implNode_ev (nodeAt l i) (by have := hF.set i hlt; omega)
    refine Ev.succ (Ev.congr (Ev.bind hn (g := fun k t => if t = true then (impl_ReOk.l1 k l (cnts l.length D) (i : Int) l (l.length : Int) (i : Int) (nodeAt l i).f3 ((nodeAt l i).f3.length : Int) 0) else (some false)) ?_) (fun k => by
      simp only [impl_ReOk.l0]
      rw [if_pos (show (i : Int) < (l.length : Int) by omega), if_pos (Int.natCast_nonneg i), if_pos (show (i : Int) < (l.length : Int) by omega), rdn]))
    simp only [resB]
    cases nodeB (nodeAt l i) with
    | false => exact Ev.mk fun k => rfl
    | true =>
      rw [Bool.true_and]
      have hs : ∀ k, impl_ReOk.l1 (k + (nodeAt l i).f3.length + 1) l (cnts l.length D) (i : Int) l (l.length : Int) (i : Int) (nodeAt l i).f3 ((nodeAt l i).f3.length : Int) 0 = if (nodeAt l i).f3.all (kidB i) = true then impl_ReOk.l0 k l (cnts l.length (D ++ (nodeAt l i).f3)) l (l.length : Int) ((i + 1 : Nat) : Int) else some false := fun k =>
        implOk_l1 hl i hlt (nodeAt l i).f3 hks (nodeAt l i).f3.length 0 (by omega) k D (by omega)
      refine Ev.add ((nodeAt l i).f3.length + 1) (Ev.congr (f := fun k => if (nodeAt l i).f3.all (kidB i) = true then impl_ReOk.l0 k l (cnts l.length (D ++ (nodeAt l i).f3)) l (l.length : Int) ((i + 1 : Nat) : Int) else some false) ?_ (fun k => by
        show (if true = true then _ else _) = _
        rw [if_pos rfl, ← Nat.add_assoc]; exact hs k))
      cases c : (nodeAt l i).f3.all (kidB i) with
      | false => exact Ev.mk fun k => rfl
      | true =>
        rw [Bool.true_and]
        exact ih (i + 1) (D ++ (nodeAt l i).f3) (by omega) (by rw [List.length_append]; omega)
theorem implOk_ev (hF : Fits l) : Ev (fun k => impl_ReOk.f k l) (okB l) := by
  unfold okB
  by_cases h1 : 1 ≤ l.length
  · by_cases hl : l.length ≤ 200
    · rw [decide_eq_true h1, decide_eq_true hl, Bool.true_and, Bool.true_and]
      refine Ev.congr (implOk_l0 hF h1 hl l.length 0 [] (by omega) (by simp)) fun k => ?_
      unfold impl_ReOk.f
      rw [between_eq, Option.bind_some, decide_eq_true (show (1 : Int) ≤ (l.length : Int) by omega), decide_eq_true (show (l.length : Int) ≤ 200 by omega)]
      rw [Bool.true_and, if_pos rfl, if_pos (Int.natCast_nonneg _), Int.toNat_natCast, if_pos (by omega), cnts_nil]
      rfl
    · refine Ev.mk fun k => ?_
      show impl_ReOk.f k l = _
      unfold impl_ReOk.f
      rw [between_eq, Option.bind_some, decide_eq_false (show ¬ (l.length : Int) ≤ 200 by omega), Bool.and_false, if_neg (by decide), decide_eq_false hl, Bool.false_and, Bool.and_false]
  · refine Ev.mk fun k => ?_
    show impl_ReOk.f k l = _
    unfold impl_ReOk.f
    rw [between_eq, Option.bind_some, decide_eq_false (show ¬ (1 : Int) ≤ (l.length : Int) by omega), Bool.false_and, if_neg (by decide), decide_eq_false h1, Bool.false_and]
theorem specOk_l1 (hl : l.length ≤ 200) (i : Nat) (hi : i < l.length) (r : Bool) : ∀ (e p : Nat), p + e = (nodeAt l i).f3.length → (nodeAt l i).f3.length ≤ 1048576 → ∀ (D : List Int), D.length ≤ 1048576 * i + p →
    (((nodeAt l i).f3.drop p).all (kidB i) = true → Ev (fun k => spec_ReOk.l0 k l (cnts l.length (D ++ (nodeAt l i).f3.drop p)) ((i + 1 : Nat) : Int)) r) → (((nodeAt l i).f3.drop p).all (kidB i) = false → r = false) →
    (∀ q : Int, 0 ≤ q → q < (i : Int) → 2 ≤ (D ++ (nodeAt l i).f3.drop p).count q → r = false) →
    Ev (fun k => spec_ReOk.l1 k l (cnts l.length D) (i : Int) (p : Int)) r
  | 0, p, hp, hks, D, hD, hgo, hno, htw => by
    have wi : wrap64 ((i : Int) + 1) = ((i + 1 : Nat) : Int) := by unfold wrap64; omega
    rw [List.drop_eq_nil_of_le (by omega), List.append_nil] at hgo
    refine Ev.succ (Ev.congr (hgo rfl) fun k => ?_)
    simp only [spec_ReOk.l1]
    rw [if_pos (Int.natCast_nonneg i), if_pos (show (i : Int) < (l.length : Int) by omega), rdn, if_neg (by omega), wi]
  | e + 1, p, hp, hks, D, hD, hgo, hno, htw => by
    have hlt : p < (nodeAt l i).f3.length := by omega
    have wp : wrap64 ((p : Int) + 1) = ((p + 1 : Nat) : Int) := by unfold wrap64; omega
    have ih := specOk_l1 hl i hi r e (p + 1) (by omega) hks
    have hu : ∀ k, spec_ReOk.l1 (k + 1) l (cnts l.length D) (i : Int) (p : Int) = if rd (nodeAt l i).f3 (p : Int) < 0 then some false else if rd (nodeAt l i).f3 (p : Int) ≥ (i : Int) then some false else if 0 ≤ rd (nodeAt l i).f3 (p : Int) then (if rd (nodeAt l i).f3 (p : Int) < ((cnts l.length D).length : Int) then (if rd (cnts l.length D) (rd (nodeAt l i).f3 (p : Int)) > 0 then some false else spec_ReOk.l1 k l ((cnts l.length D).set (rd (nodeAt l i).f3 (p : Int)).toNat (wrap64 (rd (cnts l.length D) (rd (nodeAt l i).f3 (p : Int)) + 1))) (i : Int) ((p + 1 : Nat) : Int)) else none) else none := fun k => by
      conv => lhs; simp only [spec_ReOk.l1]
      rw [if_pos (Int.natCast_nonneg i), if_pos (show (i : Int) < (l.length : Int) by omega), rdn, if_pos (show (p : Int) < ((nodeAt l i).f3.length : Int) by omega), if_pos (Int.natCast_nonneg p), wp]
    rw [drop_at _ p hlt] at hgo hno htw
    generalize rd (nodeAt l i).f3 (p : Int) = q at hu hgo hno htw
    by_cases hq : 0 ≤ q ∧ q < (i : Int)
    · have hk : kidB i q = true := by unfold kidB; rw [decide_eq_true hq.1, decide_eq_true hq.2]; rfl
      have hc : D.count q ≤ D.length := List.count_le_length
      have wc : wrap64 ((D.count q : Int) + 1) = (D.count q : Int) + 1 := by unfold wrap64; omega
      rw [List.all_cons, hk, Bool.true_and] at hgo hno
      by_cases hz : (D.count q : Int) > 0
      · have hr : r = false := htw q hq.1 hq.2 (by rw [List.count_append, List.count_cons_self]; omega)
        refine Ev.succ (Ev.mk fun k => ?_)
        rw [hu k, if_neg (by omega), if_neg (by omega), if_pos hq.1, if_pos (by rw [cnts_len]; omega), cnts_rd _ _ _ hq.1 (by omega), if_pos hz, hr]
      · have happ : D ++ q :: (nodeAt l i).f3.drop (p + 1) = (D ++ [q]) ++ (nodeAt l i).f3.drop (p + 1) := by rw [List.append_assoc]; rfl
        rw [happ] at hgo htw
        refine Ev.succ (Ev.congr (ih (D ++ [q]) (by rw [List.length_append, List.length_singleton]; omega) hgo hno htw) fun k => ?_)
        rw [hu k, if_neg (by omega), if_neg (by omega), if_pos hq.1, if_pos (by rw [cnts_len]; omega), cnts_rd _ _ _ hq.1 (by omega), if_neg hz, wc, cnts_set _ _ _ hq.1 (by omega)]
    · have hk : kidB i q = false := by
        unfold kidB
        by_cases c : 0 ≤ q
        · rw [decide_eq_false (show ¬ q < (i : Int) by omega), Bool.and_false]
        · rw [decide_eq_false c, Bool.false_and]
      rw [List.all_cons, hk, Bool.false_and] at hno
      refine Ev.succ (Ev.mk fun k => ?_)
      rw [hu k, hno rfl]
      by_cases c : q < 0
      · rw [if_pos c]
      · rw [if_neg c, if_pos (by omega)]
theorem specOk_l2 (hl : l.length ≤ 200) (D : List Int) : ∀ (d j k : Nat), j + d = l.length - 1 → 1 ≤ l.length → d < k → spec_ReOk.l2 k l (cnts l.length D) (j : Int) = some ((List.range' j d).all fun (j : Nat) => decide (D.count (j : Int) = 1))
  | 0, j, 0, _, _, hk => absurd hk (by omega)
  | 0, j, k + 1, hj, h1, _ => by
    have wj : wrap64 ((j : Int) + 1) = ((j + 1 : Nat) : Int) := by unfold wrap64; omega
    simp only [spec_ReOk.l2]
    rw [wj, if_neg (by omega)]
    rfl
  | d + 1, j, 0, _, _, hk => absurd hk (by omega)
  | d + 1, j, k + 1, hj, h1, hk => by
    have wj : wrap64 ((j : Int) + 1) = ((j + 1 : Nat) : Int) := by unfold wrap64; omega
    simp only [spec_ReOk.l2]
    rw [wj, if_pos (by omega), if_pos (by omega), if_pos (by rw [cnts_len]; omega), cnts_rd _ _ _ (Int.natCast_nonneg j) (by omega), specOk_l2 hl D d (j + 1) k (by omega) h1 (by omega), List.range'_succ, List.all_cons]
    by_cases c : D.count (j : Int) = 1
    · rw [if_pos (by omega), decide_eq_true c, Bool.true_and]
    · rw [if_neg (by omega), decide_eq_false c, Bool.false_and]
theorem specOk_l0 (hF : Fits l) (h1 : 1 ≤ l.length) (hl : l.length ≤ 200) : ∀ (d i : Nat) (D : List Int), i + d = l.length → D.length ≤ 1048576 * i → Ev (fun k => spec_ReOk.l0 k l (cnts l.length D) (i : Int)) (resB l d i D) := by
  intro d
  induction d with
  | zero =>
    intro i D hi hD
    refine Ev.succ ⟨l.length + 1, fun k hk => ?_⟩
    show spec_ReOk.l0 (k + 1) l (cnts l.length D) (i : Int) = _
    have h2 := specOk_l2 hl D (l.length - 1) 0 k (by omega) h1 (by omega)
    conv => lhs; simp only [spec_ReOk.l0]
    rw [if_neg (by omega)]
    refine h2.trans ?_
    rw [← List.range_eq_range']; rfl
  | succ d ih =>
    intro i D hi hD
    have hlt : i < l.length := by omega
    have hks := hF.kids i hlt
    have hn := specNode_ev (nodeAt l i) (by have := hF.set i hlt; omega)
    refine Ev.succ (Ev.congr (Ev.bind hn (g := fun k t => if t = true then (spec_ReOk.l1 k l (cnts l.length D) (i : Int) 0) else (some false)) ?_) (fun k => by
      simp only [spec_ReOk.l0]
      rw [if_pos (show (i : Int) < (l.length : Int) by omega), if_pos (Int.natCast_nonneg i), rdn]))
    simp only [resB]
    cases nodeB (nodeAt l i) with
    | false => exact Ev.mk fun k => rfl
    | true =>
      rw [Bool.true_and]
      refine Ev.congr (f := fun k => spec_ReOk.l1 k l (cnts l.length D) (i : Int) 0) ?_ (fun k => if_pos rfl)
      refine specOk_l1 hl i hlt _ (nodeAt l i).f3.length 0 (by omega) hks D (by omega) ?_ ?_ ?_
      · intro hall
        rw [List.drop_zero] at hall ⊢
        rw [hall, Bool.true_and]
        exact ih (i + 1) (D ++ (nodeAt l i).f3) (by omega) (by rw [List.length_append]; omega)
      · intro hall
        rw [List.drop_zero] at hall
        rw [hall, Bool.false_and]
      · intro q h0 hq h2
        rw [List.drop_zero] at h2
        obtain ⟨m, rfl⟩ := Int.eq_ofNat_of_zero_le h0
        rw [resB_twice l m (by omega) d (i + 1) _ h2, Bool.and_false]
theorem specOk_ev (hF : Fits l) : Ev (fun k => spec_ReOk.f k l) (okB l) := by
  unfold okB
  by_cases h1 : 1 ≤ l.length
  · by_cases hl : l.length ≤ 200
    · rw [decide_eq_true h1, decide_eq_true hl, Bool.true_and, Bool.true_and]
      refine Ev.succ (Ev.congr (specOk_l0 hF h1 hl l.length 0 [] (by omega) (by simp)) fun k => ?_)
      unfold spec_ReOk.f
      rw [if_neg (by omega), decide_eq_false (show ¬ (l.length : Int) > 200 by omega)]
      simp only [spec_ReOk.j0]
      rw [if_neg (by decide), if_pos (Int.natCast_nonneg _), Int.toNat_natCast, if_pos (by omega), cnts_nil]
      rfl
    · refine Ev.succ (Ev.mk fun k => ?_)
      show spec_ReOk.f (k + 1) l = _
      unfold spec_ReOk.f
      rw [if_neg (by omega), decide_eq_true (show (l.length : Int) > 200 by omega), decide_eq_false hl, Bool.false_and, Bool.and_false]
      simp only [spec_ReOk.j0, if_true]
  · refine Ev.succ (Ev.mk fun k => ?_)
    show spec_ReOk.f (k + 1) l = _
    unfold spec_ReOk.f
    rw [if_pos (by omega), decide_eq_false h1, Bool.false_and]
    simp only [spec_ReOk.j0, if_true]
end
end Go.Proofs.YtlakdfbfkbndiaaDoor.Q
namespace Go.Proofs.YtlakdfbfkbndiaaDoor.Q
open Go.RowKit Go.Proofs.YtlakdfbfkbndiaaDoor.Re Go.Proofs.YtlakdfbfkbndiaaDoorW.PrintWords Go.Proofs.YtlakdfbfkbndiaaDoorW.PrintLast Go.Proofs.YtlakdfbfkbndiaaDoorW.PrintMore
def sumN (f : Nat → Nat) : Nat → Nat
  | 0 => 0
  | m + 1 => sumN f m + f m
def sumL (f : Int → Nat) : List Int → Nat
  | [] => 0
  | q :: r => f q + sumL f r
theorem sumL_append (f : Int → Nat) (B : List Int) : ∀ A, sumL f (A ++ B) = sumL f A + sumL f B
  | [] => by simp [sumL]
  | q :: A => by
    rw [List.cons_append]
    simp only [sumL]
    rw [sumL_append f B A]; omega
theorem sumN_add (f g : Nat → Nat) : ∀ m, sumN (fun j => f j + g j) m = sumN f m + sumN g m
  | 0 => rfl
  | m + 1 => by simp only [sumN]; rw [sumN_add f g m]; omega
theorem sumN_congr {f g : Nat → Nat} : ∀ m, (∀ j, j < m → f j = g j) → sumN f m = sumN g m
  | 0, _ => rfl
  | m + 1, h => by
    simp only [sumN]
    rw [sumN_congr m (fun j hj => h j (by omega)), h m (by omega)]
theorem sumN_none (f : Nat → Nat) (q : Nat) : ∀ m, m ≤ q → sumN (fun j => if j = q then f j else 0) m = 0
  | 0, _ => rfl
  | m + 1, h => by
    simp only [sumN]
    rw [sumN_none f q m (by omega), if_neg (by omega)]
theorem sumN_one (f : Nat → Nat) (q : Nat) : ∀ m, q < m → sumN (fun j => if j = q then f j else 0) m = f q
  | 0, h => absurd h (by omega)
  | m + 1, h => by
    simp only [sumN]
    by_cases c : q = m
    · subst c; rw [sumN_none f q q (Nat.le_refl _), if_pos rfl, Nat.zero_add]
    · rw [sumN_one f q m (by omega), if_neg (by omega), Nat.add_zero]
theorem sumL_count (f : Nat → Nat) (m : Nat) : ∀ D : List Int, (∀ q, q ∈ D → 0 ≤ q ∧ q < (m : Int)) → sumL (fun q => f q.toNat) D = sumN (fun j => D.count (j : Int) * f j) m
  | [], _ => by
    have : ∀ m, sumN (fun j => ([] : List Int).count (j : Int) * f j) m = 0 := fun m => by
      induction m with
      | zero => rfl
      | succ m ih => simp only [sumN]; rw [ih]; simp
    rw [this]; rfl
  | q :: D, h => by
    simp only [sumL]
    have hq := h q List.mem_cons_self
    rw [sumL_count f m D (fun q hq => h q (List.mem_cons_of_mem _ hq)), ← sumN_one f q.toNat m (by omega), Nat.add_comm, ← sumN_add]
    refine sumN_congr m fun j _ => ?_
    rw [List.count_cons]
    by_cases c : j = q.toNat
    · have : (q == (j : Int)) = true := beq_iff_eq.mpr (by omega)
      rw [if_pos c, this, if_pos rfl, Nat.add_mul, Nat.one_mul]
    · have : (q == (j : Int)) = false := beq_eq_false_iff_ne.mpr (by omega)
      rw [if_neg c, this]; simp
end Go.Proofs.YtlakdfbfkbndiaaDoor.Q
namespace Go.Proofs.YtlakdfbfkbndiaaDoor.Q
open Go.RowKit Go.Proofs.YtlakdfbfkbndiaaDoor.Re Go.Proofs.YtlakdfbfkbndiaaDoorW.PrintWords Go.Proofs.YtlakdfbfkbndiaaDoorW.PrintLast Go.Proofs.YtlakdfbfkbndiaaDoorW.PrintMore
section
variable {l : List S49}
def flatN (l : List S49) : Nat → List Int
  | 0 => []
  | m + 1 => flatN l m ++ (nodeAt l m).f3
theorem resB_all : ∀ (d i : Nat), i + d = l.length → resB l d i (flatN l i) = true → (∀ n, i ≤ n → n < l.length → nodeB (nodeAt l n) = true ∧ (nodeAt l n).f3.all (kidB n) = true) ∧ chkB l.length (flatN l l.length) = true
  | 0, i, hi, h => by
    have e : i = l.length := by omega
    subst e
    exact ⟨fun n h1 h2 => absurd h2 (by omega), h⟩
  | d + 1, i, hi, h => by
    simp only [resB, Bool.and_eq_true] at h
    obtain ⟨h1, h2, h3⟩ := h
    obtain ⟨g1, g2⟩ := resB_all d (i + 1) (by omega) h3
    refine ⟨fun n hn hn2 => ?_, g2⟩
    by_cases c : n = i
    · subst c; exact ⟨h1, h2⟩
    · exact g1 n (by omega) hn2
theorem okB_all (h : okB l = true) : (1 ≤ l.length ∧ l.length ≤ 200) ∧ (∀ n, n < l.length → nodeB (nodeAt l n) = true ∧ (nodeAt l n).f3.all (kidB n) = true) ∧ chkB l.length (flatN l l.length) = true := by
  unfold okB at h
  simp only [Bool.and_eq_true, decide_eq_true_eq] at h
  obtain ⟨g1, g2⟩ := resB_all l.length 0 (by omega) h.2.2
  exact ⟨⟨h.1, h.2.1⟩, fun n hn => g1 n (by omega) hn, g2⟩
theorem nodeB_told {x : S49} (h : nodeB x = true) : (0 ≤ x.f0 ∧ x.f0 ≤ 7) ∧ (5 ≤ x.f0 → x.f3.length = 1) ∧ (x.f0 = 3 → 2 ≤ x.f3.length) ∧ (x.f0 = 0 → x.f2.size % 2 = 0) := by
  unfold nodeB at h
  by_cases h0 : x.f0 = 0
  · rw [if_pos h0] at h
    by_cases c : x.f2.size % 2 = 0 ∧ x.f3.length = 0 ∧ ¬ (x.f2.size = 0 ∧ x.f1 = false)
    · exact ⟨⟨by omega, by omega⟩, fun _ => by omega, fun _ => by omega, fun _ => c.1⟩
    · rw [if_neg c] at h; cases h
  · rw [if_neg h0] at h
    by_cases c : x.f1 = true ∨ x.f2.size ≠ 0
    · rw [if_pos c] at h; cases h
    · rw [if_neg c] at h
      by_cases c1 : x.f0 = 1 ∨ x.f0 = 2
      · exact ⟨⟨by omega, by omega⟩, fun _ => by omega, fun _ => by omega, fun _ => by omega⟩
      · rw [if_neg c1] at h
        by_cases c2 : x.f0 = 3 ∨ x.f0 = 4
        · rw [if_pos c2, decide_eq_true_eq] at h
          exact ⟨⟨by omega, by omega⟩, fun _ => by omega, fun _ => h, fun _ => by omega⟩
        · rw [if_neg c2] at h
          by_cases c3 : x.f0 = 5 ∨ x.f0 = 6 ∨ x.f0 = 7
          · rw [if_pos c3, decide_eq_true_eq] at h
            exact ⟨⟨by omega, by omega⟩, fun _ => h, fun _ => by omega, fun _ => by omega⟩
          · rw [if_neg c3] at h; cases h
theorem kidB_told {n : Nat} {q : Int} {ks : List Int} (h : ks.all (kidB n) = true) (hq : q ∈ ks) : 0 ≤ q ∧ q < (n : Int) := by
  have := List.all_eq_true.mp h q hq
  unfold kidB at this
  simpa using this
theorem okB_valid (hF : Fits l) (h : okB l = true) : Valid l := by
  obtain ⟨⟨h1, h2⟩, h3, _⟩ := okB_all h
  refine ⟨h1, h2, fun n hn => (nodeB_told (h3 n hn).1).1, fun n hn k hk => kidB_told (h3 n hn).2 hk, fun n hn h5 => ?_, fun n hn hf => ?_, fun n hn hf => (nodeB_told (h3 n hn).1).2.2.2 hf, fun n hn => by have := hF.set n hn; omega⟩
  · exact List.length_eq_one_iff.mp ((nodeB_told (h3 n hn).1).2.1 h5)
  · intro e
    have := (nodeB_told (h3 n hn).1).2.2.1 hf
    rw [e] at this
    exact absurd this (by decide)
theorem okB_validB (hF : Fits l) (h : okB l = true) : validB l = true := by
  have hV := okB_valid hF h
  obtain ⟨_, h3, _⟩ := okB_all h
  unfold validB
  rw [decide_eq_true hV.pos, decide_eq_true hV.len, Bool.true_and, Bool.true_and, List.all_eq_true]
  intro n hn
  have hn := List.mem_range.mp hn
  obtain ⟨g1, g2, g3, g4⟩ := nodeB_told (h3 n hn).1
  unfold nodeOkB
  have hk : ((nodeAt l n).f3.all fun k => decide (0 ≤ k) && decide (k < (n : Int))) = true := (h3 n hn).2
  have ht := hV.txt n hn
  simp only [Bool.and_eq_true, Bool.or_eq_true, decide_eq_true_eq]
  refine ⟨g1.1, g1.2, hk, ?_, ?_, ?_, ht⟩
  · by_cases c : (nodeAt l n).f0 < 5
    · exact .inl c
    · exact .inr (g2 (by omega))
  · by_cases c : (nodeAt l n).f0 = 3
    · have := g3 c; exact .inr (by omega)
    · exact .inl c
  · by_cases c : (nodeAt l n).f0 = 0
    · exact .inr (g4 c)
    · exact .inl c
def cost (l : List S49) : Nat → Nat → Nat
  | 0, _ => 0
  | f + 1, n => 5 + sumL (fun q => cost l f q.toNat) (nodeAt l n).f3
theorem sumL_congr {f g : Int → Nat} : ∀ D : List Int, (∀ q, q ∈ D → f q = g q) → sumL f D = sumL g D
  | [], _ => rfl
  | q :: D, h => by
    simp only [sumL]
    rw [h q List.mem_cons_self, sumL_congr D fun q hq => h q (List.mem_cons_of_mem _ hq)]
theorem cost_fuel (hV : Valid l) : ∀ (f g n : Nat), n < l.length → n < f → n < g → cost l f n = cost l g n
  | 0, _, _, _, h, _ => absurd h (by omega)
  | _ + 1, 0, _, _, _, h => absurd h (by omega)
  | f + 1, g + 1, n, hn, hf, hg => by
    simp only [cost]
    rw [sumL_congr _ fun q hq => cost_fuel hV f g q.toNat (by have := hV.kid n hn q hq; omega) (by have := hV.kid n hn q hq; omega) (by have := hV.kid n hn q hq; omega)]
def Cheap (b : Nat → Nat → Nat → Nat → List Re.Way × Nat) (k c : Nat) : Prop := ∀ x y m, (b k x y m).1.length ≤ c ∧ (b k x y m).2 + 1 ≤ m + c
theorem bldSeq_cheap (b : Nat → Nat → Nat → Nat → List Re.Way × Nat) (c : Int → Nat) : ∀ (L : List Int), (∀ q, q ∈ L → Cheap b q.toNat (c q)) → ∀ x y m, (bldSeq b (L.map Int.toNat) x y m).1.length ≤ sumL c L ∧ (bldSeq b (L.map Int.toNat) x y m).2 ≤ m + sumL c L
  | [], _, x, y, m => ⟨Nat.zero_le _, Nat.le_add_right _ _⟩
  | [q], h, x, y, m => by
    have := h q (by simp) x y m
    simp only [List.map_cons, List.map_nil, bldSeq, sumL]
    omega
  | q :: q2 :: L, h, x, y, m => by
    have h1 := h q (by simp) x m (m + 1)
    have h2 := bldSeq_cheap b c (q2 :: L) (fun q hq => h q (List.mem_cons_of_mem _ hq)) m y (b q.toNat x m (m + 1)).2
    simp only [List.map_cons, bldSeq] at h2 ⊢
    rw [show sumL c (q :: q2 :: L) = c q + sumL c (q2 :: L) from rfl, List.length_append]
    omega
theorem bldAlt_cheap (b : Nat → Nat → Nat → Nat → List Re.Way × Nat) (c : Int → Nat) (x y : Nat) : ∀ (L : List Int), (∀ q, q ∈ L → Cheap b q.toNat (c q)) → ∀ m, (bldAlt b x y (L.map Int.toNat) m).1.length ≤ sumL c L ∧ (bldAlt b x y (L.map Int.toNat) m).2 ≤ m + sumL c L
  | [], _, m => ⟨Nat.zero_le _, Nat.le_add_right _ _⟩
  | q :: L, h, m => by
    have h1 := h q (by simp) x y m
    have h2 := bldAlt_cheap b c x y L (fun q hq => h q (List.mem_cons_of_mem _ hq)) (b q.toNat x y m).2
    simp only [List.map_cons, bldAlt, sumL, List.length_append]
    omega
theorem bld_cheap (hV : Valid l) (s : ByteArray) : ∀ (f n : Nat), n < l.length → n < f → Cheap (bld (patOf l s) f) n (cost l f n)
  | 0, _, _, h => absurd h (by omega)
  | f + 1, n, hn, hf => fun x y m => by
    have hk : ∀ q, q ∈ (nodeAt l n).f3 → Cheap (bld (patOf l s) f) q.toNat (cost l f q.toNat) := fun q hq => by
      have := hV.kid n hn q hq
      exact bld_cheap hV s f q.toNat (by omega) (by omega)
    simp only [bld, cost]
    by_cases h3 : (patOf l s).kd n < 3
    · rw [if_pos h3]
      simp only [List.length_singleton]
      omega
    rw [if_neg h3]
    by_cases h4 : (patOf l s).kd n = 3
    · rw [if_pos h4]
      have h := bldSeq_cheap (bld (patOf l s) f) (fun q => cost l f q.toNat) (nodeAt l n).f3 hk x y m
      have e : (patOf l s).ks n = (nodeAt l n).f3.map Int.toNat := rfl
      rw [e]
      omega
    rw [if_neg h4]
    by_cases h5 : (patOf l s).kd n = 4
    · rw [if_pos h5]
      have h := bldAlt_cheap (bld (patOf l s) f) (fun q => cost l f q.toNat) x y (nodeAt l n).f3 hk m
      have e : (patOf l s).ks n = (nodeAt l n).f3.map Int.toNat := rfl
      rw [e]
      omega
    rw [if_neg h5]
    have hkd : (patOf l s).kd n = (nodeAt l n).f0.toNat := rfl
    obtain ⟨q, hq⟩ := hV.one n hn (by omega)
    have e : ((patOf l s).ks n).headD 0 = q.toNat := by
      show ((nodeAt l n).f3.map Int.toNat).headD 0 = q.toNat
      rw [hq]; rfl
    have h := hk q (by rw [hq]; simp) m (m + 1) (m + 2)
    rw [e, hq]
    simp only [sumL, List.length_append, List.length_singleton]
    have i1 : (if (patOf l s).kd n = 5 ∨ (patOf l s).kd n = 6 then ([((m : Int) + 1, (m : Int), -1)] : List Re.Way) else []).length ≤ 1 := by split <;> simp
    have i2 : (if (patOf l s).kd n ≠ 6 then ([((x : Int), (y : Int), -1)] : List Re.Way) else []).length ≤ 1 := by split <;> simp
    omega
theorem cost_all (hV : Valid l) : ∀ m, m ≤ l.length → sumN (cost l l.length) m = 5 * m + sumL (fun q => cost l l.length q.toNat) (flatN l m)
  | 0, _ => rfl
  | m + 1, h => by
    simp only [sumN, flatN]
    rw [cost_all hV m (by omega), sumL_append]
    have e : cost l l.length m = 5 + sumL (fun q => cost l l.length q.toNat) (nodeAt l m).f3 := by
      rw [cost_fuel hV l.length (l.length + 1) m (by omega) (by omega) (by omega)]
      rfl
    omega
theorem flat_in (hV : Valid l) : ∀ m, m ≤ l.length → ∀ q, q ∈ flatN l m → 0 ≤ q ∧ q < ((l.length - 1 : Nat) : Int)
  | 0, _, q, h => absurd h (by simp [flatN])
  | m + 1, hm, q, h => by
    rcases List.mem_append.mp h with h1 | h1
    · exact flat_in hV m (by omega) q h1
    · have := hV.kid m (by omega) q h1
      omega
theorem cost_root (hF : Fits l) (h : okB l = true) : cost l l.length (l.length - 1) = 5 * l.length := by
  have hV := okB_valid hF h
  obtain ⟨_, _, hc⟩ := okB_all h
  have hp := hV.pos
  have h1 := cost_all hV l.length (Nat.le_refl _)
  have h2 := sumL_count (cost l l.length) (l.length - 1) (flatN l l.length) (flat_in hV l.length (Nat.le_refl _))
  have h3 : sumN (fun j => (flatN l l.length).count (j : Int) * cost l l.length j) (l.length - 1) = sumN (cost l l.length) (l.length - 1) := sumN_congr _ fun j hj => by
    unfold chkB at hc
    have := List.all_eq_true.mp hc j (List.mem_range.mpr hj)
    rw [decide_eq_true_eq] at this
    rw [this, Nat.one_mul]
  have h4 : sumN (cost l l.length) l.length = sumN (cost l l.length) (l.length - 1) + cost l l.length (l.length - 1) := by
    obtain ⟨m, hm⟩ : ∃ m, l.length = m + 1 := ⟨l.length - 1, by omega⟩
    generalize cost l l.length = f
    rw [hm]; rfl
  omega
theorem okB_ways (hF : Fits l) (h : okB l = true) : waysOkB l = true := by
  have hV := okB_valid hF h
  have hp := hV.pos
  have hl := hV.len
  have hc := bld_cheap hV ⟨#[]⟩ l.length (l.length - 1) (by omega) (by omega) 0 1 2
  rw [cost_root hF h] at hc
  unfold waysOkB
  have e : allWays l = bld (patOf l ⟨#[]⟩) l.length (l.length - 1) 0 1 2 := rfl
  rw [okB_validB hF h, Bool.true_and, e, decide_eq_true (show (bld (patOf l ⟨#[]⟩) l.length (l.length - 1) 0 1 2).1.length ≤ 1000000 by omega), decide_eq_true (show (bld (patOf l ⟨#[]⟩) l.length (l.length - 1) 0 1 2).2 ≤ 1000000 by omega)]
  rfl
end
end Go.Proofs.YtlakdfbfkbndiaaDoor.Q
namespace Go.Proofs.YtlakdfbfkbndiaaDoor.Q
open Go.RowKit Go.Proofs.YtlakdfbfkbndiaaDoor.Re Go.Proofs.YtlakdfbfkbndiaaDoorW.PrintWords Go.Proofs.YtlakdfbfkbndiaaDoorW.PrintLast Go.Proofs.YtlakdfbfkbndiaaDoorW.PrintMore
section
variable {l : List S49} {s : ByteArray} {E : List Re.Way} {N : Nat}
theorem rd_node (l : List S49) (z : Int) : rd_T49 l z = nodeAt l z.toNat := by unfold nodeAt rd_T49; rw [Int.toNat_natCast]
theorem ends_l1 (K0 : Nat) (hK0 : ∀ (x : S49) (c : Int), x.f2.size % 2 = 0 → x.f2.size ≤ 1099511627776 → ∀ k, K0 ≤ k → spec_l2in.f k x.f0 x.f1 x.f2 x.f3 c = some (inS x c)) (hV : Valid l) (hW : WaysIn l E N) (out : List Int) (t : Nat) (ht : t < s.size) (hs : s.size ≤ 500) (m : List Bool) (hm : m.length = N) : ∀ (d i : Nat), i + d = E.length → ∀ (k : Nat) (x : List Bool), x.length = N → K0 ≤ k →
    spec_l2ends.l1 (k + d + 1) l s out m (t : Int) x (i : Int) (E.map toE) (N : Int) = spec_l2ends.l0 k l s out (nextL l s t m (E.drop i) x) ((t + 1 : Nat) : Int) (E.map toE) (N : Int)
  | 0, i, hi, k, x, hx, hk => by
    simp only [spec_l2ends.l1]
    have wt : wrap64 ((t : Int) + 1) = ((t + 1 : Nat) : Int) := by unfold wrap64; omega
    rw [if_neg (by rw [List.length_map]; omega), List.drop_eq_nil_of_le (by omega), wt]
    rfl
  | d + 1, i, hi, k, x, hx, hk => by
    have hlt : i < E.length := by omega
    have hd : E.drop i = E.getD i (0, 0, 0) :: E.drop (i + 1) := by
      rw [List.drop_eq_getElem_cons hlt, List.getD_eq_getElem?_getD, List.getElem?_eq_getElem hlt]; rfl
    have hmem : E.getD i (0, 0, 0) ∈ E := by
      rw [List.getD_eq_getElem?_getD, List.getElem?_eq_getElem hlt]; exact List.getElem_mem hlt
    have hr := rd_toE E i hlt
    generalize E.getD i (0, 0, 0) = e at hd hmem hr
    obtain ⟨a0, a1, b0, b1⟩ := hW.lo e hmem
    obtain ⟨n1, n2⟩ := hW.node e hmem
    have hlen := hW.len
    have wi : wrap64 ((i : Int) + 1) = ((i + 1 : Nat) : Int) := by clear n1 n2 hd hmem hr; unfold wrap64; omega
    have q1 : (i : Int) < ((E.map toE).length : Int) := by rw [List.length_map]; exact Int.ofNat_lt.mpr hlt
    have q2 : (0 : Int) ≤ (i : Int) := Int.natCast_nonneg i
    have q3 : e.1 < (m.length : Int) := by rw [hm]; exact a1
    have q4 : e.2.1 < (x.length : Int) := by rw [hx]; exact b1
    have q5 : (0 : Int) ≤ (t : Int) := Int.natCast_nonneg t
    have q6 : (t : Int) < (s.size : Int) := Int.ofNat_lt.mpr ht
    clear hlen
    have ih := fun (x : List Bool) (hx : x.length = N) => ends_l1 K0 hK0 hV hW out t ht hs m hm d (i + 1) (by omega) k x hx hk
    have e1 : k + (d + 1) + 1 = (k + d + 1) + 1 := rfl
    have hk2 : K0 ≤ k + d + 1 := Nat.le_trans hk (by rw [Nat.add_assoc]; exact Nat.le_add_right _ _)
    rw [e1]
    generalize k + d + 1 = K at ih hk2 ⊢
    simp only [spec_l2ends.l1]
    have hf : (rd_T85 (E.map toE) (i : Int)).f0 = e.1 ∧ (rd_T85 (E.map toE) (i : Int)).f1 = e.2.1 ∧ (rd_T85 (E.map toE) (i : Int)).f2 = e.2.2 := by rw [hr]; exact ⟨rfl, rfl, rfl⟩
    rw [hf.1, hf.2.1, hf.2.2, if_pos q1, if_pos q2, if_pos a0, if_pos q3, rdOf_get m e.1 a0, wi, hd]
    simp only [nextL]
    by_cases c0 : m.getD e.1.toNat false = true
    · rw [if_pos c0, c0, Bool.true_and]
      by_cases c1 : e.2.2 ≥ 0
      · rw [if_pos c1, if_pos c1, if_pos n1, rd_node]
        by_cases c2 : (nodeAt l e.2.2.toNat).f0 = 0
        · have hnl : e.2.2.toNat < l.length := by omega
          rw [if_pos c2, if_pos q5, if_pos q6, hK0 (nodeAt l e.2.2.toNat) (bt s t) (hV.even _ hnl c2) (hV.txt _ hnl) K hk2, Option.bind_some]
          have hsb : setB l s e t = inS (nodeAt l e.2.2.toNat) (bt s t) := by
            unfold setB
            rw [decide_eq_true c1, decide_eq_true c2]; rfl
          rw [hsb]
          cases c3 : inS (nodeAt l e.2.2.toNat) (bt s t) with
          | true =>
            rw [if_pos rfl, if_pos rfl, if_pos b0, if_pos q4]
            exact ih _ (by rw [List.length_set]; exact hx)
          | false =>
            rw [if_neg (by decide), if_neg (by decide)]
            exact ih _ hx
        · rw [if_neg c2]
          have hsb : setB l s e t = false := by
            unfold setB
            rw [decide_eq_false c2]; simp
          rw [hsb, if_neg (by decide)]
          exact ih _ hx
      · rw [if_neg c1]
        have hsb : setB l s e t = false := by
          unfold setB
          rw [decide_eq_false c1]; rfl
        rw [hsb, if_neg (by decide)]
        exact ih _ hx
    · rw [if_neg c0]
      have c0 : m.getD e.1.toNat false = false := by simpa using c0
      rw [c0, Bool.false_and, if_neg (by decide)]
      exact ih _ hx
theorem stp_iff (hW : WaysIn l E N) {e : Re.Way} (he : e ∈ E) (i j : Nat) : stp (patOf l s) e i j ↔ (epsB l s e i = true ∧ j = i) ∨ (setB l s e i = true ∧ i < s.size ∧ j = i + 1) := by
  obtain ⟨n1, n2⟩ := hW.node e he
  unfold stp epsB setB
  by_cases c : e.2.2 < 0
  · rw [if_pos c, decide_eq_true c, decide_eq_false (show ¬ (0 ≤ e.2.2) by omega)]
    simp [eq_comm]
  · rw [if_neg c, decide_eq_false c, decide_eq_true (show 0 ≤ e.2.2 by omega)]
    obtain ⟨k1, k2⟩ := n2 (by omega)
    show leafR (nodeAt l e.2.2.toNat) s i j ↔ _
    unfold leafR
    by_cases d0 : (nodeAt l e.2.2.toNat).f0 = 0
    · rw [if_pos d0, decide_eq_true d0, decide_eq_false (show ¬ (nodeAt l e.2.2.toNat).f0 = 1 by omega), decide_eq_false (show ¬ (nodeAt l e.2.2.toNat).f0 = 2 by omega)]
      simp
      constructor
      · rintro ⟨a, b, c⟩; exact ⟨b, a, c⟩
      · rintro ⟨a, b, c⟩; exact ⟨b, a, c⟩
    · rw [if_neg d0, decide_eq_false d0]
      by_cases d1 : (nodeAt l e.2.2.toNat).f0 = 1
      · rw [if_pos d1, decide_eq_true d1, decide_eq_false (show ¬ (nodeAt l e.2.2.toNat).f0 = 2 by omega)]
        simp
        omega
      · rw [if_neg d1, decide_eq_false d1, decide_eq_true (show (nodeAt l e.2.2.toNat).f0 = 2 by omega)]
        simp
theorem reach_ge (hW : WaysIn l E N) {i0 q j : Nat} (h : Re.Reach (patOf l s) E 0 i0 q j) : i0 ≤ j := by
  induction h with
  | base => exact Nat.le_refl _
  | step he _ hs ih =>
    rcases (stp_iff hW he _ _).mp hs with ⟨_, rfl⟩ | ⟨_, _, rfl⟩
    · exact ih
    · omega
theorem eps_reach (hW : WaysIn l E N) {i0 t : Nat} {m : List Bool} (h : ∀ q, m.getD q false = true → Re.Reach (patOf l s) E 0 i0 q t) {q : Nat} (g : Eps l s E t m q) : Re.Reach (patOf l s) E 0 i0 q t := by
  induction g with
  | base h1 => exact h _ h1
  | step he hb _ ih => exact .step he ih ((stp_iff hW he _ _).mpr (.inl ⟨hb, rfl⟩))
theorem first_inv (hW : WaysIn l E N) (i0 : Nat) (q : Nat) : Eps l s E i0 ((List.replicate N false).set 0 true) q ↔ Re.Reach (patOf l s) E 0 i0 q i0 := by
  have h2 := hW.two
  have hg : ∀ q, ((List.replicate N false).set 0 true).getD q false = true ↔ q = 0 := fun q => by
    rw [getD_set _ _ _ (by rw [List.length_replicate]; omega)]
    have : (List.replicate N false).getD q false = false := by
      rw [List.getD_eq_getElem?_getD, List.getElem?_replicate]
      split <;> rfl
    rw [this]
    simp
  constructor
  · exact eps_reach hW fun q hq => by rw [(hg q).mp hq]; exact .base
  · intro h
    have key : ∀ q j, Re.Reach (patOf l s) E 0 i0 q j → j = i0 → Eps l s E i0 ((List.replicate N false).set 0 true) q := fun q j h => by
      induction h with
      | base => exact fun _ => .base ((hg 0).mpr rfl)
      | step he hr hs ih =>
        rintro rfl
        rcases (stp_iff hW he _ _).mp hs with ⟨hb, rfl⟩ | ⟨_, _, e2⟩
        · exact .step he hb (ih rfl)
        · have := reach_ge hW hr
          omega
    exact key q i0 h rfl
theorem next_inv (hW : WaysIn l E N) {i0 t : Nat} (ht : i0 ≤ t) (hts : t < s.size) (m' : List Bool) (hinv : ∀ q, m'.getD q false = true ↔ Re.Reach (patOf l s) E 0 i0 q t) (q : Nat) :
    Eps l s E (t + 1) (nextL l s t m' E (List.replicate N false)) q ↔ Re.Reach (patOf l s) E 0 i0 q (t + 1) := by
  have hg := (nextL_spec (l := l) (s := s) (t := t) m' E (List.replicate N false) (fun e he => by rw [List.length_replicate]; have := hW.lo e he; omega)).2
  have hz : ∀ q, (List.replicate N false).getD q false = false := fun q => by
    rw [List.getD_eq_getElem?_getD, List.getElem?_replicate]
    split <;> rfl
  constructor
  · refine eps_reach hW fun q hq => ?_
    rcases (hg q).mp hq with h | ⟨e, he, h1, h2, rfl⟩
    · rw [hz] at h; cases h
    · exact .step he ((hinv _).mp h1) ((stp_iff hW he _ _).mpr (.inr ⟨h2, hts, rfl⟩))
  · intro h
    have key : ∀ q j, Re.Reach (patOf l s) E 0 i0 q j → j = t + 1 → Eps l s E (t + 1) (nextL l s t m' E (List.replicate N false)) q := fun q j h => by
      induction h with
      | base => intro e; omega
      | step he hr hs ih =>
        rintro rfl
        rcases (stp_iff hW he _ _).mp hs with ⟨hb, e2⟩ | ⟨hb, _, e2⟩
        · subst e2; exact .step he hb (ih rfl)
        · obtain rfl := Nat.succ.inj e2
          exact .base ((hg _).mpr (.inr ⟨_, he, (hinv _).mpr hr, hb, rfl⟩))
    exact key q (t + 1) h rfl
theorem nats_snoc1 (L : List Nat) (x : Nat) : nats (L ++ [x]) = nats L ++ [(x : Int)] := by unfold nats; simp
theorem ends_l0 (k : Nat) (out : List Int) (m : List Bool) (t : Int) (E' : List S85) (n : Int) (hm : 1 < m.length) (ho : out.length < 17592186044416) :
    spec_l2ends.l0 (k + 1) l s out m t E' n = (spec_l2close.l0 k l s t m true E' n).bind fun m' => spec_l2ends.j1 k l s (if rdOf false m' 1 = true then out ++ [t] else out) m' t E' n := by
  simp only [spec_l2ends.l0, spec_l2close.f]
  refine congrArg _ (funext fun m' => ?_)
  rw [if_pos (show (1 : Int) < (m.length : Int) by omega)]
  by_cases c : rdOf false m' 1 = true
  · rw [if_pos c, if_pos c, if_pos ho]
  · rw [if_neg c, if_neg c]
theorem run_ev (hV : Valid l) (hW : WaysIn l E N) (hs : s.size ≤ 500) (i0 : Nat) (R : Nat → Prop) (hR : R = Re.Reach (patOf l s) E 0 i0 1) : ∀ (d t : Nat), t + d = s.size → i0 ≤ t → ∀ (m : List Bool), m.length = N → (∀ q, Eps l s E t m q ↔ Re.Reach (patOf l s) E 0 i0 q t) →
    Ev (fun k => spec_l2ends.l0 k l s (nats (upto R t)) m (t : Int) (E.map toE) (N : Int)) (nats (upto R (s.size + 1))) := by
  have h2 := hW.two
  have hcnt := hW.cnt
  have key : ∀ (t : Nat), t ≤ s.size → ∀ (m : List Bool), m.length = N → (∀ q, Eps l s E t m q ↔ Re.Reach (patOf l s) E 0 i0 q t) → (∀ m' : List Bool, m'.length = N → (∀ q, m'.getD q false = true ↔ Re.Reach (patOf l s) E 0 i0 q t) → Ev (fun k => spec_l2ends.j1 k l s (nats (upto R (t + 1))) m' (t : Int) (E.map toE) (N : Int)) (nats (upto R (s.size + 1)))) →
      Ev (fun k => spec_l2ends.l0 k l s (nats (upto R t)) m (t : Int) (E.map toE) (N : Int)) (nats (upto R (s.size + 1))) := by
    intro t hts m hm hinv hj
    obtain ⟨m', h1, h3, h4⟩ := close_ev hW hs t (falses m) m (Nat.le_refl _) hm
    have hinv' : ∀ q, m'.getD q false = true ↔ Re.Reach (patOf l s) E 0 i0 q t := fun q => (h3 q).trans (hinv q)
    have hlen : (nats (upto R t)).length < 17592186044416 := by
      have := upto_len R t
      rw [nats_len]
      omega
    refine Ev.succ (Ev.congr (Ev.bind h4 (g := fun k m' => spec_l2ends.j1 k l s (if rdOf false m' 1 = true then nats (upto R t) ++ [(t : Int)] else nats (upto R t)) m' (t : Int) (E.map toE) (N : Int)) ?_) (fun k => ends_l0 k _ m (t : Int) _ _ (by omega) hlen))
    refine Ev.congr (hj m' h1 hinv') fun k => ?_
    have e : (if rdOf false m' 1 = true then nats (upto R t) ++ [(t : Int)] else nats (upto R t)) = nats (upto R (t + 1)) := by
      rw [rdOf_get m' 1 (by decide)]
      by_cases c : m'.getD (1 : Int).toNat false = true
      · rw [if_pos c, upto_succ_pos R t (by rw [hR]; exact (hinv' 1).mp c), nats_snoc1]
      · rw [if_neg c, upto_succ_neg R t (by rw [hR]; exact fun h => c ((hinv' 1).mpr h))]
    show spec_l2ends.j1 k l s (if rdOf false m' 1 = true then nats (upto R t) ++ [(t : Int)] else nats (upto R t)) m' (t : Int) (E.map toE) (N : Int) = _
    rw [e]
  obtain ⟨K0, hK0⟩ : ∃ K0, ∀ (x : S49) (c : Int), x.f2.size % 2 = 0 → x.f2.size ≤ 1099511627776 → ∀ k, K0 ≤ k → spec_l2in.f k x.f0 x.f1 x.f2 x.f3 c = some (inS x c) := ⟨_, fun x c he hs k hk => l2in_eq x c he hs k hk⟩
  intro d
  induction d with
  | zero =>
    intro t ht hit m hm hinv
    refine key t (by omega) m hm hinv fun m' _ _ => Ev.succ (Ev.mk fun k => ?_)
    simp only [spec_l2ends.j1]
    rw [if_pos (by omega), show t + 1 = s.size + 1 by omega]
  | succ d ih =>
    intro t ht hit m hm hinv
    refine key t (by omega) m hm hinv fun m' hm' hinv' => ?_
    have hrep : (List.replicate N false).length = N := List.length_replicate
    have hnx := (nextL_spec (l := l) (s := s) (t := t) m' E (List.replicate N false) (fun e he => by rw [hrep]; have := hW.lo e he; omega)).1
    obtain ⟨K, hK⟩ := ih (t + 1) (by omega) (by omega) (nextL l s t m' E (List.replicate N false)) (by rw [hnx, hrep]) (next_inv hW hit (by omega) m' hinv')
    refine Ev.succ ⟨K + K0 + (E.length + 1), fun k hk => ?_⟩
    obtain ⟨j, rfl⟩ : ∃ j, k = j + E.length + 1 := ⟨k - (E.length + 1), by omega⟩
    have h1 := ends_l1 K0 hK0 hV hW (nats (upto R (t + 1))) t (by omega) hs m' hm' E.length 0 (by omega) j (List.replicate N false) hrep (by omega)
    rw [List.drop_zero] at h1
    have h3 := hK j (by omega)
    generalize j + E.length + 1 = k at h1
    show spec_l2ends.j1 (k + 1) l s (nats (upto R (t + 1))) m' (t : Int) (E.map toE) (N : Int) = _
    simp only [spec_l2ends.j1]
    rw [if_neg (show ¬ (t : Int) = (s.size : Int) by omega), if_pos (Int.natCast_nonneg N), Int.toNat_natCast, if_pos (by omega)]
    exact h1.trans h3
theorem ends_ev (hV : Valid l) (hW : WaysIn l E N) (hs : s.size ≤ 500) (i0 : Nat) (hi : i0 ≤ s.size) :
    Ev (fun k => spec_l2ends.f k (E.map toE) (N : Int) l s (i0 : Int)) (nats (upto (Re.Reach (patOf l s) E 0 i0 1) (s.size + 1))) := by
  have h2 := hW.two
  have hcnt := hW.cnt
  have h := run_ev hV hW hs i0 _ rfl (s.size - i0) i0 (by omega) (Nat.le_refl _) ((List.replicate N false).set 0 true) (by rw [List.length_set, List.length_replicate]) (first_inv hW i0)
  have e : upto (Re.Reach (patOf l s) E 0 i0 1) i0 = [] := by
    have := upto_gap (Re.Reach (patOf l s) E 0 i0 1) 0 i0 (fun j _ hj hr => by have := reach_ge hW hr; omega)
    rwa [Nat.zero_add] at this
  rw [e] at h
  refine Ev.congr h fun k => ?_
  unfold spec_l2ends.f
  rw [if_pos (Int.natCast_nonneg N), Int.toNat_natCast, if_pos (by omega), Option.bind_some, if_pos (by rw [List.length_replicate]; omega)]
  rfl
theorem bld_nodes (P : Pat) (n0 : Nat) (hw : WF P n0) : ∀ (f n : Nat), n < n0 → ∀ a c m e, e ∈ (bld P f n a c m).1 → e.2.2 = -1 ∨ ∃ q : Nat, e.2.2 = (q : Int) ∧ q ≤ n ∧ P.kd q < 3
  | 0, n, _, a, c, m, e, he => absurd he (by simp [bld])
  | f + 1, n, hn, a, c, m, e, he => by
    simp only [bld] at he
    have hk : ∀ k, k ∈ P.ks n → ∀ a c m e, e ∈ (bld P f k a c m).1 → e.2.2 = -1 ∨ ∃ q : Nat, e.2.2 = (q : Int) ∧ q ≤ n ∧ P.kd q < 3 := fun k hk a c m e he => by
      have hlt := hw.lt n hn k hk
      rcases bld_nodes P n0 hw f k (by omega) a c m e he with h | ⟨q, h1, h2, h3⟩
      · exact .inl h
      · exact .inr ⟨q, h1, by omega, h3⟩
    by_cases h3 : P.kd n < 3
    · rw [if_pos h3] at he
      have : e = ((a : Int), (c : Int), (n : Int)) := by simpa using he
      subst this
      exact .inr ⟨n, rfl, Nat.le_refl _, h3⟩
    · rw [if_neg h3] at he
      by_cases h4 : P.kd n = 3
      · rw [if_pos h4] at he
        have seq : ∀ (L : List Nat), (∀ k, k ∈ L → k ∈ P.ks n) → ∀ a c m, e ∈ (bldSeq (bld P f) L a c m).1 → e.2.2 = -1 ∨ ∃ q : Nat, e.2.2 = (q : Int) ∧ q ≤ n ∧ P.kd q < 3 := by
          intro L
          induction L with
          | nil => intro _ a c m he; simp [bldSeq] at he
          | cons k L ih =>
            intro hL a c m he
            cases L with
            | nil => exact hk k (hL k (by simp)) a c m e he
            | cons k2 L =>
              simp only [bldSeq] at he
              rcases List.mem_append.mp he with h | h
              · exact hk k (hL k (by simp)) _ _ _ e h
              · exact ih (fun k hk => hL k (List.mem_cons_of_mem _ hk)) _ _ _ h
        exact seq _ (fun _ h => h) _ _ _ he
      · rw [if_neg h4] at he
        by_cases h5 : P.kd n = 4
        · rw [if_pos h5] at he
          have alt : ∀ (L : List Nat), (∀ k, k ∈ L → k ∈ P.ks n) → ∀ m, e ∈ (bldAlt (bld P f) a c L m).1 → e.2.2 = -1 ∨ ∃ q : Nat, e.2.2 = (q : Int) ∧ q ≤ n ∧ P.kd q < 3 := by
            intro L
            induction L with
            | nil => intro _ m he; simp [bldAlt] at he
            | cons k L ih =>
              intro hL m he
              simp only [bldAlt] at he
              rcases List.mem_append.mp he with h | h
              · exact hk k (hL k (by simp)) _ _ _ e h
              · exact ih (fun k hk => hL k (List.mem_cons_of_mem _ hk)) _ h
          exact alt _ (fun _ h => h) _ he
        · rw [if_neg h5] at he
          obtain ⟨k, hks⟩ := hw.one n hn (by omega)
          have one : ∀ x y : Int, e ∈ ([(x, y, -1)] : List Re.Way) → e.2.2 = -1 := fun x y h => by
            have : e = (x, y, -1) := by simpa using h
            rw [this]
          rcases List.mem_append.mp he with he | he
          · rcases List.mem_append.mp he with he | he
            · rcases List.mem_append.mp he with he | he
              · rcases List.mem_append.mp he with he | he
                · exact .inl (one _ _ he)
                · rw [hks] at he
                  exact hk k (by rw [hks]; simp) _ _ _ e he
              · exact .inl (one _ _ he)
            · split at he
              · exact .inl (one _ _ he)
              · simp at he
          · split at he
            · exact .inl (one _ _ he)
            · simp at he
theorem ways_in (h : waysOk l) : WaysIn l (allWays l).1 (allWays l).2 := by
  obtain ⟨hV, h1, h2⟩ := h
  have hp := hV.pos
  obtain ⟨g1, g2⟩ := bld_fit (patOf l ⟨#[]⟩) l.length (l.length - 1) 0 1 2 (by omega) (by omega)
  refine ⟨fun e he => g2 e he, fun e he => ?_, h1, h2, g1⟩
  rcases bld_nodes (patOf l ⟨#[]⟩) l.length (hV.wf _) l.length (l.length - 1) (by omega) 0 1 2 e he with h | ⟨q, e1, e2, e3⟩
  · rw [h]
    exact ⟨by omega, fun h => absurd h (by decide)⟩
  · rw [e1]
    have hk := hV.kd q (by omega)
    have e3 : (nodeAt l q).f0.toNat < 3 := e3
    exact ⟨by omega, fun _ => by rw [Int.toNat_natCast]; omega⟩
theorem l2ends_ev (h : waysOk l) (hs : s.size ≤ 500) (i0 : Nat) (hi : i0 ≤ s.size) :
    Ev (fun k => spec_l2ends.f k ((allWays l).1.map toE) ((allWays l).2 : Int) l s (i0 : Int)) (nats (endsL l s i0)) := by
  have hV := h.1
  have h1 := ends_ev hV (ways_in h) hs i0 hi
  have e : upto (Re.Reach (patOf l s) (allWays l).1 0 i0 1) (s.size + 1) = endsL l s i0 := by
    unfold endsL
    refine upto_congr _ fun j _ => ?_
    unfold allWays meets
    rw [bld_same (patOf l ⟨#[]⟩) (patOf l s) rfl rfl]
    exact reach_iff (patOf l s) l.length (hV.wf s) (hV.full s) l.length (l.length - 1) (by have := hV.pos; omega) i0 j
  rw [e] at h1
  exact h1
end
end Go.Proofs.YtlakdfbfkbndiaaDoor.Q
namespace Go.Proofs.YtlakdfbfkbndiaaDoor.Q
open Go.RowKit Go.Proofs.YtlakdfbfkbndiaaDoor.Re Go.Proofs.YtlakdfbfkbndiaaDoorW.PrintWords Go.Proofs.YtlakdfbfkbndiaaDoorW.PrintLast Go.Proofs.YtlakdfbfkbndiaaDoorW.PrintMore
theorem okV_iff {l : List S49} (hF : Fits l) : okV l ↔ okB l = true := by
  obtain ⟨K, hK⟩ := implOk_ev hF
  exact (ok_one (hK K (Nat.le_refl _))).symm
theorem sure {l : List S49} (hF : Fits l) : sureL l := by
  obtain ⟨K, hK⟩ := implOk_ev hF
  exact ⟨⟨K, _, hK K (Nat.le_refl _)⟩, fun h => okB_valid hF ((okV_iff hF).mp h)⟩
def conv (x : S56) : S49 := ⟨x.f0, x.f1, x.f2, x.f3⟩
end Go.Proofs.YtlakdfbfkbndiaaDoor.Q
namespace Go.Proofs.YtlakdfbfkbndiaaDoor.Q
open Go.RowKit Go.Proofs.YtlakdfbfkbndiaaDoor.Re Go.Proofs.YtlakdfbfkbndiaaDoorW.PrintWords Go.Proofs.YtlakdfbfkbndiaaDoorW.PrintLast Go.Proofs.YtlakdfbfkbndiaaDoorW.PrintMore
section
variable (l0 : List S56)
theorem rd_conv (i : Nat) : nodeAt (l0.map conv) i = conv (rd_T56 l0 (i : Int)) := by
  unfold nodeAt rd_T49 rd_T56
  rw [List.getD_eq_getElem?_getD, List.getD_eq_getElem?_getD, List.getElem?_map]
  cases l0[((i : Int)).toNat]? <;> rfl
def Given (l0 : List S56) : Prop := l0.length ≤ 9223372036854775807 ∧ ∀ n, n < l0.length → (nodeAt (l0.map conv) n).f2.size ≤ 9223372036854775807 ∧ (nodeAt (l0.map conv) n).f3.length ≤ 9223372036854775807
theorem sz_node (x : S56) (a : Nat) (ha : a ≤ 1048576) (h2 : x.f2.size ≤ 9223372036854775807) (h3 : x.f3.length ≤ 9223372036854775807) :
    ∃ r : Int, laws_szReNode.f x.f0 x.f1 x.f2 x.f3 (a : Int) = some r ∧ (r < 0 ∨ ∃ m : Nat, r = (m : Int) ∧ m ≤ a ∧ x.f2.size ≤ 1048576 ∧ x.f3.length ≤ 1048576) := by
  unfold laws_szReNode.f laws_szIntS.f
  have w1 : wrap64 ((a : Int) - (x.f2.size : Int)) = (a : Int) - (x.f2.size : Int) := by unfold wrap64; omega
  rw [w1]
  by_cases c : (a : Int) - (x.f2.size : Int) < 0
  · rw [if_pos c]; exact ⟨-1, rfl, .inl (by decide)⟩
  · rw [if_neg c]
    have w2 : wrap64 ((a : Int) - (x.f2.size : Int) - (x.f3.length : Int)) = (a : Int) - (x.f2.size : Int) - (x.f3.length : Int) := by unfold wrap64; omega
    rw [w2]
    by_cases d : (a : Int) - (x.f2.size : Int) - (x.f3.length : Int) < 0
    · rw [if_pos d, Option.bind_some, if_pos (by decide)]; exact ⟨-1, rfl, .inl (by decide)⟩
    · rw [if_neg d, Option.bind_some, if_neg d]
      exact ⟨_, rfl, .inr ⟨a - x.f2.size - x.f3.length, by omega, by omega, by omega, by omega⟩⟩
theorem sz_l0 (hG : Given l0) : ∀ (d i a : Nat), i + d = l0.length → a ≤ 1048576 → ∃ r : Int, Ev (fun k => laws_szReNodeS.l0 k l0 (a : Int) (i : Int)) r ∧ (r < 0 ∨ ∀ n, i ≤ n → n < l0.length → (nodeAt (l0.map conv) n).f2.size ≤ 1048576 ∧ (nodeAt (l0.map conv) n).f3.length ≤ 1048576)
  | 0, i, a, hi, ha => by
    refine ⟨a, Ev.succ (Ev.mk fun k => ?_), .inr fun n h1 h2 => absurd h2 (by omega)⟩
    simp only [laws_szReNodeS.l0]
    rw [if_neg (by omega)]
  | d + 1, i, a, hi, ha => by
    have hlt : i < l0.length := by omega
    have hl := hG.1
    have wi : wrap64 ((i : Int) + 1) = ((i + 1 : Nat) : Int) := by unfold wrap64; omega
    obtain ⟨g2, g3⟩ := hG.2 i hlt
    rw [rd_conv] at g2 g3
    obtain ⟨r1, hr1, hc⟩ := sz_node (rd_T56 l0 (i : Int)) a ha g2 g3
    have hu : ∀ k, laws_szReNodeS.l0 (k + 1) l0 (a : Int) (i : Int) = if r1 < 0 then some (-1) else laws_szReNodeS.l0 k l0 r1 ((i + 1 : Nat) : Int) := fun k => by
      conv => lhs; simp only [laws_szReNodeS.l0]
      rw [if_pos (show (i : Int) < (l0.length : Int) by omega), if_pos (Int.natCast_nonneg i), hr1, Option.bind_some, wi]
    rcases hc with c | ⟨m, rfl, hm, s2, s3⟩
    · refine ⟨-1, Ev.succ (Ev.mk fun k => ?_), .inl (by decide)⟩
      rw [hu, if_pos c]
    · obtain ⟨r, h1, h2⟩ := sz_l0 hG d (i + 1) m (by omega) (by omega)
      refine ⟨r, Ev.succ (Ev.congr h1 fun k => by rw [hu, if_neg (by omega)]), ?_⟩
      rcases h2 with h2 | h2
      · exact .inl h2
      · refine .inr fun n n1 n2 => ?_
        by_cases c : n = i
        · subst c; rw [rd_conv]; exact ⟨s2, s3⟩
        · exact h2 n (by omega) n2
theorem sz_ev (hG : Given l0) : ∃ r : Int, Ev (fun k => laws_szReNodeS.f k l0 1048576) r ∧ (r < 0 ∨ (l0.length ≤ 1048576 ∧ Fits (l0.map conv))) := by
  have hl := hG.1
  have w1 : wrap64 (1048576 - (l0.length : Int)) = 1048576 - (l0.length : Int) := by unfold wrap64; omega
  by_cases c : (1048576 : Int) - (l0.length : Int) < 0
  · refine ⟨-1, Ev.mk fun k => ?_, .inl (by decide)⟩
    show laws_szReNodeS.f k l0 1048576 = _
    unfold laws_szReNodeS.f
    rw [w1, if_pos c]
  · obtain ⟨r, h1, h2⟩ := sz_l0 l0 hG l0.length 0 (1048576 - l0.length) (by omega) (by omega)
    refine ⟨r, Ev.congr h1 fun k => ?_, ?_⟩
    · unfold laws_szReNodeS.f
      rw [w1, if_neg c, show (1048576 : Int) - (l0.length : Int) = ((1048576 - l0.length : Nat) : Int) by omega]
      rfl
    · rcases h2 with h2 | h2
      · exact .inl h2
      · exact .inr ⟨by omega, ⟨fun n hn => (h2 n (Nat.zero_le _) (by rwa [List.length_map] at hn)).2, fun n hn => (h2 n (Nat.zero_le _) (by rwa [List.length_map] at hn)).1⟩⟩
end
end Go.Proofs.YtlakdfbfkbndiaaDoor.Q
namespace Go.Proofs.YtlakdfbfkbndiaaDoor.Q
open Go.RowKit Go.Proofs.YtlakdfbfkbndiaaDoor.Re Go.Proofs.YtlakdfbfkbndiaaDoorW.PrintWords Go.Proofs.YtlakdfbfkbndiaaDoorW.PrintLast Go.Proofs.YtlakdfbfkbndiaaDoorW.PrintMore
def half {α : Type} (z : α) (xs : List α) (i : Nat) : List α := xs.take i ++ List.replicate (xs.length - i) z
theorem half_len {α : Type} (z : α) (xs : List α) (i : Nat) (hi : i ≤ xs.length) : (half z xs i).length = xs.length := by
  unfold half
  rw [List.length_append, List.length_take, List.length_replicate]
  omega
theorem half_set {α : Type} (z : α) (xs : List α) (i : Nat) (hi : i < xs.length) : (half z xs i).set i (xs[i]'hi) = half z xs (i + 1) := by
  apply List.ext_getElem?
  intro j
  unfold half
  rw [List.getElem?_set]
  by_cases c : i = j
  · subst c
    rw [if_pos rfl, if_pos (by rw [List.length_append, List.length_take, List.length_replicate]; omega), List.getElem?_append_left (by rw [List.length_take]; omega), List.getElem?_take_of_lt (by omega), List.getElem?_eq_getElem hi]
  · rw [if_neg c]
    by_cases d : j < i
    · rw [List.getElem?_append_left (by rw [List.length_take]; omega), List.getElem?_append_left (by rw [List.length_take]; omega), List.getElem?_take_of_lt d, List.getElem?_take_of_lt (by omega)]
    · rw [List.getElem?_append_right (by rw [List.length_take]; omega), List.getElem?_append_right (by rw [List.length_take]; omega), List.length_take, List.length_take, List.getElem?_replicate, List.getElem?_replicate]
      by_cases e : j < xs.length
      · rw [if_pos (by omega), if_pos (by omega)]
      · rw [if_neg (by omega), if_neg (by omega)]
theorem half_zero {α : Type} (z : α) (xs : List α) : half z xs 0 = List.replicate xs.length z := by unfold half; simp
theorem half_all {α : Type} (z : α) (xs : List α) : half z xs xs.length = xs := by unfold half; simp
theorem toInts_l0 (ks : List Int) (hk : ks.length ≤ 1048576) : ∀ (d i k : Nat), i + d = ks.length → d < k → laws_toIntS.l0 k ks (half 0 ks i) (i : Int) = some ks
  | 0, i, 0, _, h => absurd h (by omega)
  | 0, i, k + 1, hi, _ => by
    have e : i = ks.length := by omega
    subst e
    simp only [laws_toIntS.l0]
    rw [if_neg (by omega), half_all]
  | d + 1, i, 0, _, h => absurd h (by omega)
  | d + 1, i, k + 1, hi, h => by
    have wi : wrap64 ((i : Int) + 1) = ((i + 1 : Nat) : Int) := by unfold wrap64; omega
    have hr : rd ks (i : Int) = ks[i]'(by omega) := by
      unfold rd
      rw [Int.toNat_natCast, List.getD_eq_getElem?_getD, List.getElem?_eq_getElem (by omega)]; rfl
    simp only [laws_toIntS.l0]
    rw [if_pos (by omega), if_pos (by omega), if_pos (by rw [half_len 0 ks i (by omega)]; omega), wi, Int.toNat_natCast, hr, half_set 0 ks i (by omega)]
    exact toInts_l0 ks hk d (i + 1) k (by omega) (by omega)
theorem toInts_ev (ks : List Int) (hk : ks.length ≤ 1048576) : ∀ k, 1048577 ≤ k → laws_toIntS.f k ks = some ks := fun k h => by
  unfold laws_toIntS.f
  rw [if_pos (Int.natCast_nonneg _), Int.toNat_natCast, if_pos (by omega), ← half_zero]
  exact toInts_l0 ks hk ks.length 0 k (by omega) (by omega)
end Go.Proofs.YtlakdfbfkbndiaaDoor.Q
namespace Go.Proofs.YtlakdfbfkbndiaaDoor.Q
open Go.RowKit Go.Proofs.YtlakdfbfkbndiaaDoor.Re Go.Proofs.YtlakdfbfkbndiaaDoorW.PrintWords Go.Proofs.YtlakdfbfkbndiaaDoorW.PrintLast Go.Proofs.YtlakdfbfkbndiaaDoorW.PrintMore
section
variable {l0 : List S56}
theorem toNodes_l0 (hl : l0.length ≤ 1048576) (hF : Fits (l0.map conv)) : ∀ (d i k : Nat), i + d = l0.length → 1048577 + d ≤ k → laws_toReNodeS.l0 k l0 (half z49 (l0.map conv) i) (i : Int) = some (l0.map conv)
  | 0, i, 0, _, h => absurd h (by omega)
  | 0, i, k + 1, hi, _ => by
    have e : i = (l0.map conv).length := by rw [List.length_map]; omega
    simp only [laws_toReNodeS.l0]
    rw [if_neg (by omega), e, half_all]
  | d + 1, i, 0, _, h => absurd h (by omega)
  | d + 1, i, k + 1, hi, h => by
    have hlt : i < (l0.map conv).length := by rw [List.length_map]; omega
    have wi : wrap64 ((i : Int) + 1) = ((i + 1 : Nat) : Int) := by unfold wrap64; omega
    have hk := hF.kids i hlt
    rw [rd_conv] at hk
    have hr : (l0.map conv)[i]'hlt = conv (rd_T56 l0 (i : Int)) := by
      rw [← rd_conv]
      unfold nodeAt rd_T49
      rw [Int.toNat_natCast, List.getD_eq_getElem?_getD, List.getElem?_eq_getElem hlt]; rfl
    have ht : laws_toIntS.f k (rd_T56 l0 (i : Int)).f3 = some (rd_T56 l0 (i : Int)).f3 := toInts_ev _ hk k (by omega)
    have ih := toNodes_l0 hl hF d (i + 1) k (by omega) (by omega)
    rw [← half_set _ _ i hlt, hr] at ih
    simp only [laws_toReNodeS.l0]
    unfold laws_toReNode.f
    rw [if_pos (by omega), if_pos (by omega), ht, Option.bind_some, Option.bind_some, if_pos (by rw [half_len _ _ i (by omega), List.length_map]; omega), wi, Int.toNat_natCast]
    exact ih
theorem toNodes_ev (hl : l0.length ≤ 1048576) (hF : Fits (l0.map conv)) : Ev (fun k => laws_toReNodeS.f k l0) (l0.map conv) := by
  refine ⟨2097154, fun k hk => ?_⟩
  show laws_toReNodeS.f k l0 = _
  unfold laws_toReNodeS.f
  have h := toNodes_l0 hl hF l0.length 0 k (by omega) (by omega)
  rw [half_zero, List.length_map] at h
  rw [if_pos (Int.natCast_nonneg _), Int.toNat_natCast, if_pos (by omega)]
  exact h
end
end Go.Proofs.YtlakdfbfkbndiaaDoor.Q
namespace Go.Proofs.YtlakdfbfkbndiaaDoor.Q
open Go.RowKit Go.Proofs.YtlakdfbfkbndiaaDoor.Re Go.Proofs.YtlakdfbfkbndiaaDoorW.PrintWords Go.Proofs.YtlakdfbfkbndiaaDoorW.PrintLast Go.Proofs.YtlakdfbfkbndiaaDoorW.PrintMore
theorem eqInts_l0 (ks : List Int) (hk : ks.length ≤ 1048576) : ∀ (d i k : Nat), i + d = ks.length → d < k → laws_eqIntS.l0 k ks ks (i : Int) = some true
  | 0, i, 0, _, h => absurd h (by omega)
  | 0, i, k + 1, hi, _ => by
    simp only [laws_eqIntS.l0]
    rw [if_neg (by omega)]
  | d + 1, i, 0, _, h => absurd h (by omega)
  | d + 1, i, k + 1, hi, h => by
    have wi : wrap64 ((i : Int) + 1) = ((i + 1 : Nat) : Int) := by unfold wrap64; omega
    simp only [laws_eqIntS.l0, if_true]
    rw [if_pos (by omega), if_pos (by omega), if_pos (by omega), wi]
    exact eqInts_l0 ks hk d (i + 1) k (by omega) (by omega)
end Go.Proofs.YtlakdfbfkbndiaaDoor.Q
namespace Go.Proofs.YtlakdfbfkbndiaaDoor.Q
open Go.RowKit Go.Proofs.YtlakdfbfkbndiaaDoor.Re Go.Proofs.YtlakdfbfkbndiaaDoorW.PrintWords Go.Proofs.YtlakdfbfkbndiaaDoorW.PrintLast Go.Proofs.YtlakdfbfkbndiaaDoorW.PrintMore
section
variable {l : List S49}
theorem eqNodes_l0 (hl : l.length ≤ 1048576) (hF : Fits l) : ∀ (d i k : Nat), i + d = l.length → 1048577 + d ≤ k → laws_eqReNodeS.l0 k l l (i : Int) = some true
  | 0, i, 0, _, h => absurd h (by omega)
  | 0, i, k + 1, hi, _ => by
    simp only [laws_eqReNodeS.l0]
    rw [if_neg (by omega)]
  | d + 1, i, 0, _, h => absurd h (by omega)
  | d + 1, i, k + 1, hi, h => by
    have wi : wrap64 ((i : Int) + 1) = ((i + 1 : Nat) : Int) := by unfold wrap64; omega
    have hk := hF.kids i (by omega)
    have he : ∀ x : S49, x.f3.length ≤ 1048576 → laws_eqReNode.f k x.f0 x.f1 x.f2 x.f3 x.f0 x.f1 x.f2 x.f3 = some true := fun x hx => by
      unfold laws_eqReNode.f laws_eqIntS.f
      rw [if_pos rfl, if_neg (by simp), if_pos rfl, if_pos rfl, show (0 : Int) = ((0 : Nat) : Int) from rfl, eqInts_l0 x.f3 hx x.f3.length 0 k (by omega) (by omega), Option.bind_some, if_pos rfl]
    simp only [laws_eqReNodeS.l0]
    rw [if_pos (by omega), if_pos (by omega), if_pos (by omega), rdn, he _ hk, Option.bind_some, if_pos rfl, wi]
    exact eqNodes_l0 hl hF d (i + 1) k (by omega) (by omega)
theorem eqNodes_ev (hl : l.length ≤ 1048576) (hF : Fits l) : Ev (fun k => laws_eqReNodeS.f k l l) true := by
  refine ⟨2097154, fun k hk => ?_⟩
  show laws_eqReNodeS.f k l l = _
  unfold laws_eqReNodeS.f
  rw [if_pos rfl]
  exact eqNodes_l0 hl hF l.length 0 k (by omega) (by omega)
end
end Go.Proofs.YtlakdfbfkbndiaaDoor.Q
namespace Go.Proofs.YtlakdfbfkbndiaaDoor.Pure
open Go Go.RowKit Go.Proofs.YtlakdfbfkbndiaaDoor.Q Go.Proofs.YtlakdfbfkbndiaaDoorW.PrintWords Go.Proofs.YtlakdfbfkbndiaaDoorW.PrintLast Go.Proofs.YtlakdfbfkbndiaaDoorW.PrintMore
def NodesOk (l0 : List S56) : Prop := ∀ a ∈ l0, okInt .i64 a.f0 ∧ okBool a.f1 ∧ okStr a.f2 ∧ (a.f3.length ≤ maxLen ∧ ∀ b_ ∈ a.f3, okInt .i64 b_)
theorem given (l0 : List S56) (h1 : l0.length ≤ maxLen) (h2 : NodesOk l0) : Given l0 := by
  refine ⟨h1, fun n hn => ?_⟩
  have e : nodeAt (l0.map conv) n = conv (l0[n]'hn) := by
    unfold nodeAt rd_T49
    rw [Int.toNat_natCast, List.getD_eq_getElem?_getD, List.getElem?_map, List.getElem?_eq_getElem hn]; rfl
  rw [e]
  obtain ⟨_, _, h3, h4, _⟩ := h2 _ (List.getElem_mem hn)
  exact ⟨h3, h4⟩
end Go.Proofs.YtlakdfbfkbndiaaDoor.Pure
namespace Go.Proofs.YtlakdfbfkbndiaaDoor.Q
open Go.RowKit Go.Proofs.YtlakdfbfkbndiaaDoor.Re Go.Proofs.YtlakdfbfkbndiaaDoorW.PrintWords Go.Proofs.YtlakdfbfkbndiaaDoorW.PrintLast Go.Proofs.YtlakdfbfkbndiaaDoorW.PrintMore
def cutB (o : ByteArray) : ByteArray := if o.size > 1000 then o.extract 0 1000 else o
theorem cutB_le (o : ByteArray) : (cutB o).size ≤ 1000 := by
  unfold cutB
  split
  · rw [ByteArray.size_extract]; omega
  · omega
theorem cutB_big (o : ByteArray) (h : 500 < o.size) : 500 < (cutB o).size := by
  unfold cutB
  split
  · rw [ByteArray.size_extract]; omega
  · exact h
theorem cutB_id (o : ByteArray) (h : o.size ≤ 1000) : cutB o = o := if_neg (by omega)
noncomputable def lastE (l : List S49) (s : ByteArray) (i : Nat) : Nat := (endsL l s i).getD ((endsL l s i).length - 1) 0
end Go.Proofs.YtlakdfbfkbndiaaDoor.Q
namespace Go.Proofs.YtlakdfbfkbndiaaDoor.Q
open Go.RowKit Go.Proofs.YtlakdfbfkbndiaaDoor.Re Go.Proofs.YtlakdfbfkbndiaaDoorW.PrintWords Go.Proofs.YtlakdfbfkbndiaaDoorW.PrintLast Go.Proofs.YtlakdfbfkbndiaaDoorW.PrintMore
section
variable (l : List S49) (s by_ : ByteArray)
noncomputable def runL : Nat → Nat → ByteArray → Nat → ByteArray × Nat
  | 0, _, out, n => (out, n)
  | g + 1, i, out, n => if i ≤ s.size then (if (endsL l s i).length = 0 then runL g (i + 1) (out ++ s.extract i (i + 1)) n
      else if lastE l s i = i then runL g (i + 1) (cutB ((out ++ by_) ++ s.extract i (i + 1))) (n + 1) else runL g (lastE l s i) (cutB (out ++ by_)) (n + 1)) else (out, n)
end
end Go.Proofs.YtlakdfbfkbndiaaDoor.Q
namespace Go.Proofs.YtlakdfbfkbndiaaDoor.Q
open Go.RowKit Go.Proofs.YtlakdfbfkbndiaaDoor.Re Go.Proofs.YtlakdfbfkbndiaaDoorW.PrintWords Go.Proofs.YtlakdfbfkbndiaaDoorW.PrintLast Go.Proofs.YtlakdfbfkbndiaaDoorW.PrintMore
section
variable (l : List S49) (s by_ : ByteArray)
variable {l s by_}
theorem lastE_mem (hV : Valid l) {i : Nat} (h : (endsL l s i).length ≠ 0) (hi : i ≤ s.size) : i ≤ lastE l s i ∧ lastE l s i ≤ s.size := by
  have hm : lastE l s i ∈ endsL l s i := by
    unfold lastE
    rw [List.getD_eq_getElem?_getD, List.getElem?_eq_getElem (by omega)]
    exact List.getElem_mem _
  have hx := mem_upto.mp hm
  have h2 := meets_fwd hV s (l.length - 1) (by have := hV.pos; omega) i (lastE l s i) hi hx.2
  have h1 := hx.1
  omega
theorem ext_one_size (i : Nat) : (s.extract i (i + 1)).size ≤ 1 := by rw [ByteArray.size_extract]; omega
theorem ext_end {i : Nat} (h : s.size ≤ i) : s.extract i (i + 1) = ByteArray.empty := by
  rw [ByteArray.extract_eq_empty_iff]; omega
theorem ext_over (i : Nat) : s.extract i (s.size + 1) = s.extract i s.size := by
  apply ByteArray.ext; simp
set_option maxRecDepth 10000 in
theorem sub_l0 (hW : waysOk l) (hV : Valid l) (hs : s.size ≤ 500) (hb : by_.size ≤ 1048576) : ∀ (g i : Nat) (out : ByteArray) (n : Nat), s.size + 2 ≤ g + i → i ≤ s.size + 1 → out.size ≤ 1000 + i → n ≤ i →
    Ev (fun k => spec_l2sub.l0 k l s by_ out (n : Int) (i : Int) ((allWays l).1.map toE) ((allWays l).2 : Int)) ((runL l s by_ g i out n).1, ((runL l s by_ g i out n).2 : Int))
  | 0, i, out, n, h1, h2, _, _ => absurd h1 (by omega)
  | g + 1, i, out, n, h1, h2, h3, h4 => by
    by_cases hi : i ≤ s.size
    case neg =>
      refine Ev.succ (Ev.mk fun k => ?_)
      simp only [spec_l2sub.l0, runL]
      rw [if_neg (by omega), if_neg hi]
    have wi : Aside0 (wrap64 ((i : Int) + 1) = ((i + 1 : Nat) : Int)) := ⟨by unfold wrap64; omega⟩
    have wn : Aside0 (wrap64 ((n : Int) + 1) = ((n + 1 : Nat) : Int)) := ⟨by unfold wrap64; omega⟩
    have hE := l2ends_ev hW hs i (by omega)
    have hlen : (endsL l s i).length ≤ 501 := by
      have := upto_len (meets l s (l.length - 1) i) (s.size + 1)
      unfold endsL
      omega
    have ho := ext_one_size (s := s) i
    have hoo : out.size + (s.extract i (i + 1)).size ≤ 9223372036854775807 := by omega
    have hob : out.size + by_.size ≤ 9223372036854775807 := by omega
    have hobs : (out ++ by_).size + (s.extract i (i + 1)).size ≤ 9223372036854775807 := by rw [ByteArray.size_append]; omega
    refine Ev.succ (Ev.congr (Ev.bind hE (g := fun k t => _) ?_) (fun k => by
      conv => lhs; simp only [spec_l2sub.l0]
      rw [if_pos (show (i : Int) ≤ (s.size : Int) by omega)]))
    rw [nats_len]
    conv => rhs; rw [runL]
    rw [if_pos hi]
    by_cases c : (endsL l s i).length = 0
    · rw [if_pos c]
      refine Ev.congr (sub_l0 hW hV hs hb g (i + 1) (out ++ s.extract i (i + 1)) n (by omega) (by omega) (by rw [ByteArray.size_append]; omega) (by omega)) fun k => ?_
      rw [if_pos (by omega), wi.out]
      by_cases hlt : i < s.size
      · rw [if_pos (by omega), if_pos (by omega), if_pos (by omega), if_pos (by omega), Int.toNat_natCast, Int.toNat_natCast, if_pos hoo]
      · rw [if_neg (by omega), ext_end (by omega), ByteArray.append_empty]
    · rw [if_neg c]
      obtain ⟨hx1, hx2⟩ := lastE_mem hV c hi
      have wl : Aside0 (wrap64 (((endsL l s i).length : Int) - 1) = (((endsL l s i).length - 1 : Nat) : Int)) := ⟨by unfold wrap64; omega⟩
      have hr : rd (nats (endsL l s i)) (((endsL l s i).length - 1 : Nat) : Int) = ((lastE l s i : Nat) : Int) := by
        unfold rd lastE
        rw [Int.toNat_natCast, nats_get _ _ (by omega)]
      generalize hxe : lastE l s i = x at hx1 hx2 hr
      have wx : Aside0 (wrap64 ((x : Int) + 1) = ((x + 1 : Nat) : Int)) := ⟨by unfold wrap64; omega⟩
      have hcut : ∀ (o : ByteArray) (m j : Nat) (R : ByteArray × Int), Ev (fun k => spec_l2sub.l0 k l s by_ (cutB o) (m : Int) (j : Int) ((allWays l).1.map toE) ((allWays l).2 : Int)) R →
          Ev (fun k => if (o.size : Int) > 1000 then (if 0 ≤ (1000 : Int) then (if (1000 : Int) ≤ (o.size : Int) then (spec_l2sub.l0 k l s by_ (o.extract 0 1000) (m : Int) (j : Int) ((allWays l).1.map toE) ((allWays l).2 : Int)) else none) else none) else (spec_l2sub.l0 k l s by_ o (m : Int) (j : Int) ((allWays l).1.map toE) ((allWays l).2 : Int))) R := by
        intro o m j R h
        refine Ev.congr h fun k => ?_
        by_cases cc : o.size > 1000
        · rw [if_pos (by omega), if_pos (by omega), if_pos (by omega), show cutB o = o.extract 0 1000 from if_pos cc]
        · rw [if_neg (by omega), cutB_id o (by omega)]
      by_cases hxi : x = i
      · rw [if_pos hxi]
        refine Ev.congr (hcut ((out ++ by_) ++ s.extract i (i + 1)) (n + 1) (i + 1) _ (sub_l0 hW hV hs hb g (i + 1) _ (n + 1) (by omega) (by omega) (by have := cutB_le ((out ++ by_) ++ s.extract i (i + 1)); omega) (by omega))) fun k => ?_
        rw [if_neg (show ¬ ((endsL l s i).length : Int) = 0 by omega), wl.out, if_pos (by omega), if_pos (by omega), if_pos hob, hr, wx.out, wi.out, wn.out, hxi, if_pos rfl]
        by_cases hlt : i < s.size
        · rw [if_pos (by omega), if_pos (by omega), if_pos (by omega), if_pos (by omega), Int.toNat_natCast, Int.toNat_natCast, if_pos hobs]; rfl
        · rw [if_neg (by omega), ext_end (by omega), ByteArray.append_empty]; rfl
      · rw [if_neg hxi]
        refine Ev.congr (hcut (out ++ by_) (n + 1) x _ (sub_l0 hW hV hs hb g x _ (n + 1) (by omega) (by omega) (by have := cutB_le (out ++ by_); omega) (by omega))) fun k => ?_
        rw [if_neg (show ¬ ((endsL l s i).length : Int) = 0 by omega), wl.out, if_pos (by omega), if_pos (by omega), if_pos hob, hr, wn.out, if_neg (by omega)]; rfl
theorem occV_over {h i : Nat} (hi : s.size < i) : occV l s h i = [] := by
  cases h with
  | zero => rfl
  | succ h => rw [occV, if_neg (by omega)]
theorem occV_none {h i : Nat} (hi : i ≤ s.size) (c : (endsL l s i).length = 0) : occV l s (h + 1) i = occV l s (h + 1) (i + 1) := by
  have e1 : s.size + 1 - i = (s.size - i) + 1 := by omega
  have e2 : findV l s (s.size + 1 - i) i = findV l s (s.size - i) (i + 1) := by rw [e1, findV, if_pos c]
  by_cases hlt : i + 1 ≤ s.size
  · rw [occV, occV, if_pos hi, if_pos hlt, e2, show s.size + 1 - (i + 1) = s.size - i by omega]
  · rw [occV_over (h := h + 1) (i := i + 1) (by omega), occV, if_pos hi, e2, show s.size - i = 0 by omega, findV, if_pos (by decide)]
theorem occV_some {h i : Nat} (hi : i ≤ s.size) (c : (endsL l s i).length ≠ 0) :
    occV l s (h + 1) i = ((i : Int), (lastE l s i : Int)) :: occV l s h (if lastE l s i = i then i + 1 else lastE l s i) := by
  have e1 : s.size + 1 - i = (s.size - i) + 1 := by omega
  have e2 : findV l s (s.size + 1 - i) i = ((i : Int), (lastE l s i : Int)) := by rw [e1, findV, if_neg c]; rfl
  rw [occV, if_pos hi, e2, if_neg (by dsimp only; omega)]
  dsimp only
  by_cases d : lastE l s i = i
  · rw [if_pos d, if_pos (by omega), d, Int.toNat_natCast]
  · rw [if_neg d, if_neg (by omega), Int.toNat_natCast]
theorem run_count (hV : Valid l) : ∀ (g i h : Nat) (out : ByteArray) (n : Nat), s.size + 2 ≤ g + i → s.size + 2 ≤ h + i → i ≤ s.size + 1 → (runL l s by_ g i out n).2 = n + (occV l s h i).length
  | 0, i, h, out, n, h1, _, h3 => absurd h1 (by omega)
  | g + 1, i, h, out, n, h1, h2, h3 => by
    by_cases hi : i ≤ s.size
    case neg => rw [runL, if_neg hi, occV_over (by omega)]; simp
    obtain ⟨h', rfl⟩ : ∃ m, h = m + 1 := ⟨h - 1, by omega⟩
    rw [runL, if_pos hi]
    by_cases c : (endsL l s i).length = 0
    · rw [if_pos c, occV_none hi c]
      exact run_count hV g (i + 1) (h' + 1) _ n (by omega) (by omega) (by omega)
    · obtain ⟨hx1, hx2⟩ := lastE_mem hV c hi
      rw [if_neg c, occV_some hi c, List.length_cons]
      by_cases d : lastE l s i = i
      · rw [if_pos d, if_pos d, run_count hV g (i + 1) h' _ (n + 1) (by omega) (by omega) (by omega)]; omega
      · rw [if_neg d, if_neg d, run_count hV g (lastE l s i) h' _ (n + 1) (by omega) (by omega) (by omega)]; omega
theorem run_big : ∀ (g i : Nat) (out : ByteArray) (n : Nat), 500 < out.size → 500 < (runL l s by_ g i out n).1.size
  | 0, _, _, _, h => h
  | g + 1, i, out, n, h => by
    rw [runL]
    by_cases hi : i ≤ s.size
    case neg => rw [if_neg hi]; exact h
    rw [if_pos hi]
    by_cases c : (endsL l s i).length = 0
    · rw [if_pos c]; exact run_big g _ _ _ (by rw [ByteArray.size_append]; omega)
    rw [if_neg c]
    by_cases d : lastE l s i = i
    · rw [if_pos d]; exact run_big g _ _ _ (cutB_big _ (by rw [ByteArray.size_append, ByteArray.size_append]; omega))
    · rw [if_neg d]; exact run_big g _ _ _ (cutB_big _ (by rw [ByteArray.size_append]; omega))
def fineR (s : ByteArray) : Option (ByteArray × Nat) → ByteArray → Prop
  | none, F => 500 < F.size
  | some r, F => (500 < F.size ∧ 500 < (r.1 ++ s.extract r.2 s.size).size) ∨ F = r.1 ++ s.extract r.2 s.size
theorem run_fine (hV : Valid l) (hs : s.size ≤ 500) : ∀ (g i h frm : Nat) (oi : ByteArray) (n : Nat), s.size + 2 ≤ g + i → s.size + 2 ≤ h + i → i ≤ s.size + 1 → frm ≤ i →
    fineR s (subL s by_ (occV l s h i) frm oi) (runL l s by_ g i (oi ++ s.extract frm i) n).1
  | 0, i, h, frm, oi, n, h1, _, h3, _ => absurd h1 (by omega)
  | g + 1, i, h, frm, oi, n, h1, h2, h3, h4 => by
    by_cases hi : i ≤ s.size
    case neg =>
      have e : i = s.size + 1 := by omega
      subst e
      rw [runL, if_neg hi, occV_over (by omega), ext_over]
      exact .inr rfl
    obtain ⟨h', rfl⟩ : ∃ m, h = m + 1 := ⟨h - 1, by omega⟩
    rw [runL, if_pos hi]
    by_cases c : (endsL l s i).length = 0
    · rw [if_pos c, occV_none hi c, ByteArray.append_assoc, ByteArray.extract_append_extract, show min frm i = frm by omega, show max i (i + 1) = i + 1 by omega]
      exact run_fine hV hs g (i + 1) (h' + 1) frm oi n (by omega) (by omega) (by omega) (by omega)
    · obtain ⟨hx1, hx2⟩ := lastE_mem hV c hi
      rw [if_neg c, occV_some hi c, subL]
      dsimp only
      rw [Int.toNat_natCast, Int.toNat_natCast]
      have eo : (oi ++ s.extract frm i) ++ by_ = oi ++ (s.extract frm i ++ by_) := ByteArray.append_assoc
      rw [eo]
      by_cases big : (oi ++ (s.extract frm i ++ by_)).size > 500
      · rw [if_pos big]
        by_cases d : lastE l s i = i
        · rw [if_pos d]; exact run_big g _ _ _ (cutB_big _ (by rw [ByteArray.size_append]; omega))
        · rw [if_neg d]; exact run_big g _ _ _ (cutB_big _ (by omega))
      · rw [if_neg big]
        have ho := ext_one_size (s := s) i
        by_cases d : lastE l s i = i
        · rw [if_pos d, if_pos d, cutB_id _ (by rw [ByteArray.size_append]; omega), d]
          exact run_fine hV hs g (i + 1) h' i _ (n + 1) (by omega) (by omega) (by omega) (by omega)
        · rw [if_neg d, if_neg d, cutB_id _ (by omega)]
          have e0 : s.extract (lastE l s i) (lastE l s i) = ByteArray.empty := by rw [ByteArray.extract_eq_empty_iff]; omega
          have := run_fine hV hs g (lastE l s i) h' (lastE l s i) (oi ++ (s.extract frm i ++ by_)) (n + 1) (by omega) (by omega) (by omega) (by omega)
          rw [e0, ByteArray.append_empty] at this
          exact this
theorem l2sub_ev (hF : Fits l) (hb : by_.size ≤ 1048576) : Ev (fun k => spec_l2sub.f k l s by_) (if okB l = true ∧ s.size ≤ 500 then ((runL l s by_ (s.size + 2) 0 ⟨#[]⟩ 0).1, ((runL l s by_ (s.size + 2) 0 ⟨#[]⟩ 0).2 : Int)) else (⟨#[]⟩, -1)) := by
  refine Ev.congr (Ev.bind (specOk_ev hF) (g := fun k t => if t = true then (spec_l2sub.j0 k l s by_ (decide ((s.size : Int) > 500))) else (spec_l2sub.j0 k l s by_ true)) ?_) (fun k => rfl)
  have hno : Ev (fun k => spec_l2sub.j0 k l s by_ true) (⟨#[]⟩, -1) := Ev.succ (Ev.mk fun k => by simp only [spec_l2sub.j0, if_true])
  by_cases c : okB l = true
  · rw [c]
    refine Ev.congr (f := fun k => spec_l2sub.j0 k l s by_ (decide ((s.size : Int) > 500))) ?_ (fun k => if_pos rfl)
    by_cases hs : s.size ≤ 500
    · rw [if_pos ⟨rfl, hs⟩, decide_eq_false (show ¬ (s.size : Int) > 500 by omega)]
      have hWB := okB_ways hF c
      refine Ev.succ (Ev.congr (sub_l0 (waysOkB_ok hWB) (okB_valid hF c) hs hb (s.size + 2) 0 ⟨#[]⟩ 0 (by omega) (by omega) (by show (0 : Nat) ≤ _; omega) (by omega)) fun k => ?_)
      simp only [spec_l2sub.j0]
      unfold spec_l2ways.f
      rw [if_neg (by decide), if_pos hWB, Option.bind_some]
      rfl
    · rw [if_neg (fun h => hs h.2), decide_eq_true (show (s.size : Int) > 500 by omega)]
      exact hno
  · rw [if_neg (fun h => c h.1)]
    exact Ev.congr hno fun k => if_neg c
noncomputable def countA (l : List S49) (s : ByteArray) : Int := if okB l = true ∧ s.size ≤ 500 then ((occV l s (s.size + 2) 0).length : Int) else -1
theorem specCount_ev (hF : Fits l) : Ev (fun k => spec_ReCount.f k l s) (countA l s) := by
  refine Ev.congr (Ev.bind (l2sub_ev (by_ := (⟨#[]⟩ : ByteArray)) hF (by decide)) (g := fun k t => some t.2) (Ev.mk fun k => congrArg some ?_)) (fun k => rfl)
  unfold countA
  by_cases c : okB l = true ∧ s.size ≤ 500
  · rw [if_pos c, if_pos c]
    dsimp only
    rw [run_count (okB_valid hF c.1) (s.size + 2) 0 (s.size + 2) _ 0 (by omega) (by omega) (by omega), Nat.zero_add]
  · rw [if_neg c, if_neg c]
noncomputable def subA (l : List S49) (s by_ : ByteArray) : ByteArray × Int := if okB l = true ∧ s.size ≤ 500 then subR s by_ (occV l s (s.size + 2) 0) else (⟨#[]⟩, -1)
theorem implSub_eq (hF : Fits l) (hb : by_.size ≤ 1048576) : impl_ReSub.f l s by_ = some (subA l s by_) := by
  unfold impl_ReSub.f subA
  rw [if_pos ⟨sure hF, hb⟩]
  by_cases c : okB l = true ∧ s.size ≤ 500
  · rw [if_pos c, if_pos ⟨(okV_iff hF).mpr c.1, c.2⟩]
  · rw [if_neg c, if_neg fun h => c ⟨(okV_iff hF).mp h.1, h.2⟩]
theorem empty_append' (x : ByteArray) : (⟨#[]⟩ : ByteArray) ++ x = x := by apply ByteArray.ext; simp
theorem specSub_ev (hF : Fits l) (hb : by_.size ≤ 1048576) : Ev (fun k => spec_ReSub.f k l s by_) (subA l s by_) := by
  by_cases big : by_.size > 500
  · refine Ev.congr (Ev.bind (specCount_ev (s := s) hF) (g := fun k t => if t = 0 then (some (s, 0)) else (some ((⟨#[]⟩ : ByteArray), (-1)))) (Ev.mk fun k => ?_)) (fun k => by
      unfold spec_ReSub.f
      rw [if_pos (by omega)])
    unfold countA subA
    by_cases c : okB l = true ∧ s.size ≤ 500
    · rw [if_pos c, if_pos c]
      unfold subR
      cases hL : occV l s (s.size + 2) 0 with
      | nil =>
        simp only [subL, List.length_nil, Int.natCast_zero, if_true]
        rw [ByteArray.extract_zero_size, empty_append', if_neg (by omega)]
      | cons x r =>
        simp only [subL]
        rw [if_neg (show ¬ (((x :: r).length : Nat) : Int) = 0 by rw [List.length_cons]; omega), if_pos (show ((⟨#[]⟩ : ByteArray) ++ (s.extract 0 x.1.toNat ++ by_)).size > 500 by rw [ByteArray.size_append, ByteArray.size_append]; omega)]
    · rw [if_neg c, if_neg c]
      exact if_neg (by decide)
  · refine Ev.congr (Ev.bind (l2sub_ev (s := s) hF hb) (g := fun k bt => if bt.2 < 0 then (some ((⟨#[]⟩ : ByteArray), (-1))) else (if (bt.1.size : Int) > 500 then (some ((⟨#[]⟩ : ByteArray), (-1))) else (some (bt.1, bt.2)))) (Ev.mk fun k => ?_)) (fun k => by
      unfold spec_ReSub.f
      rw [if_neg (by omega)])
    unfold subA
    by_cases c : okB l = true ∧ s.size ≤ 500
    · rw [if_pos c, if_pos c]
      have hV := okB_valid hF c.1
      have hf := run_fine (s := s) (by_ := by_) hV c.2 (s.size + 2) 0 (s.size + 2) 0 ⟨#[]⟩ 0 (by omega) (by omega) (by omega) (by omega)
      have hn := run_count (s := s) (by_ := by_) hV (s.size + 2) 0 (s.size + 2) ⟨#[]⟩ 0 (by omega) (by omega) (by omega)
      rw [Nat.zero_add] at hn
      have e0 : (⟨#[]⟩ : ByteArray) ++ s.extract 0 0 = ⟨#[]⟩ := by
        rw [empty_append']
        exact ByteArray.extract_eq_empty_iff.mpr (by omega)
      rw [e0] at hf
      dsimp only
      rw [if_neg (by omega), hn]
      generalize runL l s by_ (s.size + 2) 0 ⟨#[]⟩ 0 = rr at hf
      unfold subR
      generalize subL s by_ (occV l s (s.size + 2) 0) 0 ⟨#[]⟩ = r at hf
      cases r with
      | none => exact if_pos (by have h : 500 < rr.1.size := hf; omega)
      | some r =>
        obtain ⟨o', j⟩ := r
        dsimp only
        rcases hf with ⟨h1, h2⟩ | h
        · have h2' : (o' ++ s.extract j s.size).size > 500 := h2
          rw [if_pos h2', if_pos (by omega)]
        · have h' : rr.1 = o' ++ s.extract j s.size := h
          rw [h']
          by_cases d : (o' ++ s.extract j s.size).size > 500
          · rw [if_pos d, if_pos (by omega)]
          · rw [if_neg d, if_neg (by omega)]
    · rw [if_neg c, if_neg c]
      exact if_pos (by decide)
end
end Go.Proofs.YtlakdfbfkbndiaaDoor.Q
namespace Go.Proofs.YtlakdfbfkbndiaaDoor.Pure
open Go Go.RowKit Go.Proofs.YtlakdfbfkbndiaaDoor.Q Go.Proofs.YtlakdfbfkbndiaaDoorW.PrintWords Go.Proofs.YtlakdfbfkbndiaaDoorW.PrintLast Go.Proofs.YtlakdfbfkbndiaaDoorW.PrintMore
theorem FnExactReSub (l0 : List S56) (a1 a2 : ByteArray) (hm : l0.length ≤ maxLen) (hg : NodesOk l0) (_ : a1.size ≤ maxLen) (_ : a2.size ≤ maxLen) : ∃ k, laws_FnExactReSub.f k l0 a1 a2 = some true := by
  suffices h : Q.Ev (fun k => laws_FnExactReSub.f k l0 a1 a2) true by
    obtain ⟨K, hK⟩ := h
    exact ⟨K, hK K (Nat.le_refl _)⟩
  by_cases hs : (a1.size : Int) > 1048576
  · refine Q.Ev.mk fun k => ?_
    show laws_FnExactReSub.f k l0 a1 a2 = _
    unfold laws_FnExactReSub.f
    rw [if_pos hs]
  by_cases hs2 : (a2.size : Int) > 1048576
  · refine Q.Ev.mk fun k => ?_
    show laws_FnExactReSub.f k l0 a1 a2 = _
    unfold laws_FnExactReSub.f
    rw [if_neg hs, if_pos hs2]
  have hb : a2.size ≤ 1048576 := by omega
  obtain ⟨r, hz, hr⟩ := sz_ev l0 (given l0 hm hg)
  refine Q.Ev.congr (Q.Ev.bind hz (g := fun k t228 => _) ?_) (fun k => (if_neg hs).trans (if_neg hs2))
  rcases hr with hr | ⟨hl, hF⟩
  · exact Q.Ev.mk fun k => if_pos hr
  by_cases hr0 : r < 0
  · exact Q.Ev.mk fun k => if_pos hr0
  refine Q.Ev.congr ?_ (fun k => if_neg hr0)
  have hT := toNodes_ev hl hF
  refine Q.Ev.bind hT (Q.Ev.bind (specSub_ev hF hb) (Q.Ev.bind hT ?_))
  refine Q.Ev.congr (f := fun k => laws_FnExactReSub.j0 k l0 (l0.map conv) false) ?_ (fun k => by
    show (impl_ReSub.f (l0.map conv) a1 a2).bind _ = _
    rw [implSub_eq hF hb, Option.bind_some, if_pos rfl]
    simp)
  refine Q.Ev.succ (Q.Ev.congr (Q.Ev.bind hT (g := fun k t222 => (laws_eqReNodeS.f k (l0.map conv) t222).bind fun t225 => (if t225 = true then (some true) else (some false))) (Q.Ev.bind (eqNodes_ev (by rw [List.length_map]; exact hl) hF) (Q.Ev.mk fun k => if_pos rfl))) fun k => ?_)
  simp only [laws_FnExactReSub.j0]
  rw [if_neg (by decide)]
end Go.Proofs.YtlakdfbfkbndiaaDoor.Pure
namespace Go.Proofs.YtlakdfbfkbndiaaDoor.fnExactReSub
open Go.ChangeShapes Go.WideShapes Go.ChangeAt Go.RowKit
open Go.ChangeMaps (open_string shut_string)
open Go.Lib
open Go.Proofs.YtlakdfbfkbndiaaDoorW.PrintWords
set_option linter.unusedVariables false
theorem own : ownKnob Tryd.prog.godebug = none := by kernel_rfl
theorem laidOut : laidOutB Tryd.prog = true := by kernel_rfl
theorem one3 : Q.Opens Tryd.prog 3 (Kd.int .i64) (fun x => Q.okInt .i64 x) := (Q.open_int_ok Tryd.underlying3 (by kernel_rfl))
theorem one4 : Q.Opens Tryd.prog 4 Kd.bool (fun x => Q.okBool x) := (Q.open_bool_ok Tryd.underlying4 (by kernel_rfl))
theorem one9 : Q.Opens Tryd.prog 9 Kd.string (fun x => Q.okStr x) := (Q.open_str_ok Tryd.underlying9 (by kernel_rfl))
theorem one31 : Q.Opens Tryd.prog 31 (Kd.slice 3 (Kd.int .i64)) (fun x => (x.length ≤ maxLen ∧ ∀ b_ ∈ x, Q.okInt .i64 b_)) := (Q.opens_slice Tryd.underlying31 (by kernel_rfl) one3)
theorem opens56 : Q.Opens Tryd.prog 56 Q.k56 (fun x => (Q.okInt .i64 x.f0 ∧ (Q.okBool x.f1 ∧ (Q.okStr x.f2 ∧ (x.f3.length ≤ maxLen ∧ ∀ b_ ∈ x.f3, Q.okInt .i64 b_))))) := by
  refine Q.opens_struct (good := fun p : Int × Bool × ByteArray × List Int => (Q.okInt .i64 p.1 ∧ (Q.okBool p.2.1 ∧ (Q.okStr p.2.2.1 ∧ (p.2.2.2.length ≤ maxLen ∧ ∀ b_ ∈ p.2.2.2, Q.okInt .i64 b_))))) (fun x : Q.S56 => (x.f0, x.f1, x.f2, x.f3)) (fun p => ⟨p.1, p.2.1, p.2.2.1, p.2.2.2⟩) (fun _ => rfl) Tryd.underlying56 ?_ ?_ ?_ ?_
  · kernel_rfl
  · kernel_rfl
  · rfl
  · refine Q.opensF_cons (good := fun p : Int => Q.okInt .i64 p) (good' := fun p : Bool × ByteArray × List Int => (Q.okBool p.1 ∧ (Q.okStr p.2.1 ∧ (p.2.2.length ≤ maxLen ∧ ∀ b_ ∈ p.2.2, Q.okInt .i64 b_)))) one3 ?_
    refine Q.opensF_cons (good := fun p : Bool => Q.okBool p) (good' := fun p : ByteArray × List Int => (Q.okStr p.1 ∧ (p.2.length ≤ maxLen ∧ ∀ b_ ∈ p.2, Q.okInt .i64 b_))) one4 ?_
    refine Q.opensF_cons (good := fun p : ByteArray => Q.okStr p) (good' := fun p : List Int => (p.length ≤ maxLen ∧ ∀ b_ ∈ p, Q.okInt .i64 b_)) one9 ?_
    exact Q.opensF_one one31
set_option maxRecDepth 100000 in
theorem lifted (os : Os) (started : os.Started) (H : Type) (enc : TypeId × Value → H) :
    ReturnsInHanded {} Tryd.checked os 7 .any (fun w args => (Rows.fnExactReSubSpec.pre enc Tryd.prog Tryd.f7 [] false w args ∧ laidMetH Tryd.prog Rows.fnExactReSubRow.laid w) ∧ sizedMet enc Tryd.prog Tryd.f7 (OpenSpec.ofChange Rows.fnExactReSubSpec) false w args)
      (Rows.fnExactReSubSpec.post enc Tryd.prog Tryd.f7 false true false false) := by
  refine returnsInHanded_of_change_and_shaped_ytlakdfbfkbndiaadoor (C := Tryd.checked) (X := fun w _ => laidMetH Tryd.prog Rows.fnExactReSubRow.laid w) (fun _ _ _ hh h => h.of_heap hh) own started (by kernel_rfl) Tryd.func7
    (ChangeSpec.witness_shaped (enc := enc) (C := Tryd.checked) (os := os) (X := fun w _ => laidMetH Tryd.prog Rows.fnExactReSubRow.laid w) false (World.laidAll Tryd.prog os Rows.fnExactReSubRow.laid) #[.slice none 0 0, .string ByteArray.empty, .string ByteArray.empty] 8 (World.laidAll_os _ _ _)
      (World.shaped_of_ZipB (by kernel_rfl) (by kernel_rfl)) (by kernel_rfl) (by kernel_rfl) (by kernel_rfl)
      (by rw [MakeChecks.laidMetH_plain _ _ _ (by kernel_rfl)]; exact laidMet_laidAll _ (by kernel_rfl) (by kernel_rfl))) ?_
  intro W base args ds gs before hval0 hW hcnd hsz0 hL hS _
  have hsz : (DataW.weightsEach Tryd.prog (Tryd.f7.params.toList ++ Rows.fnExactReSubSpec.plain.varTypes Tryd.prog) (ds ++ gs)).all (· ≤ reachBytes) = true := hsz0
  have hval : ∀ (j : Nat) t v, Tryd.f7.params[j]? = some t → args[j]? = some v → Value.okWide Tryd.prog W .any base t v := hval0
  have hW' := hW
  obtain ⟨p, q, hA0, hV, rfl, hfz, hnd⟩ := hW
  have hA : DataW.TrodAll enc Tryd.prog W 0 (fun _ => true) true Tryd.f7.params.toList args.toList ds p := hA0
  rw [Tryd.params7] at hA hval hsz
  obtain ⟨v0, vs0, d0, ds0, p0, q0, hargs, rfl, rfl, h0, r0⟩ := trodAll_cons hA
  obtain ⟨v1, vs1, d1, ds1, p1, q1, rfl, rfl, rfl, h1, r1⟩ := trodAll_cons r0
  obtain ⟨v2, vs2, d2, ds2, p2, q2, rfl, rfl, rfl, h2, r2⟩ := trodAll_cons r1
  obtain ⟨rfl, rfl, rfl⟩ := trodAll_nil r2
  obtain rfl : args = #[v0, v1, v2] := by cases args; simp_all
  obtain ⟨rfl, rfl⟩ := trodVars_none hV
  have k0 := h0
  have lt0 : ∀ x ∈ p0, x.block < W.heap.size := by obtain ⟨m, hm⟩ := k0; exact DataW.trod_lt m _ _ _ hm
  obtain ⟨a0, len0, cap0, rfl⟩ := okWide_slice Tryd.underlying22 (hval 0 22 v0 rfl rfl)
  obtain ⟨f0, hf0⟩ := h0
  obtain ⟨A0, c0, l0, e0, hl0, hC0, hm0, hg0⟩ := Q.slice_reads Tryd.underlying22 opens56 hf0
  simp [Value.cells] at e0
  obtain ⟨rfl, rfl, rfl⟩ := e0
  have k1 := h1
  have lt1 : ∀ x ∈ p1, x.block < W.heap.size := by obtain ⟨m, hm⟩ := k1; exact DataW.trod_lt m _ _ _ hm
  obtain ⟨a1, rfl⟩ := okWide_string Tryd.underlying9 (hval 1 9 v1 rfl rfl)
  have m1 : a1.size ≤ maxLen := by
    obtain ⟨fuel, hf⟩ := h1
    obtain ⟨s_, e_, _, hs_⟩ := DataW.trod_string Tryd.underlying9 hf
    simp [Value.cells] at e_
    rw [e_]; exact hs_
  have k2 := h2
  have lt2 : ∀ x ∈ p2, x.block < W.heap.size := by obtain ⟨m, hm⟩ := k2; exact DataW.trod_lt m _ _ _ hm
  obtain ⟨a2, rfl⟩ := okWide_string Tryd.underlying9 (hval 2 9 v2 rfl rfl)
  have m2 : a2.size ≤ maxLen := by
    obtain ⟨fuel, hf⟩ := h2
    obtain ⟨s_, e_, _, hs_⟩ := DataW.trod_string Tryd.underlying9 hf
    simp [Value.cells] at e_
    rw [e_]; exact hs_
  clear hA0 hval0 hsz0 hsz
  rw [MakeChecks.laidMetH_plain _ _ _ (by kernel_rfl)] at hL
  have hTabs : Q.Tabs W := Q.tabs_of_laid hL (.head _) hS
  obtain ⟨k, hk⟩ := Pure.FnExactReSub l0 a1 a2 hm0 hg0 m1 m2
  refine (Q.laws_FnExactReSub.calls k _ _ l0 a1 a2 true W hC0 hl0 hk hTabs).mono fun e W' ⟨he, bel⟩ => ?_
  subst he
  exact ⟨_, rfl, _, _, _, [], _, [], hW', trodAll_mk1 (shut_bool Tryd.underlying4 _), (trodAll_cons_mk (Below.trod laidOut (by kernel_rfl) (of_decide_eq_true (by kernel_rfl)) k0 bel lt0) (trodAll_cons_mk (Below.trod laidOut (by kernel_rfl) (of_decide_eq_true (by kernel_rfl)) k1 bel lt1) (trodAll_cons_mk (Below.trod laidOut (by kernel_rfl) (of_decide_eq_true (by kernel_rfl)) k2 bel lt2) trodAll_mk0))), rfl, bel.frame _, fun h => by cases h⟩
theorem over : Rows.fnExactReSubRow.holds Tryd.pinned (OpenSpec.ofChange Rows.fnExactReSubSpec) :=
  OpenClaim.holds_of_wide 7 Tryd.f7 rfl rfl rfl rfl rfl rfl rfl ⟨rfl, rfl, rfl, rfl, rfl⟩ rfl rfl rfl rfl rfl (by kernel_rfl) Tryd.func7 (by kernel_rfl)
    (of_decide_eq_true (by kernel_rfl)) (by unfold Func.isWrapper; first | (rw [if_pos (by decide +kernel)]; kernel_rfl) | (rw [if_neg (by decide +kernel)]; exact ⟨rfl, rfl⟩))
    (fun os started H enc _ => lifted os started H enc)
theorem proved : Rows.FnExactReSubCardSaid :=
  Claim7.holds_tied_plain_at .later [] [.data] true (true, "653ba40917454f3c57c45bf7bd6e7a755b8c14dc4c6435c6eceb616f191040d8") false over (fun _ h => by cases h) (by kernel_rfl) (fun _ h => by cases h) fnExactReSub_row_tie rfl ⟨rfl, rfl⟩ (by kernel_rfl) rfl
    (fun f fn hf hfn => by
      obtain rfl : f = 7 := Option.some.inj ((show Tryd.prog.funcNamed Rows.fnExactReSubRow.func = some 7 by kernel_rfl).symm.trans hf) |>.symm
      obtain rfl : fn = Tryd.f7 := (Option.some.inj (Tryd.func7.symm.trans hfn)).symm
      exact ⟨by kernel_rfl, fun j t ht => by
        rw [Tryd.params7] at ht
        have hm : t ∈ [22, 9, 9] := by simpa using Array.mem_of_getElem? ht
        have hall : ([22, 9, 9].all fun u => !Tryd.prog.wantsStandIn u) = true := by kernel_rfl
        exact (show Tryd.prog.wantsStandIn t = false by simpa using List.all_eq_true.1 hall t hm)⟩)
    (by kernel_rfl)
#print axioms proved
end Go.Proofs.YtlakdfbfkbndiaaDoor.fnExactReSub
namespace Go.Proofs.YtlakdfbfkbndiaaDoor
theorem fnExactReSub_holds : Rows.FnExactReSubCardSaid := fnExactReSub.proved
end Go.Proofs.YtlakdfbfkbndiaaDoor
