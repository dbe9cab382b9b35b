/- What the row of FnWords rests on, and the row: for every input that can be read the call returns true and the input reads as it did; condition: what the row lists of the library reads as the program lays it. -/
import Derived.Test.YtnfiljnncpieoaaDoorKFnWordsf
import Derived.Test.YtnfiljnncpieoaaDoorCards
import Derived.Test.YtnfiljnncpieoaaDoorRows
import Derived.Test.YtnfiljnncpieoaaDoorTie
set_option linter.unusedVariables false
set_option linter.unusedSimpArgs false
namespace Go.Proofs.YtnfiljnncpieoaaDoor.Pure
open Go Go.RowKit Go.Proofs.YtnfiljnncpieoaaDoor.Q Go.Proofs.YtnfiljnncpieoaaDoorW.PrintWords Go.Proofs.YtnfiljnncpieoaaDoorW.PrintLast Go.Proofs.YtnfiljnncpieoaaDoorW.PrintMore
theorem impl_str (r : ByteArray) (hr : r.size ≤ 4000) (d : Nat) : ∀ (i k : Nat) (acc : List Int), i ≤ r.size → r.size - i ≤ d → d < k → acc.length + (r.size - i) ≤ 4000 →
    impl_lexString.l0 k r acc (i : Int) = some (match strL false ((bytesOf r).drop i) with | some x => (strOfNums (acc ++ x.1), ((i + x.2 : Nat) : Int)) | none => ((⟨#[]⟩ : ByteArray), 0)) := by
  induction d using Nat.strongRecOn with
  | ind d ih =>
    intro i k acc hi hd hk hacc
    obtain ⟨k, rfl⟩ : ∃ m, k = m + 1 := ⟨k - 1, by omega⟩
    simp only [impl_lexString.l0]
    by_cases hlt : i < r.size
    · rw [if_pos (by omega), if_pos (by omega), bytes_drop r i hlt]
      have w1 : wrap64 ((i : Int) + 1) = ((i + 1 : Nat) : Int) := by rw [w64 (by omega) (by omega)]; omega
      rw [w1]
      simp only [strL]
      by_cases c1 : bt r (i : Int) = 34
      · rw [if_pos c1, if_pos c1]; simp
      rw [if_neg c1, if_neg c1]
      by_cases c2 : bt r (i : Int) = 10
      · rw [if_pos c2, if_pos c2]
      rw [if_neg c2, if_neg c2]
      by_cases c3 : bt r (i : Int) = 92
      · rw [if_pos c3, if_pos c3]
        by_cases c4 : i + 1 < r.size
        · rw [if_neg (by omega), if_pos (by omega), if_pos (by omega), bytes_drop r (i + 1) c4]
          obtain ⟨j, e1, e2, e3⟩ := esc_at (bt r ((i + 1 : Nat) : Int)) (bt_range r (i + 1) c4)
          have w2 : wrap64 (((i + 1 : Nat) : Int) + 1) = ((i + 2 : Nat) : Int) := by rw [w64 (by omega) (by omega)]; omega
          rw [e1, Option.bind_some, w2]
          simp only [strL]
          cases he : escL (bt r ((i + 1 : Nat) : Int)) with
          | none => rw [if_pos (e2 he)]; rfl
          | some e =>
            obtain ⟨p1, p2, p3⟩ := e3 e he
            rw [if_neg (by omega), if_pos p1, if_pos p2, if_pos (by omega), p3, ih (d - 2) (by omega) (i + 2) k (acc ++ [e]) (by omega) (by omega) (by omega) (by simp; omega)]
            rw [show i + 1 + 1 = i + 2 by omega]
            cases strL false ((bytesOf r).drop (i + 2)) with
            | none => rfl
            | some x =>
              simp only [Option.bind_some, Option.map_some, List.append_assoc, List.cons_append, List.nil_append]
              congr 2; omega
        · rw [if_pos (by omega), bytes_end r (i + 1) (by omega)]; rfl
      · rw [if_neg c3, if_neg c3, if_pos (by omega), ih (d - 1) (by omega) (i + 1) k (acc ++ [bt r (i : Int)]) (by omega) (by omega) (by omega) (by simp; omega)]
        cases strL false ((bytesOf r).drop (i + 1)) with
        | none => rfl
        | some x =>
          simp only [Option.map_some, List.append_assoc, List.cons_append, List.nil_append]
          congr 2; omega
    · rw [if_neg (by omega), bytes_end r i (by omega)]; rfl
theorem impl_re (r : ByteArray) (hr : r.size ≤ 4000) (d : Nat) : ∀ (i k : Nat), 1 ≤ i → r.size - i ≤ d → d < k → i ≤ r.size + 1 →
    impl_lexRe.l0 k r (i : Int) = some (match reL false ((bytesOf r).drop i) with | some m => (r.extract 1 (i + m - 1), ((i + m : Nat) : Int)) | none => ((⟨#[]⟩ : ByteArray), 0)) := by
  induction d using Nat.strongRecOn with
  | ind d ih =>
    intro i k hi hd hk hi2
    obtain ⟨k, rfl⟩ : ∃ m, k = m + 1 := ⟨k - 1, by omega⟩
    simp only [impl_lexRe.l0]
    by_cases hlt : i < r.size
    · rw [if_pos (by omega), if_pos (by omega), bytes_drop r i hlt]
      have w1 : wrap64 ((i : Int) + 1) = ((i + 1 : Nat) : Int) := by rw [w64 (by omega) (by omega)]; omega
      rw [w1]
      simp only [reL]
      by_cases c1 : bt r (i : Int) = 47
      · rw [if_pos c1, if_pos c1, if_pos (by omega), if_pos (by omega), Int.toNat_natCast]
        simp
      rw [if_neg c1, if_neg c1]
      have w2 : wrap64 (((i + 1 : Nat) : Int) + 1) = ((i + 2 : Nat) : Int) := by rw [w64 (by omega) (by omega)]; omega
      rw [w2]
      by_cases c3 : bt r (i : Int) = 92
      · rw [if_neg (by omega), if_pos c3, if_pos c3]
        by_cases c4 : i + 1 < r.size
        · rw [if_pos (by omega), if_pos (by omega), bytes_drop r (i + 1) c4]
          simp only [reL]
          by_cases c5 : bt r ((i + 1 : Nat) : Int) = 10
          · rw [if_pos c5, if_pos c5]; rfl
          · rw [if_neg c5, if_neg c5, ih (d - 2) (by omega) (i + 2) k (by omega) (by omega) (by omega) (by omega)]
            rw [show i + 1 + 1 = i + 2 by omega]
            cases reL false ((bytesOf r).drop (i + 2)) with
            | none => rfl
            | some m =>
              simp only [Option.map_some]
              rw [show i + 2 + m - 1 = i + (m + 1 + 1) - 1 by omega, show i + 2 + m = i + (m + 1 + 1) by omega]
        · rw [if_neg (by omega), bytes_end r (i + 1) (by omega)]
          obtain ⟨k, rfl⟩ : ∃ m, k = m + 1 := ⟨k - 1, by omega⟩
          simp only [impl_lexRe.l0]
          rw [if_neg (by omega)]; rfl
      · rw [if_neg c3]
        by_cases c2 : bt r (i : Int) = 10
        · rw [if_pos c2, if_neg c3, if_pos c2]
        rw [if_neg c2, if_neg c3, if_neg c2, ih (d - 1) (by omega) (i + 1) k (by omega) (by omega) (by omega) (by omega)]
        cases reL false ((bytesOf r).drop (i + 1)) with
        | none => rfl
        | some m =>
          simp only [Option.map_some]
          rw [show i + 1 + m - 1 = i + (m + 1) - 1 by omega, show i + 1 + m = i + (m + 1) by omega]
    · rw [if_neg (by omega), bytes_end r i (by omega)]; rfl
def kwB : List ByteArray := kwL.map strOfNums
def sgB : List ByteArray := sgL.map strOfNums
theorem kw_bytes : kwB.map bytesOf = kwL := by decide +kernel
theorem sg_bytes : sgB.map bytesOf = sgL := by decide +kernel
theorem slIndex (xs : List ByteArray) (x : ByteArray) (hx : xs.length ≤ 1000) (d : Nat) : ∀ (i k : Nat), i + d = xs.length → d < k → ∃ j, slices_Index_string_string.l0 k xs x (xs.length : Int) (i : Int) = some j ∧ (0 ≤ j ↔ (xs.drop i).any (fun y => bytesOf y == bytesOf x) = true) := by
  induction d with
  | zero =>
    intro i k hi hk
    obtain ⟨k, rfl⟩ : ∃ m, k = m + 1 := ⟨k - 1, by omega⟩
    simp only [slices_Index_string_string.l0]
    rw [if_neg (by omega)]
    refine ⟨-1, rfl, ?_⟩
    rw [List.drop_eq_nil_iff.2 (by omega)]
    simp
  | succ d ih =>
    intro i k hi hk
    obtain ⟨k, rfl⟩ : ∃ m, k = m + 1 := ⟨k - 1, by omega⟩
    simp only [slices_Index_string_string.l0]
    have w1 : wrap64 ((i : Int) + 1) = ((i + 1 : Nat) : Int) := by rw [w64 (by omega) (by omega)]; omega
    have hlt : i < xs.length := by omega
    have e : rdOf ByteArray.empty xs (i : Int) = xs[i] := by
      unfold rdOf; rw [Int.toNat_natCast, List.getD_eq_getElem?_getD, List.getElem?_eq_getElem hlt]; rfl
    rw [if_pos (by omega), if_pos (by omega), if_pos (by omega), w1, e, List.drop_eq_getElem_cons hlt, List.any_cons]
    by_cases c : x.toList = xs[i].toList
    · rw [if_pos c]
      refine ⟨_, rfl, ?_⟩
      have := (toList_iff _ _).1 c
      simp [this]
    · rw [if_neg c]
      obtain ⟨j, e1, e2⟩ := ih (i + 1) k (by omega) (by omega)
      refine ⟨j, e1, ?_⟩
      have : (bytesOf xs[i] == bytesOf x) = false := by
        rw [beq_eq_false_iff_ne]; intro h; exact c ((toList_iff _ _).2 h.symm)
      rw [this, Bool.false_or]
      exact e2
theorem kw_any (x : ByteArray) : kwB.any (fun y => bytesOf y == bytesOf x) = isW (bytesOf x) := by
  unfold isW
  rw [← kw_bytes, Bool.eq_iff_iff, List.any_eq_true, List.contains_iff_mem]
  simp only [beq_iff_eq, List.mem_map]
def isList (L : List (List Int)) : Option (List ByteArray) → Bool
  | some l => decide (l.map bytesOf = L)
  | none => false
theorem of_match {o : Option (List ByteArray)} {L : List (List Int)} (h : isList L o = true) : o = some (L.map strOfNums) := by
  cases o with
  | none => cases h
  | some l =>
    have h2 := of_decide_eq_true h
    rw [← h2, List.map_map]
    congr 1
    conv => lhs; rw [← List.map_id l]
    apply List.map_congr_left
    intro a _
    exact (nums_of_bytes a).symm
theorem impl_kw0 : isList kwL impl_keywords.f = true := by decide +kernel
theorem impl_kw : impl_keywords.f = some kwB := of_match impl_kw0
theorem kw_len : kwB.length = 22 := by unfold kwB; rw [List.length_map]; rfl
theorem sg_len : sgB.length = 27 := by unfold sgB; rw [List.length_map]; rfl
theorem impl_isW (x : ByteArray) (k : Nat) (hk : 30 ≤ k) : impl_IsWord.f k x = some (isW (bytesOf x)) := by
  unfold impl_IsWord.f slices_Contains_string_string.f slices_Index_string_string.f
  obtain ⟨j, e1, e2⟩ := slIndex kwB x (by rw [kw_len]; omega) 22 0 k (by rw [kw_len]) (by omega)
  rw [impl_kw, Option.bind_some]
  have e0 : slices_Index_string_string.l0 k kwB x (kwB.length : Int) 0 = some j := e1
  rw [e0, Option.bind_some, Option.bind_some]
  rw [List.drop_zero, kw_any] at e2
  congr 1
  rw [Bool.eq_iff_iff, decide_eq_true_iff]
  exact e2
theorem prefix_bytes (r g : ByteArray) : Lib.hasPrefix r.data.toList g.data.toList = (bytesOf g).isPrefixOf (bytesOf r) := by
  unfold Lib.hasPrefix bytesOf
  generalize r.data.toList = a
  generalize g.data.toList = b
  induction b generalizing a with
  | nil => simp
  | cons x b ih =>
    cases a with
    | nil => rfl
    | cons y a =>
      simp only [List.isPrefixOf, List.map_cons]
      rw [ih a]
      congr 1
      rw [Bool.eq_iff_iff, beq_iff_eq, beq_iff_eq]
      constructor
      · intro h; rw [h]
      · intro h
        have : x.toNat = y.toNat := by omega
        exact UInt8.toNat_inj.1 this
theorem impl_sign (r : ByteArray) (xs : List ByteArray) (hx : xs.length ≤ 1000) (d : Nat) : ∀ (i k : Nat), i + d = xs.length → d < k →
    impl_lexOne.l0 k r xs (xs.length : Int) (i : Int) = some (match (xs.drop i).find? (fun g => (bytesOf g).isPrefixOf (bytesOf r)) with | some g => (7, g, 0, 0, (g.size : Int)) | none => (0, (⟨#[]⟩ : ByteArray), 0, 0, 0)) := by
  induction d with
  | zero =>
    intro i k hi hk
    obtain ⟨k, rfl⟩ : ∃ m, k = m + 1 := ⟨k - 1, by omega⟩
    simp only [impl_lexOne.l0]
    rw [if_neg (by omega), List.drop_eq_nil_iff.2 (by omega)]
    rfl
  | succ d ih =>
    intro i k hi hk
    obtain ⟨k, rfl⟩ : ∃ m, k = m + 1 := ⟨k - 1, by omega⟩
    simp only [impl_lexOne.l0]
    have w1 : wrap64 ((i : Int) + 1) = ((i + 1 : Nat) : Int) := by rw [w64 (by omega) (by omega)]; omega
    have hlt : i < xs.length := by omega
    have e : rdOf ByteArray.empty xs (i : Int) = xs[i] := by
      unfold rdOf; rw [Int.toNat_natCast, List.getD_eq_getElem?_getD, List.getElem?_eq_getElem hlt]; rfl
    rw [if_pos (by omega), if_pos (by omega), if_pos (by omega), w1, e, List.drop_eq_getElem_cons hlt]
    unfold strings_HasPrefix.f
    rw [Option.bind_some, prefix_bytes]
    by_cases c : (bytesOf xs[i]).isPrefixOf (bytesOf r) = true
    · rw [if_pos c]
      simp only [List.find?_cons, c]
    · rw [if_neg c]
      simp only [List.find?_cons, Bool.eq_false_iff.mpr c]
      exact ih (i + 1) k (by omega) (by omega)
theorem sg_find (r : List Int) : (sgB.find? (fun g => (bytesOf g).isPrefixOf r)).map bytesOf = sgL.find? (fun g => g.isPrefixOf r) := by
  rw [← sg_bytes, List.find?_map]
  rfl
theorem impl_split0 : isList sgL (strings_Split.f (⟨#[38, 38, 32, 124, 124, 32, 61, 61, 32, 33, 61, 32, 33, 126, 32, 60, 61, 32, 43, 61, 32, 123, 32, 125, 32, 40, 32, 41, 32, 91, 32, 93, 32, 59, 32, 44, 32, 61, 32, 33, 32, 60, 32, 43, 32, 45, 32, 42, 32, 47, 32, 37, 32, 126, 32, 63, 32, 58, 32, 36]⟩ : ByteArray) (⟨#[32]⟩ : ByteArray)) = true := by decide +kernel
theorem impl_split : strings_Split.f (⟨#[38, 38, 32, 124, 124, 32, 61, 61, 32, 33, 61, 32, 33, 126, 32, 60, 61, 32, 43, 61, 32, 123, 32, 125, 32, 40, 32, 41, 32, 91, 32, 93, 32, 59, 32, 44, 32, 61, 32, 33, 32, 60, 32, 43, 32, 45, 32, 42, 32, 47, 32, 37, 32, 126, 32, 63, 32, 58, 32, 36]⟩ : ByteArray) (⟨#[32]⟩ : ByteArray) = some sgB := by
  exact of_match impl_split0
def OneR : Option (Int × List Int × Int × Nat) → (Int × ByteArray × Int × Int × Int) → Prop
  | none, v => v.2.2.2.2 = 0
  | some (k, S, N, n), v => v = (k, strOfNums S, N, 0, (n : Int))
theorem wadd (a b : Nat) (h : a + b ≤ 100000) : wrap64 ((a : Int) + (b : Int)) = ((a + b : Nat) : Int) := by rw [w64 (by omega) (by omega)]; omega
theorem wadd1 (a : Nat) (h : a ≤ 100000) : wrap64 ((a : Int) + 1) = ((a + 1 : Nat) : Int) := by rw [w64 (by omega) (by omega)]; omega
theorem waddr (a : Nat) (h : a ≤ 100000) : wrap64 (1 + (a : Int)) = ((1 + a : Nat) : Int) := by rw [w64 (by omega) (by omega)]; omega
theorem impl_j1 (r : ByteArray) (c : Int) (l : List Int) (hb : bytesOf r = c :: l) (hs : r.size ≤ 4000) (o : Bool) (hd : isDg c = false) (h34 : c ≠ 34) (k : Nat) (hk : r.size + 100 ≤ k) :
    ∃ v, impl_lexOne.j1 k r c (if c = 47 then !o else false) = some v ∧ OneR (lexL o (c :: l)) v := by
  obtain ⟨k, rfl⟩ : ∃ m, k = m + 1 := ⟨k - 1, by omega⟩
  have hsz := bytes_size r
  rw [hb] at hsz
  simp only [List.length_cons] at hsz
  simp only [impl_lexOne.j1]
  have hL : lexL o (c :: l) = lexL o (c :: l) := rfl
  conv at hL => rhs; simp only [lexL]
  rw [if_neg (by rw [hd]; decide), if_neg h34] at hL
  by_cases h47 : c = 47 ∧ o = false
  · rw [if_pos h47] at hL
    rw [hL, if_pos (by rw [if_pos h47.1, h47.2]; rfl)]
    unfold impl_lexRe.f
    have hx := impl_re r hs r.size 1 k (by omega) (by omega) (by omega) (by omega)
    rw [show ((1 : Nat) : Int) = 1 from rfl] at hx
    rw [hx, Option.bind_some, hb, List.drop_succ_cons, List.drop_zero]
    refine ⟨_, rfl, ?_⟩
    cases hm : reL false l with
    | none => rfl
    | some m =>
      have := re_back [] _ _ _ hm
      show (3, r.extract 1 (1 + m - 1), 0, 0, _) = _
      rw [extract_nums, hb, List.drop_succ_cons, List.drop_zero, show 1 + m - 1 - 1 = m - 1 by omega]
      dsimp only
      rw [show 1 + m = m + 1 by omega]
  · rw [if_neg h47] at hL
    rw [hL, if_neg (by
      intro h
      split at h
      · rename_i h1
        exact h47 ⟨h1, by cases o with | false => rfl | true => cases h⟩
      · cases h)]
    rw [impl_lt, Option.bind_some]
    by_cases hl : isLt c = true
    · rw [if_pos hl, if_pos hl]
      have hrun := run_nm r hs 0 (by omega)
      rw [List.drop_zero, hb] at hrun
      rw [show ((0 : Nat) : Int) = 0 from rfl] at hrun
      rw [hrun, Option.bind_some]
      have hle := runL_le isNm (c :: l)
      simp only [List.length_cons] at hle
      generalize hn : runL isNm (c :: l) = n at *
      have hmn : mn (n : Int) 40 = ((min n 40 : Nat) : Int) := by unfold mn; omega
      rw [hmn, if_pos (by omega), if_pos (by omega), Int.toNat_natCast]
      by_cases c40 : n > 40
      · rw [if_pos (by omega), if_pos c40]
        exact ⟨_, rfl, rfl⟩
      · rw [if_neg (by omega), if_neg c40, show min n 40 = n by omega]
        have he : r.extract 0 n = strOfNums ((c :: l).take n) := by rw [extract_nums, hb]; rfl
        rw [impl_isW _ k (by omega), Option.bind_some, bytesOf_extract, hb, List.drop_zero, Nat.sub_zero, he]
        by_cases cw : isW ((c :: l).take n) = true
        · rw [if_pos cw, if_pos cw]
          exact ⟨_, rfl, rfl⟩
        · rw [if_neg cw, if_neg cw]
          by_cases ce : n < r.size
          · rw [if_pos (by omega), if_pos (by omega)]
            have hh : ((c :: l).drop n).head? = some (bt r (n : Int)) := by rw [← hb, bytes_drop r n ce]; rfl
            rw [hh]
            by_cases cp : bt r (n : Int) = 40
            · rw [if_pos cp, if_pos (by rw [cp])]
              exact ⟨_, rfl, rfl⟩
            · rw [if_neg cp, if_neg (fun h => cp (Option.some.inj h))]
              exact ⟨_, rfl, rfl⟩
          · rw [if_neg (by omega)]
            have hh : ((c :: l).drop n).head? = none := by rw [← hb, bytes_end r n (by omega)]; rfl
            rw [hh, if_neg (by decide)]
            exact ⟨_, rfl, rfl⟩
    · rw [if_neg hl, if_neg hl, impl_split, Option.bind_some]
      have hx := impl_sign r sgB (by rw [sg_len]; omega) 27 0 k (by rw [sg_len]) (by omega)
      rw [show ((0 : Nat) : Int) = 0 from rfl] at hx
      rw [hx, List.drop_zero]
      refine ⟨_, rfl, ?_⟩
      have hf := sg_find (bytesOf r)
      rw [hb] at hf
      rw [← hf, hb]
      cases sgB.find? (fun g => (bytesOf g).isPrefixOf (c :: l)) with
      | none => rfl
      | some g =>
        show (7, g, (0 : Int), (0 : Int), (g.size : Int)) = (7, strOfNums (bytesOf g), 0, 0, ((bytesOf g).length : Int))
        rw [nums_of_bytes, bytes_size]
theorem implOne_eq (r : ByteArray) (h1 : 1 ≤ r.size) (hs : r.size ≤ 4000) (t0 : Int) (t1 : ByteArray) (t2 t3 : Int) (k : Nat) (hk : r.size + 100 ≤ k) :
    ∃ v, impl_lexOne.f k r t0 t1 t2 t3 = some v ∧ OneR (lexL (opnd t0 (bytesOf t1)) (bytesOf r)) v := by
  unfold impl_lexOne.f
  have hb : bytesOf r = bt r ((0 : Nat) : Int) :: (bytesOf r).drop 1 := by have := bytes_drop r 0 (by omega); rw [List.drop_zero] at this; exact this
  rw [show ((0 : Nat) : Int) = 0 from rfl] at hb
  generalize hc : bt r 0 = c at *
  generalize (bytesOf r).drop 1 = l at *
  rw [if_pos (by omega), impl_dg, Option.bind_some]
  by_cases hd : isDg c = true
  · rw [if_pos hd]
    have hrun := run_dg r hs 0 (by omega)
    rw [List.drop_zero] at hrun
    rw [show ((0 : Nat) : Int) = 0 from rfl] at hrun
    rw [hrun, Option.bind_some]
    have hle := runL_le isDg (bytesOf r)
    rw [bytes_size] at hle
    have hlx : lexL (opnd t0 (bytesOf t1)) (bytesOf r) = some (1, [], readL ((bytesOf r).take (numL (bytesOf r))), numL (bytesOf r)) := by
      rw [hb]; simp only [lexL]; rw [if_pos hd]
    rw [hlx]
    unfold numL
    generalize hn : runL isDg (bytesOf r) = n at *
    clear hc
    rw [wadd1 n (by omega)]
    have hread : ∀ m : Nat, m ≤ r.size → impl_ReadDec.f (r.extract 0 m) = some (readV (strOfNums ((bytesOf r).take m))) := by
      intro m hm
      rw [implReadDec_eq _ (by rw [ByteArray.size_extract]; omega), extract_nums, List.drop_zero, Nat.sub_zero]
    have hfalse : ∀ k, 1 ≤ k → impl_lexOne.j0 k r (n : Int) false = some (1, (⟨#[]⟩ : ByteArray), readL ((bytesOf r).take n), 0, (n : Int)) := by
      intro k hk
      obtain ⟨k, rfl⟩ : ∃ m, k = m + 1 := ⟨k - 1, by omega⟩
      simp only [impl_lexOne.j0]
      rw [if_neg (by decide), if_pos (by omega), if_pos (by omega), Int.toNat_natCast, hread n hle, Option.bind_some]; unfold readL; exact Eq.refl _
    have htrue : ∀ k, 1 ≤ k → n + 1 < r.size → impl_lexOne.j0 k r (n : Int) true = some (1, (⟨#[]⟩ : ByteArray), readL ((bytesOf r).take (n + 1 + runL isDg ((bytesOf r).drop (n + 1)))), 0, ((n + 1 + runL isDg ((bytesOf r).drop (n + 1)) : Nat) : Int)) := by
      intro k hk hlt
      obtain ⟨k, rfl⟩ : ∃ m, k = m + 1 := ⟨k - 1, by omega⟩
      simp only [impl_lexOne.j0]
      have hle2 := runL_le isDg ((bytesOf r).drop (n + 1))
      rw [List.length_drop, bytes_size] at hle2
      rw [if_pos trivial, wadd1 n (by omega), run_dg r hs (n + 1) (by omega), Option.bind_some]
      generalize runL isDg ((bytesOf r).drop (n + 1)) = q at *
      have hm : n + 1 + q ≤ r.size := by omega
      rw [waddr q (by omega), wadd n (1 + q) (by omega), show n + (1 + q) = n + 1 + q by omega]
      rw [if_pos (Int.natCast_nonneg _), if_pos (Int.ofNat_le.2 hm), Int.toNat_natCast, hread (n + 1 + q) hm, Option.bind_some]; unfold readL; exact Eq.refl _
    by_cases cl : n + 1 < r.size
    · rw [if_pos (by omega), if_pos (by omega), if_pos (by omega)]
      have hdr : (bytesOf r).drop n = bt r (n : Int) :: bt r ((n + 1 : Nat) : Int) :: (bytesOf r).drop (n + 2) := by
        rw [bytes_drop r n (by omega), bytes_drop r (n + 1) cl]
      have hhd : headDot ((bytesOf r).drop n) = (bt r (n : Int) == 46 && isDg (bt r ((n + 1 : Nat) : Int))) := by rw [hdr]; rfl
      rw [hhd]
      by_cases cd : bt r (n : Int) = 46
      · rw [if_pos cd, if_pos (by omega), impl_dg, Option.bind_some]
        have e46 : (bt r (n : Int) == 46) = true := by rw [cd]; rfl
        rw [e46, Bool.true_and]
        by_cases ce : isDg (bt r ((n + 1 : Nat) : Int)) = true
        · rw [ce, htrue k (by omega) cl]
          exact ⟨_, rfl, rfl⟩
        · rw [Bool.eq_false_iff.mpr ce, hfalse k (by omega)]
          exact ⟨_, rfl, rfl⟩
      · rw [if_neg cd, hfalse k (by omega)]
        have e46 : (bt r (n : Int) == 46) = false := by rw [beq_eq_false_iff_ne]; exact cd
        rw [e46, Bool.false_and]
        exact ⟨_, rfl, rfl⟩
    · rw [if_neg (by omega), hfalse k (by omega)]
      have hhd : headDot ((bytesOf r).drop n) = false := by
        by_cases ce : n < r.size
        · rw [bytes_drop r n ce, bytes_end r (n + 1) (by omega)]; rfl
        · rw [bytes_end r n (by omega)]; rfl
      rw [hhd]
      exact ⟨_, rfl, rfl⟩
  · have hd' := Bool.eq_false_iff.mpr hd
    rw [if_neg hd]
    by_cases h34 : c = 34
    · rw [if_pos h34]
      unfold impl_lexString.f
      have hx := impl_str r hs r.size 1 k [] (by omega) (by omega) (by omega) (by simp; omega)
      rw [show ((1 : Nat) : Int) = 1 from rfl] at hx
      rw [hx, Option.bind_some, hb, List.drop_succ_cons, List.drop_zero]
      refine ⟨_, rfl, ?_⟩
      simp only [lexL]
      rw [if_neg hd, if_pos h34]
      cases hm : strL false l with
      | none => rfl
      | some x =>
        show (2, strOfNums ([] ++ x.1), 0, 0, _) = _
        dsimp only
        rw [List.nil_append, show 1 + x.2 = x.2 + 1 by omega]
    · rw [if_neg h34]
      have hj := impl_j1 r c l hb hs (opnd t0 (bytesOf t1)) hd' h34 k hk
      rw [← hb] at hj
      by_cases h47 : c = 47
      · rw [if_pos h47, impl_opnd, Option.bind_some]
        rw [if_pos h47] at hj
        exact hj
      · rw [if_neg h47]
        rw [if_neg h47] at hj
        exact hj
theorem implLex_l0 (s : ByteArray) (hs : s.size ≤ 4000) (d : Nat) : ∀ (i k f : Nat) (acc : List S60) (t0 : Int) (t1 : ByteArray) (t2 t3 : Int), i ≤ s.size → s.size - i = d → d < f → d + 4200 ≤ k → acc.length ≤ i →
    impl_Lex.l0 k s acc (i : Int) t0 t1 t2 t3 = some (lexT f i ((bytesOf s).drop i) acc (opnd t0 (bytesOf t1))) := by
  induction d using Nat.strongRecOn with
  | ind d ih =>
    intro i k f acc t0 t1 t2 t3 hi hd hf hk hacc
    obtain ⟨k, rfl⟩ : ∃ m, k = m + 1 := ⟨k - 1, by omega⟩
    obtain ⟨f, rfl⟩ : ∃ m, f = m + 1 := ⟨f - 1, by omega⟩
    simp only [impl_Lex.l0]
    by_cases hlt : i < s.size
    · rw [if_pos (by omega), if_pos (by omega), impl_sp, Option.bind_some, wadd1 i (by omega)]
      have hb := bytes_drop s i hlt
      by_cases c1 : isSp (bt s (i : Int)) = true
      · rw [if_pos c1, ih (d - 1) (by omega) (i + 1) k (f + 1) acc t0 t1 t2 t3 (by omega) (by omega) (by omega) (by omega) (by omega)]
        congr 1
        refine (lexT_skip f i _ _ 1 acc _ ?_ ?_).symm
        · rw [hb, skip_sp _ _ c1, Nat.add_comm]
        · rw [List.drop_drop]
      · rw [if_neg c1]
        by_cases c2 : bt s (i : Int) = 35
        · rw [if_pos c2, run_nl s hs i hi, Option.bind_some]
          have hle := runL_le isNl ((bytesOf s).drop i)
          rw [List.length_drop, bytes_size] at hle
          have hpos : 1 ≤ runL isNl ((bytesOf s).drop i) := by
            rw [hb]; simp only [runL]; rw [c2, if_pos (by decide)]; omega
          have hsk := skip_remark ((bytesOf s).drop (i + 1))
          rw [show (35 : Int) :: (bytesOf s).drop (i + 1) = (bytesOf s).drop i by rw [hb, c2]] at hsk
          generalize runL isNl ((bytesOf s).drop i) = q at *
          rw [wadd i q (by omega), ih (d - q) (by omega) (i + q) k (f + 1) acc t0 t1 t2 t3 (by omega) (by omega) (by omega) (by omega) (by omega)]
          congr 1
          refine (lexT_skip f i _ _ q acc _ ?_ ?_).symm
          · rw [hsk, List.drop_drop]
          · rw [List.drop_drop]
        · rw [if_neg c2, if_pos (by omega), Int.toNat_natCast]
          have hsz : (s.extract i s.size).size = s.size - i := by rw [ByteArray.size_extract]; omega
          have hbe : bytesOf (s.extract i s.size) = (bytesOf s).drop i := by
            rw [bytesOf_extract]
            exact List.take_of_length_le (by rw [List.length_drop, bytes_size]; omega)
          obtain ⟨v, e1, e2⟩ := implOne_eq (s.extract i s.size) (by omega) (by omega) t0 t1 t2 t3 k (by omega)
          rw [e1, Option.bind_some]
          rw [hbe] at e2
          have hsk : skipN false ((bytesOf s).drop i) = 0 := by rw [hb]; exact skip_none _ _ c2 (Bool.eq_false_iff.mpr c1)
          simp only [lexT]
          rw [hsk, List.drop_zero]
          have hg := (bytes_good s).drop i
          rw [hb] at e2 hg ⊢
          dsimp only
          cases hx : lexL (opnd t0 (bytesOf t1)) (bt s (i : Int) :: (bytesOf s).drop (i + 1)) with
          | none =>
            rw [hx] at e2
            have e2 : v.2.2.2.2 = 0 := e2
            rw [if_pos e2]; rfl
          | some x =>
            obtain ⟨K, S, N, n⟩ := x
            rw [hx] at e2
            have e2 : v = (K, strOfNums S, N, 0, (n : Int)) := e2
            subst e2
            dsimp only
            have hn := lex_len _ _ _ _ _ _ hx
            rw [← hb, List.length_drop, bytes_size] at hn
            have hS := bytes_back S (lex_good _ _ hg _ _ _ _ hx).1
            rw [if_neg (by omega), if_pos (by omega), wadd i n (by omega), ih (d - n) (by omega) (i + n) k f _ K (strOfNums S) N i (by omega) (by omega) (by omega) (by omega) (by simp; omega), hS, Nat.add_zero, ← hb, List.drop_drop]
    · rw [if_neg (by omega), bytes_end s i (by omega)]
      rfl
theorem implLex_eq (s : ByteArray) (hs : s.size ≤ 4000) (k : Nat) (hk : 8200 ≤ k) : impl_Lex.f k s = some (lexT (s.size + 1) 0 (bytesOf s) [] false) := by
  unfold impl_Lex.f
  rw [if_neg (by omega)]
  exact implLex_l0 s hs s.size 0 k (s.size + 1) [] 0 ⟨#[]⟩ 0 0 (by omega) (by omega) (by omega) (by omega) (by simp)
theorem spec_lt (c : Int) : spec_l3letter.f c = some (isLt c) := by
  unfold spec_l3letter.f isLt
  by_cases h1 : 65 ≤ c <;> by_cases h2 : c ≤ 90 <;> by_cases h3 : 97 ≤ c <;> by_cases h4 : c ≤ 122 <;> simp [h1, h2, h3, h4]
theorem spec_nm (c : Int) : spec_l3inner.f c = some (isNm c) := by
  unfold spec_l3inner.f isNm
  rw [spec_lt, Option.bind_some, digit_eq, Option.bind_some]
  cases isLt c <;> simp
theorem spec_blank (s : ByteArray) (hs : s.size ≤ 4000) (d : Nat) : ∀ (i : Nat), i ≤ s.size → s.size - i = d →
    (∀ k, 2 * d + 2 ≤ k → spec_l3blank.l0 k s (i : Int) = some ((i + skipN false ((bytesOf s).drop i) : Nat) : Int)) ∧
    (∀ k, 2 * d + 2 ≤ k → spec_l3blank.l1 k s (i : Int) = some ((i + skipN true ((bytesOf s).drop i) : Nat) : Int)) := by
  induction d with
  | zero =>
    intro i hi hd
    rw [bytes_end s i (by omega)]
    have h0 : ∀ k, 1 ≤ k → spec_l3blank.l0 k s (i : Int) = some ((i + skipN false [] : Nat) : Int) := by
      intro k hk
      obtain ⟨k, rfl⟩ : ∃ m, k = m + 1 := ⟨k - 1, by omega⟩
      simp only [spec_l3blank.l0]
      rw [if_neg (by omega)]; rfl
    refine ⟨fun k hk => h0 k (by omega), fun k hk => ?_⟩
    obtain ⟨k, rfl⟩ : ∃ m, k = m + 1 := ⟨k - 1, by omega⟩
    simp only [spec_l3blank.l1]
    rw [if_neg (by omega), h0 k (by omega)]; rfl
  | succ d ih =>
    intro i hi hd
    obtain ⟨ih0, ih1⟩ := ih (i + 1) (by omega) (by omega)
    have hlt : i < s.size := by omega
    rw [bytes_drop s i hlt]
    have s1 : ∀ k, 2 * d + 3 ≤ k → bt s (i : Int) ≠ 10 → spec_l3blank.l1 k s (i : Int) = some ((i + (skipN true ((bytesOf s).drop (i + 1)) + 1) : Nat) : Int) := by
      intro k hk h10
      obtain ⟨k, rfl⟩ : ∃ m, k = m + 1 := ⟨k - 1, by omega⟩
      simp only [spec_l3blank.l1]
      rw [if_pos (by omega), if_pos (by omega), if_neg h10, wadd1 i (by omega), ih1 k (by omega)]
      congr 1; omega
    have s0 : ∀ k, 2 * d + 3 ≤ k → bt s (i : Int) ≠ 35 → spec_l3blank.l0 k s (i : Int) = some ((i + skipN false (bt s (i : Int) :: (bytesOf s).drop (i + 1)) : Nat) : Int) := by
      intro k hk h35
      obtain ⟨k, rfl⟩ : ∃ m, k = m + 1 := ⟨k - 1, by omega⟩
      simp only [spec_l3blank.l0, skipN]
      rw [if_pos (by omega), if_pos (by omega), if_neg h35, if_neg h35, white_eq, Option.bind_some]
      by_cases c : isSp (bt s (i : Int)) = true
      · rw [if_pos c, if_pos c, wadd1 i (by omega), ih0 k (by omega)]
        congr 1; omega
      · rw [if_neg c, if_neg c]; rfl
    constructor
    · intro k hk
      by_cases c : bt s (i : Int) = 35
      · obtain ⟨k, rfl⟩ : ∃ m, k = m + 1 := ⟨k - 1, by omega⟩
        simp only [spec_l3blank.l0, skipN]
        rw [if_pos (by omega), if_pos (by omega), if_pos c, if_pos c]
        exact s1 k (by omega) (by omega)
      · exact s0 k (by omega) c
    · intro k hk
      by_cases c : bt s (i : Int) = 10
      · obtain ⟨k, rfl⟩ : ∃ m, k = m + 1 := ⟨k - 1, by omega⟩
        simp only [spec_l3blank.l1, skipN]
        rw [if_pos (by omega), if_pos (by omega), if_pos c, s0 k (by omega) (by omega), c]
        rw [skip_sp 10 _ (by decide)]; rfl
      · rw [s1 k (by omega) c]
        simp only [skipN]
        have : (bt s (i : Int) == 10) = false := by simpa using c
        rw [this]; rfl
theorem blank_eq (s : ByteArray) (hs : s.size ≤ 4000) (i : Nat) (hi : i ≤ s.size) (k : Nat) (hk : 8002 ≤ k) : spec_l3blank.f k s (i : Int) = some ((i + skipN false ((bytesOf s).drop i) : Nat) : Int) := by
  unfold spec_l3blank.f
  exact (spec_blank s hs _ i hi rfl).1 k (by omega)
theorem num_fin (s : ByteArray) (hs : s.size ≤ 4000) (a n : Nat) (h : a + n ≤ s.size) (k : Nat) (hk : 12010 ≤ k) :
    (if (0 : Int) ≤ (a : Int) then (if (a : Int) ≤ ((a + n : Nat) : Int) then (if ((a + n : Nat) : Int) ≤ (s.size : Int) then ((spec_ReadDec.f k (s.extract (a : Int).toNat (((a + n : Nat) : Int)).toNat)).bind fun bt773 => (some ((1 : Int), (⟨#[]⟩ : ByteArray), bt773.1, (a : Int), ((a + n : Nat) : Int)))) else (none)) else (none)) else (none)) = some (1, strOfNums [], readL (((bytesOf s).drop a).take n), (a : Int), ((a + n : Nat) : Int)) := by
  rw [if_pos (by omega), if_pos (by omega), if_pos (by omega), Int.toNat_natCast, Int.toNat_natCast, specReadDec_eq _ (by rw [ByteArray.size_extract]; omega) k (by rw [ByteArray.size_extract]; omega), Option.bind_some, extract_nums, show a + n - a = n by omega]
  unfold readL
  exact Eq.refl _
theorem num_l1 (s : ByteArray) (hs : s.size ≤ 4000) (a e : Nat) (he : a ≤ e) (d : Nat) : ∀ (j k : Nat), a ≤ j → j ≤ s.size → s.size - j = d → 12011 + d ≤ k → j + runL isDg ((bytesOf s).drop j) = e →
    spec_l3num.l1 k s (a : Int) (j : Int) = some (1, strOfNums [], readL (((bytesOf s).drop a).take (e - a)), (a : Int), (e : Int)) := by
  induction d with
  | zero =>
    intro j k ha hj hd hk hr
    obtain ⟨k, rfl⟩ : ∃ m, k = m + 1 := ⟨k - 1, by omega⟩
    rw [bytes_end s j (by omega)] at hr
    have hr : j = e := by simp only [runL] at hr; omega
    subst hr
    simp only [spec_l3num.l1]
    have := num_fin s hs a (j - a) (by omega) k (by omega)
    rw [show a + (j - a) = j by omega] at this
    rw [if_neg (by omega)]; exact this
  | succ d ih =>
    intro j k ha hj hd hk hr
    obtain ⟨k, rfl⟩ : ∃ m, k = m + 1 := ⟨k - 1, by omega⟩
    have hlt : j < s.size := by omega
    rw [bytes_drop s j hlt] at hr
    simp only [runL] at hr
    simp only [spec_l3num.l1]
    rw [if_pos (by omega), if_pos (by omega), digit_eq, Option.bind_some]
    by_cases c : isDg (bt s (j : Int)) = true
    · rw [if_pos c] at hr ⊢
      rw [wadd1 j (by omega)]
      exact ih (j + 1) k (by omega) (by omega) (by omega) (by omega) (by omega)
    · rw [if_neg c] at hr ⊢
      have hr : j = e := by omega
      subst hr
      have := num_fin s hs a (j - a) (by omega) k (by omega)
      rw [show a + (j - a) = j by omega] at this
      exact this
theorem num_j1 (s : ByteArray) (hs : s.size ≤ 4000) (a : Nat) (ha : a < s.size) (k : Nat) (hk : 16020 ≤ k) :
    spec_l3num.j1 k s (a : Int) ((a + runL isDg ((bytesOf s).drop a) : Nat) : Int) = some (1, strOfNums [], readL (((bytesOf s).drop a).take (numL ((bytesOf s).drop a))), (a : Int), ((a + numL ((bytesOf s).drop a) : Nat) : Int)) := by
  obtain ⟨k, rfl⟩ : ∃ m, k = m + 1 + 1 := ⟨k - 2, by omega⟩
  have hle := runL_le isDg ((bytesOf s).drop a)
  rw [List.length_drop, bytes_size] at hle
  unfold numL
  rw [List.drop_drop, List.drop_drop]
  generalize runL isDg ((bytesOf s).drop a) = n at *
  have hfalse : spec_l3num.j2 (k + 1) s (a : Int) ((a + n : Nat) : Int) false = some (1, strOfNums [], readL (((bytesOf s).drop a).take n), (a : Int), ((a + n : Nat) : Int)) := by
    simp only [spec_l3num.j2]
    rw [if_neg (by decide)]
    exact num_fin s hs a n (by omega) k (by omega)
  simp only [spec_l3num.j1]
  rw [wadd1 (a + n) (by omega)]
  by_cases cl : a + n + 1 < s.size
  · rw [if_pos (by omega), if_pos (by omega), if_pos (by omega)]
    have hdr : (bytesOf s).drop (a + n) = bt s ((a + n : Nat) : Int) :: bt s ((a + n + 1 : Nat) : Int) :: (bytesOf s).drop (a + n + 2) := by
      rw [bytes_drop s (a + n) (by omega), bytes_drop s (a + n + 1) cl]
    have hhd : headDot ((bytesOf s).drop (a + n)) = (bt s ((a + n : Nat) : Int) == 46 && isDg (bt s ((a + n + 1 : Nat) : Int))) := by rw [hdr]; rfl
    rw [hhd]
    by_cases cd : bt s ((a + n : Nat) : Int) = 46
    · rw [if_pos cd, if_pos (by omega), digit_eq, Option.bind_some]
      have e46 : (bt s ((a + n : Nat) : Int) == 46) = true := by rw [cd]; rfl
      rw [e46, Bool.true_and]
      by_cases ce : isDg (bt s ((a + n + 1 : Nat) : Int)) = true
      · rw [ce, if_pos rfl]
        simp only [spec_l3num.j2]
        rw [if_pos trivial, wadd1 (a + n) (by omega)]
        have hle2 := runL_le isDg ((bytesOf s).drop (a + n + 1))
        rw [List.length_drop, bytes_size] at hle2
        rw [show a + (n + 1) = a + n + 1 by omega]
        have := num_l1 s hs a (a + n + 1 + runL isDg ((bytesOf s).drop (a + n + 1))) (by omega) _ (a + n + 1) k (by omega) (by omega) rfl (by omega) rfl
        rw [this]
        generalize runL isDg ((bytesOf s).drop (a + n + 1)) = q
        rw [show a + n + 1 + q - a = n + 1 + q by omega, show a + n + 1 + q = a + (n + 1 + q) by omega]
      · rw [Bool.eq_false_iff.mpr ce, hfalse]
        rw [if_neg (by decide)]
    · rw [if_neg cd, hfalse]
      have e46 : (bt s ((a + n : Nat) : Int) == 46) = false := by rw [beq_eq_false_iff_ne]; exact cd
      rw [e46, Bool.false_and, if_neg (by decide)]
  · rw [if_neg (by omega), hfalse]
    have hhd : headDot ((bytesOf s).drop (a + n)) = false := by
      by_cases ce : a + n < s.size
      · rw [bytes_drop s (a + n) ce, bytes_end s (a + n + 1) (by omega)]; rfl
      · rw [bytes_end s (a + n) (by omega)]; rfl
    rw [hhd, if_neg (by decide)]
theorem num_l0 (s : ByteArray) (hs : s.size ≤ 4000) (a : Nat) (ha : a < s.size) (d : Nat) : ∀ (j k : Nat), j ≤ s.size → s.size - j = d → 16021 + d ≤ k → j + runL isDg ((bytesOf s).drop j) = a + runL isDg ((bytesOf s).drop a) →
    spec_l3num.l0 k s (a : Int) (j : Int) = some (1, strOfNums [], readL (((bytesOf s).drop a).take (numL ((bytesOf s).drop a))), (a : Int), ((a + numL ((bytesOf s).drop a) : Nat) : Int)) := by
  induction d with
  | zero =>
    intro j k hj hd hk hr
    obtain ⟨k, rfl⟩ : ∃ m, k = m + 1 := ⟨k - 1, by omega⟩
    rw [bytes_end s j (by omega)] at hr
    simp only [spec_l3num.l0]
    rw [if_neg (by omega)]
    have e : j = a + runL isDg ((bytesOf s).drop a) := hr
    rw [e]
    exact num_j1 s hs a ha k (by omega)
  | succ d ih =>
    intro j k hj hd hk hr
    obtain ⟨k, rfl⟩ : ∃ m, k = m + 1 := ⟨k - 1, by omega⟩
    have hlt : j < s.size := by omega
    rw [bytes_drop s j hlt] at hr
    simp only [spec_l3num.l0]
    rw [if_pos (by omega), if_pos (by omega), digit_eq, Option.bind_some]
    by_cases c : isDg (bt s (j : Int)) = true
    · rw [if_pos c, wadd1 j (by omega)]
      have e : runL isDg (bt s (j : Int) :: (bytesOf s).drop (j + 1)) = runL isDg ((bytesOf s).drop (j + 1)) + 1 := by simp only [runL]; rw [if_pos c]
      exact ih (j + 1) k (by omega) (by omega) (by omega) (by omega)
    · rw [if_neg c]
      have e : runL isDg (bt s (j : Int) :: (bytesOf s).drop (j + 1)) = 0 := by simp only [runL]; rw [if_neg c]
      have e2 : j = a + runL isDg ((bytesOf s).drop a) := by omega
      rw [e2]
      exact num_j1 s hs a ha k (by omega)
theorem spec_str (s : ByteArray) (hs : s.size ≤ 4000) (a : Int) (d : Nat) : ∀ (i k : Nat) (acc : List Int), i ≤ s.size → s.size - i ≤ d → d < k → acc.length + (s.size - i) ≤ 4000 →
    spec_l3str.l0 k s a acc (i : Int) = some (match strL false ((bytesOf s).drop i) with | some x => (2, strOfNums (acc ++ x.1), 0, a, ((i + x.2 : Nat) : Int)) | none => (0, (⟨#[]⟩ : ByteArray), 0, 0, -1)) := by
  induction d using Nat.strongRecOn with
  | ind d ih =>
    intro i k acc hi hd hk hacc
    obtain ⟨k, rfl⟩ : ∃ m, k = m + 1 := ⟨k - 1, by omega⟩
    simp only [spec_l3str.l0]
    by_cases hlt : i < s.size
    · rw [if_pos (by omega), if_pos (by omega), bytes_drop s i hlt, wadd1 i (by omega), wadd1 (i + 1) (by omega)]
      simp only [strL]
      by_cases c1 : bt s (i : Int) = 34
      · rw [if_pos c1, if_pos c1]; simp
      rw [if_neg c1, if_neg c1]
      by_cases c2 : bt s (i : Int) = 10
      · rw [if_pos c2, if_pos c2]
      rw [if_neg c2, if_neg c2]
      by_cases c3 : bt s (i : Int) = 92
      · rw [if_pos c3, if_pos c3]
        by_cases c4 : i + 1 < s.size
        · rw [if_neg (by omega), if_pos (by omega), if_pos (by omega), bytes_drop s (i + 1) c4]
          have step : ∀ e : Int, escL (bt s ((i + 1 : Nat) : Int)) = some e → (if acc.length < 140737488355328 then (spec_l3str.l0 k s a (acc ++ [e]) ((i + 1 + 1 : Nat) : Int)) else (none)) = some (match (strL true (bt s ((i + 1 : Nat) : Int) :: (bytesOf s).drop (i + 1 + 1))).map (fun x => (x.1, x.2 + 1)) with | some x => (2, strOfNums (acc ++ x.1), 0, a, ((i + x.2 : Nat) : Int)) | none => (0, (⟨#[]⟩ : ByteArray), 0, 0, -1)) := by
            intro e he
            rw [if_pos (by omega), ih (d - 2) (by omega) (i + 1 + 1) k (acc ++ [e]) (by omega) (by omega) (by omega) (by simp; omega)]
            simp only [strL]
            rw [he]
            cases strL false ((bytesOf s).drop (i + 1 + 1)) with
            | none => rfl
            | some x =>
              simp only [Option.bind_some, Option.map_some, List.append_assoc, List.cons_append, List.nil_append]
              rw [show i + 1 + 1 + x.2 = i + (x.2 + 1 + 1) by omega]
          by_cases q1 : bt s ((i + 1 : Nat) : Int) = 110
          · rw [if_pos q1]; exact step 10 (by rw [q1]; rfl)
          rw [if_neg q1]
          by_cases q2 : bt s ((i + 1 : Nat) : Int) = 116
          · rw [if_pos q2]; exact step 9 (by rw [q2]; rfl)
          rw [if_neg q2]
          by_cases q3 : bt s ((i + 1 : Nat) : Int) = 34
          · rw [if_pos q3]; exact step _ (by rw [q3]; rfl)
          rw [if_neg q3]
          by_cases q4 : bt s ((i + 1 : Nat) : Int) = 92
          · rw [if_pos q4]; exact step _ (by rw [q4]; rfl)
          rw [if_neg q4]
          simp only [strL]
          have : escL (bt s ((i + 1 : Nat) : Int)) = none := by unfold escL; rw [if_neg q1, if_neg q2, if_neg q3, if_neg q4]
          rw [this]; rfl
        · rw [if_pos (by omega), bytes_end s (i + 1) (by omega)]; rfl
      · rw [if_neg c3, if_neg c3, if_pos (by omega), ih (d - 1) (by omega) (i + 1) k (acc ++ [bt s (i : Int)]) (by omega) (by omega) (by omega) (by simp; omega)]
        cases strL false ((bytesOf s).drop (i + 1)) with
        | none => rfl
        | some x =>
          simp only [Option.map_some, List.append_assoc, List.cons_append, List.nil_append]
          rw [show i + 1 + x.2 = i + (x.2 + 1) by omega]
    · rw [if_neg (by omega), bytes_end s i (by omega)]; rfl
theorem spec_re (s : ByteArray) (hs : s.size ≤ 4000) (a : Nat) (d : Nat) : ∀ (i k : Nat), a + 1 ≤ i → s.size - i ≤ d → d < k → i ≤ s.size + 1 →
    spec_l3re.l0 k s (a : Int) (i : Int) = some (match reL false ((bytesOf s).drop i) with | some m => (3, s.extract (a + 1) (i + m - 1), 0, (a : Int), ((i + m : Nat) : Int)) | none => (0, (⟨#[]⟩ : ByteArray), 0, 0, -1)) := by
  induction d using Nat.strongRecOn with
  | ind d ih =>
    intro i k hi hd hk hi2
    obtain ⟨k, rfl⟩ : ∃ m, k = m + 1 := ⟨k - 1, by omega⟩
    simp only [spec_l3re.l0]
    by_cases hlt : i < s.size
    · rw [if_pos (by omega), if_pos (by omega), bytes_drop s i hlt, wadd1 i (by omega), wadd1 (i + 1) (by omega), wadd1 a (by omega)]
      simp only [reL]
      by_cases c1 : bt s (i : Int) = 47
      · rw [if_pos c1, if_pos c1, if_pos (by omega), if_pos (by omega), if_pos (by omega), Int.toNat_natCast, Int.toNat_natCast]
        simp
      rw [if_neg c1, if_neg c1]
      by_cases c3 : bt s (i : Int) = 92
      · rw [if_pos c3, if_pos c3]
        by_cases c4 : i + 1 < s.size
        · rw [if_neg (by omega), if_pos (by omega), if_pos (by omega), bytes_drop s (i + 1) c4]
          simp only [reL]
          by_cases c5 : bt s ((i + 1 : Nat) : Int) = 10
          · rw [if_pos c5, if_pos c5]; rfl
          · rw [if_neg c5, if_neg c5, ih (d - 2) (by omega) (i + 1 + 1) k (by omega) (by omega) (by omega) (by omega)]
            cases reL false ((bytesOf s).drop (i + 1 + 1)) with
            | none => rfl
            | some m =>
              simp only [Option.map_some]
              rw [show i + 1 + 1 + m - 1 = i + (m + 1 + 1) - 1 by omega, show i + 1 + 1 + m = i + (m + 1 + 1) by omega]
        · rw [if_pos (by omega), bytes_end s (i + 1) (by omega)]; rfl
      · rw [if_neg c3, if_neg c3, if_neg (by omega)]
        by_cases c2 : bt s (i : Int) = 10
        · rw [if_pos c2, if_pos c2]
        rw [if_neg c2, if_neg c2, ih (d - 1) (by omega) (i + 1) k (by omega) (by omega) (by omega) (by omega)]
        cases reL false ((bytesOf s).drop (i + 1)) with
        | none => rfl
        | some m =>
          simp only [Option.map_some]
          rw [show i + 1 + m - 1 = i + (m + 1) - 1 by omega, show i + 1 + m = i + (m + 1) by omega]
    · rw [if_neg (by omega), bytes_end s i (by omega)]; rfl
theorem spec_kw0 : isList kwL spec_l3words.f = true := by decide +kernel
theorem spec_kw : spec_l3words.f = some kwB := of_match spec_kw0
theorem spec_sg0 : isList sgL spec_l3signs.f = true := by decide +kernel
theorem spec_sg : spec_l3signs.f = some sgB := of_match spec_sg0
theorem rdOf_at (xs : List ByteArray) (i : Nat) (h : i < xs.length) : rdOf ByteArray.empty xs (i : Int) = xs[i] := by
  unfold rdOf; rw [Int.toNat_natCast, List.getD_eq_getElem?_getD, List.getElem?_eq_getElem h]; rfl
theorem word_l0 (xs : List ByteArray) (x : ByteArray) (hx : xs.length ≤ 1000) (d : Nat) : ∀ (i k : Nat), i + d = xs.length → d < k → spec_IsWord.l0 k x xs (i : Int) = some ((xs.drop i).any (fun y => bytesOf y == bytesOf x)) := by
  induction d with
  | zero =>
    intro i k hi hk
    obtain ⟨k, rfl⟩ : ∃ m, k = m + 1 := ⟨k - 1, by omega⟩
    simp only [spec_IsWord.l0]
    rw [if_neg (by omega), List.drop_eq_nil_iff.2 (by omega)]; rfl
  | succ d ih =>
    intro i k hi hk
    obtain ⟨k, rfl⟩ : ∃ m, k = m + 1 := ⟨k - 1, by omega⟩
    simp only [spec_IsWord.l0]
    have hlt : i < xs.length := by omega
    rw [if_pos (by omega), if_pos (by omega), wadd1 i (by omega), rdOf_at xs i hlt, List.drop_eq_getElem_cons hlt, List.any_cons]
    by_cases c : xs[i].toList = x.toList
    · rw [if_pos c]
      have := (toList_iff _ _).1 c
      simp [this]
    · rw [if_neg c, ih (i + 1) k (by omega) (by omega)]
      have : (bytesOf xs[i] == bytesOf x) = false := by
        rw [beq_eq_false_iff_ne]; intro h; exact c ((toList_iff _ _).2 h)
      rw [this, Bool.false_or]
theorem spec_isW (x : ByteArray) (k : Nat) (hk : 30 ≤ k) : spec_IsWord.f k x = some (isW (bytesOf x)) := by
  unfold spec_IsWord.f
  rw [spec_kw, Option.bind_some]
  have h := word_l0 kwB x (by rw [kw_len]; omega) 22 0 k (by rw [kw_len]) (by omega)
  rw [List.drop_zero, kw_any] at h
  exact h
theorem prefix_take (g l : List Int) : (g.isPrefixOf l = true) ↔ (g.length ≤ l.length ∧ l.take g.length = g) := by
  rw [List.isPrefixOf_iff_prefix]
  constructor
  · intro h
    exact ⟨h.length_le, (List.prefix_iff_eq_take.1 h).symm⟩
  · intro h
    exact List.prefix_iff_eq_take.2 h.2.symm
theorem sign_l0 (s : ByteArray) (hs : s.size ≤ 4000) (a : Nat) (ha : a ≤ s.size) (xs : List ByteArray) (hx : xs.length ≤ 1000) (hl : ∀ g ∈ xs, g.size ≤ 1000) (d : Nat) : ∀ (i k : Nat), i + d = xs.length → d < k →
    spec_l3sign.l0 k s (a : Int) xs (i : Int) = some (match (xs.drop i).find? (fun g => (bytesOf g).isPrefixOf ((bytesOf s).drop a)) with | some g => (7, g, 0, (a : Int), ((a + g.size : Nat) : Int)) | none => (0, (⟨#[]⟩ : ByteArray), 0, 0, -1)) := by
  induction d with
  | zero =>
    intro i k hi hk
    obtain ⟨k, rfl⟩ : ∃ m, k = m + 1 := ⟨k - 1, by omega⟩
    simp only [spec_l3sign.l0]
    have hn : xs.drop i = [] := List.drop_eq_nil_iff.2 (by omega)
    rw [if_neg (by omega), hn]; rfl
  | succ d ih =>
    intro i k hi hk
    obtain ⟨k, rfl⟩ : ∃ m, k = m + 1 := ⟨k - 1, by omega⟩
    simp only [spec_l3sign.l0]
    have hlt : i < xs.length := by omega
    have hg := hl xs[i] (List.getElem_mem hlt)
    have ih := ih (i + 1) k (by omega) (by omega)
    rw [if_pos (by omega), if_pos (by omega), wadd1 i (by omega), rdOf_at xs i hlt, List.drop_eq_getElem_cons hlt]
    generalize xs[i] = g at *
    rw [wadd a g.size (by omega)]
    have hp := prefix_take (bytesOf g) ((bytesOf s).drop a)
    rw [bytes_size, List.length_drop, bytes_size] at hp
    by_cases c1 : a + g.size ≤ s.size
    · rw [if_pos (by omega), if_pos (by omega), if_pos (by omega), Int.toNat_natCast, Int.toNat_natCast]
      have he : bytesOf (s.extract a (a + g.size)) = ((bytesOf s).drop a).take g.size := by rw [bytesOf_extract, show a + g.size - a = g.size by omega]
      by_cases c2 : (s.extract a (a + g.size)).toList = g.toList
      · rw [if_pos c2]
        have h2 := (toList_iff _ _).1 c2
        rw [he] at h2
        have : (bytesOf g).isPrefixOf ((bytesOf s).drop a) = true := hp.2 ⟨by omega, h2⟩
        simp only [List.find?_cons, this]
      · rw [if_neg c2]
        have : (bytesOf g).isPrefixOf ((bytesOf s).drop a) = false := by
          rw [Bool.eq_false_iff]; intro h
          exact c2 ((toList_iff _ _).2 (by rw [he]; exact (hp.1 h).2))
        simp only [List.find?_cons, this]
        exact ih
    · rw [if_neg (by omega)]
      have : (bytesOf g).isPrefixOf ((bytesOf s).drop a) = false := by
        rw [Bool.eq_false_iff]; intro h
        have := (hp.1 h).1
        omega
      simp only [List.find?_cons, this]
      exact ih
theorem sg_short : ∀ g ∈ sgB, g.size ≤ 1000 := by
  intro g hg
  unfold sgB at hg
  obtain ⟨l, hl, rfl⟩ := List.mem_map.1 hg
  rw [strOfNums_size]
  have : ∀ l ∈ sgL, l.length ≤ 2 := by decide
  have := this l hl
  omega
theorem name_j1 (s : ByteArray) (hs : s.size ≤ 4000) (a : Nat) (ha : a < s.size) (k : Nat) (hk : 50 ≤ k) :
    spec_l3name.j1 k s (a : Int) ((a + runL isNm ((bytesOf s).drop a) : Nat) : Int) = some (if runL isNm ((bytesOf s).drop a) > 40 then (0, (⟨#[]⟩ : ByteArray), 0, 0, -1) else
      ((if isW (((bytesOf s).drop a).take (runL isNm ((bytesOf s).drop a))) = true then 6 else if (((bytesOf s).drop a).drop (runL isNm ((bytesOf s).drop a))).head? = some 40 then 5 else 4), strOfNums (((bytesOf s).drop a).take (runL isNm ((bytesOf s).drop a))), 0, (a : Int), ((a + runL isNm ((bytesOf s).drop a) : Nat) : Int))) := by
  obtain ⟨k, rfl⟩ : ∃ m, k = m + 1 := ⟨k - 1, by omega⟩
  have hle := runL_le isNm ((bytesOf s).drop a)
  rw [List.length_drop, bytes_size] at hle
  rw [List.drop_drop]
  generalize runL isNm ((bytesOf s).drop a) = n at *
  simp only [spec_l3name.j1]
  have w : wrap64 (((a + n : Nat) : Int) - (a : Int)) = (n : Int) := by rw [w64 (by omega) (by omega)]; omega
  rw [if_pos (by omega), if_pos (by omega), if_pos (by omega), w]
  clear w
  by_cases c : n > 40
  · rw [if_pos (by omega), if_pos c]
  · rw [if_neg (by omega), if_neg c, Int.toNat_natCast, Int.toNat_natCast, spec_isW _ k (by omega), Option.bind_some, bytesOf_extract, extract_nums, show a + n - a = n by omega]
    by_cases cw : isW (((bytesOf s).drop a).take n) = true
    · rw [if_pos cw, if_pos cw]
    · rw [if_neg cw, if_neg cw]
      by_cases ce : a + n < s.size
      · rw [if_pos (by omega), if_pos (by omega), bytes_drop s (a + n) ce]
        by_cases cp : bt s ((a + n : Nat) : Int) = 40
        · rw [if_pos cp, cp]; rfl
        · rw [if_neg cp]
          have hh : ¬ (bt s ((a + n : Nat) : Int) :: (bytesOf s).drop (a + n + 1)).head? = some 40 := fun h => cp (Option.some.inj h)
          rw [if_neg hh]
      · rw [if_neg (by omega), bytes_end s (a + n) (by omega), if_neg (fun h => by cases h)]
theorem name_l0 (s : ByteArray) (hs : s.size ≤ 4000) (a : Nat) (v) (d : Nat)
    (hv : ∀ k, 50 ≤ k → spec_l3name.j1 k s (a : Int) ((a + runL isNm ((bytesOf s).drop a) : Nat) : Int) = v) : ∀ (j k : Nat), j ≤ s.size → s.size - j = d → 51 + d ≤ k → j + runL isNm ((bytesOf s).drop j) = a + runL isNm ((bytesOf s).drop a) →
    spec_l3name.l0 k s (a : Int) (j : Int) = v := by
  induction d with
  | zero =>
    intro j k hj hd hk hr
    obtain ⟨k, rfl⟩ : ∃ m, k = m + 1 := ⟨k - 1, by omega⟩
    rw [bytes_end s j (by omega)] at hr
    simp only [spec_l3name.l0]
    rw [if_neg (by omega)]
    have e : j = a + runL isNm ((bytesOf s).drop a) := hr
    rw [e]
    exact hv k (by omega)
  | succ d ih =>
    intro j k hj hd hk hr
    obtain ⟨k, rfl⟩ : ∃ m, k = m + 1 := ⟨k - 1, by omega⟩
    have hlt : j < s.size := by omega
    rw [bytes_drop s j hlt] at hr
    simp only [spec_l3name.l0]
    rw [if_pos (by omega), if_pos (by omega), spec_nm, Option.bind_some]
    by_cases c : isNm (bt s (j : Int)) = true
    · rw [if_pos c, wadd1 j (by omega)]
      have e : runL isNm (bt s (j : Int) :: (bytesOf s).drop (j + 1)) = runL isNm ((bytesOf s).drop (j + 1)) + 1 := by simp only [runL]; rw [if_pos c]
      exact ih (j + 1) k (by omega) (by omega) (by omega) (by omega)
    · rw [if_neg c]
      have e : runL isNm (bt s (j : Int) :: (bytesOf s).drop (j + 1)) = 0 := by simp only [runL]; rw [if_neg c]
      have e2 : j = a + runL isNm ((bytesOf s).drop a) := by omega
      rw [e2]
      exact hv k (by omega)
def lastO (l : List S60) : Bool := match l.getLast? with | none => false | some t => opnd t.f0 (bytesOf t.f1)
theorem operand_eq (l : List S60) (hl : l.length ≤ 4000) : spec_l3operand.f l = some (lastO l) := by
  unfold spec_l3operand.f
  rcases List.eq_nil_or_concat l with rfl | ⟨m, t, rfl⟩
  · rw [if_pos (by simp)]; rfl
  · rw [List.concat_eq_append] at *
    have hlen : (m ++ [t]).length = m.length + 1 := by simp
    have w : wrap64 (((m ++ [t]).length : Int) - 1) = (m.length : Int) := by rw [w64 (by omega) (by omega)]; omega
    have hrd : rd_T60 (m ++ [t]) (m.length : Int) = t := by
      unfold rd_T60; rw [Int.toNat_natCast, List.getD_eq_getElem?_getD, List.getElem?_concat_length]; rfl
    rw [if_neg (by omega), w, hrd, if_pos (by omega), if_pos (by omega)]
    have e := impl_opnd t.f0 t.f1 0 0
    unfold impl_endsOperand.f at e
    have e2 : lastO (m ++ [t]) = opnd t.f0 (bytesOf t.f1) := by unfold lastO; rw [List.getLast?_concat]
    rw [e2]
    exact e
theorem lastO_concat (l : List S60) (k : Int) (S : ByteArray) (N a : Int) : lastO (l ++ [⟨k, S, N, a⟩]) = opnd k (bytesOf S) := by unfold lastO; rw [List.getLast?_concat]
def AtR (a : Nat) : Option (Int × List Int × Int × Nat) → (Int × ByteArray × Int × Int × Int) → Prop
  | none, v => v.2.2.2.2 = -1
  | some (k, S, N, n), v => v = (k, strOfNums S, N, (a : Int), ((a + n : Nat) : Int))
theorem specLex_l0 (s : ByteArray) (hs : s.size ≤ 4000) (d : Nat) : ∀ (i k f : Nat) (acc : List S60), i ≤ s.size → s.size - i = d → d < f → 2 * d + 30000 ≤ k → acc.length ≤ i → skipN false ((bytesOf s).drop i) = 0 →
    spec_Lex.l0 k s acc (i : Int) = some (lexT f i ((bytesOf s).drop i) acc (lastO acc)) := by
  induction d using Nat.strongRecOn with
  | ind d ih =>
    intro i k f acc hi hd hf hk hacc hsk
    obtain ⟨k, rfl⟩ : ∃ m, k = m + 1 + 1 := ⟨k - 2, by omega⟩
    obtain ⟨f, rfl⟩ : ∃ m, f = m + 1 := ⟨f - 1, by omega⟩
    simp only [lexT]
    rw [hsk, List.drop_zero]
    simp only [Nat.add_zero]
    by_cases hlt : i < s.size
    · have hb := bytes_drop s i hlt
      have hg := (bytes_good s).drop i
      rw [hb] at hg ⊢
      dsimp only
      -- what stands behind a word that was read
      have fin : ∀ (k' : Nat) (o : Bool), k + 1 ≤ k' + 1 → ∀ v, AtR i (lexL o (bt s (i : Int) :: (bytesOf s).drop (i + 1))) v →
          (if v.2.2.2.2 < 0 then (some (([] : List S60), (i : Int))) else (if acc.length < 3518437208883 then ((spec_l3blank.f k' s v.2.2.2.2).bind fun t => (spec_Lex.l0 k' s (acc ++ [(⟨v.1, v.2.1, v.2.2.1, v.2.2.2.1⟩ : S60)]) t)) else (none)))
          = some (match lexL o (bt s (i : Int) :: (bytesOf s).drop (i + 1)) with | none => (([] : List S60), (i : Int)) | some (K, S, N, n) => lexT f (i + n) ((bt s (i : Int) :: (bytesOf s).drop (i + 1)).drop n) (acc ++ [⟨K, strOfNums S, N, (i : Int)⟩]) (opnd K S)) := by
        intro k' o hk' v hv
        cases hx : lexL o (bt s (i : Int) :: (bytesOf s).drop (i + 1)) with
        | none =>
          rw [hx] at hv
          have hv : v.2.2.2.2 = -1 := hv
          rw [if_pos (by omega)]
        | some x =>
          obtain ⟨K, S, N, n⟩ := x
          rw [hx] at hv
          have hv : v = (K, strOfNums S, N, (i : Int), ((i + n : Nat) : Int)) := hv
          subst hv
          dsimp only
          have hn := lex_len _ _ _ _ _ _ hx
          rw [← hb, List.length_drop, bytes_size] at hn
          have hS := bytes_back S (lex_good _ _ hg _ _ _ _ hx).1
          rw [if_neg (by omega), if_pos (by omega), blank_eq s hs (i + n) (by omega) k' (by omega), Option.bind_some]
          have hle := skip_le false ((bytesOf s).drop (i + n))
          rw [List.length_drop, bytes_size] at hle
          generalize hm : skipN false ((bytesOf s).drop (i + n)) = m at *
          have hsk0 : skipN false ((bytesOf s).drop (i + n + m)) = 0 := by
            cases hq : (bytesOf s).drop (i + n + m) with
            | nil => rfl
            | cons c t =>
              have := skip_head false ((bytesOf s).drop (i + n)) c t (by rw [hm, List.drop_drop]; exact hq)
              exact skip_none c t this.1 this.2
          rw [ih (d - (n + m)) (by omega) (i + n + m) k' f _ (by omega) (by omega) (by omega) (by omega) (by simp; omega) hsk0, lastO_concat, hS, ← hb, List.drop_drop]
          congr 1
          obtain ⟨f, rfl⟩ : ∃ q, f = q + 1 := ⟨f - 1, by omega⟩
          refine (lexT_skip f (i + n) _ _ m _ _ ?_ ?_).symm
          · rw [hm, hsk0]; rfl
          · rw [List.drop_drop]
      simp only [spec_Lex.l0]
      rw [if_pos (by omega), if_pos (by omega), digit_eq, Option.bind_some]
      by_cases c1 : isDg (bt s (i : Int)) = true
      · rw [if_pos c1]
        unfold spec_l3num.f
        rw [num_l0 s hs i hlt _ i (k + 1) hi rfl (by omega) rfl, Option.bind_some]
        refine fin (k + 1) (lastO acc) (by omega) _ ?_
        simp only [lexL]
        rw [if_pos c1, ← hb]
        exact Eq.refl _
      rw [if_neg c1]
      by_cases c2 : bt s (i : Int) = 34
      · rw [if_pos c2]
        unfold spec_l3str.f
        rw [wadd1 i (by omega), spec_str s hs (i : Int) _ (i + 1) (k + 1) [] (by omega) (Nat.le_refl _) (by omega) (by simp; omega), Option.bind_some]
        refine fin (k + 1) (lastO acc) (by omega) _ ?_
        simp only [lexL]
        rw [if_neg c1, if_pos c2]
        cases strL false ((bytesOf s).drop (i + 1)) with
        | none => rfl
        | some x =>
          show (2, strOfNums ([] ++ x.1), 0, _, _) = _
          rw [List.nil_append, show i + 1 + x.2 = i + (x.2 + 1) by omega]
      rw [if_neg c2, spec_lt, Option.bind_some]
      by_cases c3 : isLt (bt s (i : Int)) = true
      · rw [if_pos c3]
        unfold spec_l3name.f
        rw [name_l0 s hs i _ _ (fun k hk => name_j1 s hs i hlt k hk) i (k + 1) hi rfl (by omega) rfl, Option.bind_some]
        have h47 : ¬ (bt s (i : Int) = 47 ∧ lastO acc = false) := by
          intro h; rw [h.1] at c3; exact absurd c3 (by decide)
        refine fin (k + 1) (lastO acc) (by omega) _ ?_
        simp only [lexL]
        rw [if_neg c1, if_neg c2, if_neg h47, if_pos c3, ← hb]
        by_cases c40 : runL isNm ((bytesOf s).drop i) > 40
        · rw [if_pos c40, if_pos c40]; rfl
        · rw [if_neg c40, if_neg c40]; exact Eq.refl _
      rw [if_neg c3]
      have sign : (bt s (i : Int) = 47 → lastO acc = true) → spec_Lex.j1 (k + 1) s acc (i : Int) false = some (match lexL (lastO acc) (bt s (i : Int) :: (bytesOf s).drop (i + 1)) with | none => (([] : List S60), (i : Int)) | some (K, S, N, n) => lexT f (i + n) ((bt s (i : Int) :: (bytesOf s).drop (i + 1)).drop n) (acc ++ [⟨K, strOfNums S, N, (i : Int)⟩]) (opnd K S)) := by
        intro ho
        simp only [spec_Lex.j1]
        rw [if_neg (by decide)]
        unfold spec_l3sign.f
        have hx := sign_l0 s hs i hi sgB (by rw [sg_len]; omega) sg_short 27 0 k (by rw [sg_len]) (by omega)
        rw [show ((0 : Nat) : Int) = 0 from rfl] at hx
        rw [spec_sg, Option.bind_some, hx, Option.bind_some, List.drop_zero]
        have h47 : ¬ (bt s (i : Int) = 47 ∧ lastO acc = false) := by
          intro h; rw [ho h.1] at h; exact absurd h.2 (by decide)
        refine fin k (lastO acc) (by omega) _ ?_
        simp only [lexL]
        rw [if_neg c1, if_neg c2, if_neg h47, if_neg c3, ← hb, ← sg_find]
        cases sgB.find? (fun g => (bytesOf g).isPrefixOf ((bytesOf s).drop i)) with
        | none => rfl
        | some g =>
          show (7, g, (0 : Int), (i : Int), ((i + g.size : Nat) : Int)) = (7, strOfNums (bytesOf g), 0, (i : Int), ((i + (bytesOf g).length : Nat) : Int))
          rw [nums_of_bytes, bytes_size]
      by_cases c4 : bt s (i : Int) = 47
      · rw [if_pos c4, operand_eq acc (by omega), Option.bind_some]
        by_cases c5 : lastO acc = true
        · rw [c5, Bool.not_true]
          have hs := sign (fun _ => c5)
          rw [c5] at hs
          exact hs
        · have c5 := Bool.eq_false_iff.mpr c5
          rw [c5, Bool.not_false]
          simp only [spec_Lex.j1]
          rw [if_pos trivial]
          unfold spec_l3re.f
          rw [wadd1 i (by omega), spec_re s hs i _ (i + 1) k (by omega) (Nat.le_refl _) (by omega) (by omega), Option.bind_some]
          refine fin k false (by omega) _ ?_
          simp only [lexL]
          rw [if_neg c1, if_neg c2, if_pos ⟨c4, trivial⟩]
          cases hm : reL false ((bytesOf s).drop (i + 1)) with
          | none => rfl
          | some m =>
            have := re_back [] _ _ _ hm
            show (3, s.extract (i + 1) (i + 1 + m - 1), 0, _, _) = _
            rw [extract_nums, show i + 1 + m - 1 - (i + 1) = m - 1 by omega]
            rw [show i + 1 + m = i + (m + 1) by omega]
      · rw [if_neg c4]
        exact sign (fun h => absurd h c4)
    · rw [bytes_end s i (by omega)]
      simp only [spec_Lex.l0]
      rw [if_neg (by omega)]
theorem specLex_eq (s : ByteArray) (hs : s.size ≤ 4000) (k : Nat) (hk : 40000 ≤ k) : spec_Lex.f k s = some (lexT (s.size + 1) 0 (bytesOf s) [] false) := by
  unfold spec_Lex.f
  have hb := blank_eq s hs 0 (by omega) k (by omega)
  rw [show ((0 : Nat) : Int) = 0 from rfl, List.drop_zero] at hb
  rw [if_neg (by omega), hb, Option.bind_some]
  have hle := skip_le false (bytesOf s)
  rw [bytes_size] at hle
  generalize hm : skipN false (bytesOf s) = m at *
  rw [Nat.zero_add]
  have hsk0 : skipN false ((bytesOf s).drop m) = 0 := by
    cases hq : (bytesOf s).drop m with
    | nil => rfl
    | cons c t =>
      have := skip_head false (bytesOf s) c t (by rw [hm]; exact hq)
      exact skip_none c t this.1 this.2
  rw [specLex_l0 s hs (s.size - m) m k (s.size + 1) [] hle rfl (by omega) (by omega) (by simp) hsk0]
  congr 1
  have := lexT_skip s.size 0 (bytesOf s) ((bytesOf s).drop m) m [] false (by rw [hm, hsk0]; rfl) rfl
  rw [Nat.zero_add] at this
  exact this.symm
theorem and255 (x : Int) : 0 ≤ Go.bits .and .i64 x 255 ∧ Go.bits .and .i64 x 255 ≤ 255 := by
  have h : ((BitVec.ofInt 64 x) &&& (BitVec.ofInt 64 255)).toNat ≤ 255 := by
    rw [BitVec.toNat_and]
    exact Nat.and_le_right
  have e : Go.bits .and .i64 x 255 = IntKind.i64.wrap (((BitVec.ofInt 64 x) &&& (BitVec.ofInt 64 255)).toNat : Int) := rfl
  rw [e, IntKind.wrap_i64]
  omega
theorem l1Byte_some (b : List Int) (i h : Int) (hi : 0 ≤ i) (hb : b.length ≤ 9223372036854775807) : ∃ r i' h', spec_l1Byte.f b i h = some (r, i', h') ∧ 0 ≤ i' ∧ 0 ≤ r ∧ r ≤ 255 := by
  unfold spec_l1Byte.f
  by_cases h1 : i < (b.length : Int)
  · rw [if_pos h1, if_pos hi]
    refine ⟨_, _, _, rfl, ?_, and255 _⟩
    unfold wrap64; omega
  · rw [if_neg h1]
    exact ⟨_, _, _, rfl, hi, and255 _⟩
theorem l1Below_some (b : List Int) (i h n : Int) (hi : 0 ≤ i) (hb : b.length ≤ 9223372036854775807) : ∃ r i' h', spec_l1Below.f b i h n = some (r, i', h') ∧ 0 ≤ i' ∧ (n ≤ 0 → r = 0) ∧ (0 < n → n ≤ 256 → 0 ≤ r ∧ r < n) := by
  unfold spec_l1Below.f
  by_cases h0 : n ≤ 0
  · rw [if_pos h0]
    exact ⟨_, _, _, rfl, hi, fun _ => rfl, fun h => by omega⟩
  rw [if_neg h0]
  by_cases h1 : n ≤ 256
  · rw [if_pos h1]
    obtain ⟨r, i', h', e, hi', hr⟩ := l1Byte_some b i h hi hb
    rw [e, Option.bind_some, if_neg (by omega)]
    refine ⟨_, _, _, rfl, hi', fun h => by omega, fun _ _ => ?_⟩
    show 0 ≤ Int.tmod r n ∧ Int.tmod r n < n
    exact ⟨Int.tmod_nonneg _ hr.1, Int.tmod_lt_of_pos _ (by omega)⟩
  · rw [if_neg h1]
    obtain ⟨r1, i1, h1', e1, hi1, _⟩ := l1Byte_some b i h hi hb
    obtain ⟨r2, i2, h2', e2, hi2, _⟩ := l1Byte_some b i1 h1' hi1 hb
    obtain ⟨r3, i3, h3', e3, hi3, _⟩ := l1Byte_some b i2 h2' hi2 hb
    obtain ⟨r4, i4, h4', e4, hi4, _⟩ := l1Byte_some b i3 h3' hi3 hb
    rw [e1, Option.bind_some]
    dsimp only
    rw [e2, Option.bind_some]
    dsimp only
    rw [e3, Option.bind_some]
    dsimp only
    rw [e4, Option.bind_some, if_neg (by omega)]
    exact ⟨_, _, _, rfl, hi4, fun h => by omega, fun h h' => by omega⟩
theorem l1New_l0 (l : List Int) (hl : l.length ≤ 9223372036854775807) (d : Nat) : ∀ (i k : Nat) (h : Int), i ≤ l.length → l.length - i = d → d < k → ∃ h', spec_l1New.l0 k l h i = some (l, 0, h') := by
  induction d with
  | zero =>
    intro i k h hi hd hk
    obtain ⟨k, rfl⟩ : ∃ m, k = m + 1 := ⟨k - 1, by omega⟩
    simp only [spec_l1New.l0]; rw [if_neg (by omega)]
    exact ⟨_, rfl⟩
  | succ d ih =>
    intro i k h hi hd hk
    obtain ⟨k, rfl⟩ : ∃ m, k = m + 1 := ⟨k - 1, by omega⟩
    simp only [spec_l1New.l0]
    rw [if_pos (by omega)]
    by_cases c : (i : Int) < 4000
    · rw [if_pos c, if_pos (by omega)]
      have e : wrap64 ((i : Int) + 1) = ((i + 1 : Nat) : Int) := by unfold wrap64; omega
      rw [e]
      exact ih (i + 1) k _ (by omega) (by omega) (by omega)
    · rw [if_neg c]
      exact ⟨_, rfl⟩
theorem l1New_some (l : List Int) (hl : l.length ≤ 9223372036854775807) (k : Nat) (hk : l.length < k) : ∃ h, spec_l1New.f k l = some (l, 0, h) := by
  unfold spec_l1New.f
  exact l1New_l0 l hl l.length 0 k _ (by omega) (by omega) hk
def Dr {α : Type} (x : Option α) (P : α → Prop) : Prop := ∃ r, x = some r ∧ P r
theorem Dr.bind {α β : Type} {x : Option α} {P : α → Prop} {f : α → Option β} {R : β → Prop} (h : Dr x P) (g : ∀ r, P r → Dr (f r) R) : Dr (x.bind f) R := by
  obtain ⟨r, rfl, hp⟩ := h
  exact g r hp
theorem Dr.some {α : Type} {r : α} {P : α → Prop} (h : P r) : Dr (Option.some r) P := ⟨r, rfl, h⟩
theorem Dr.pos {α : Type} {c : Prop} [Decidable c] {x y : Option α} {P : α → Prop} (hc : c) (h : Dr x P) : Dr (if c then x else y) P := by rw [if_pos hc]; exact h
theorem Dr.ite {α : Type} {c : Prop} [Decidable c] {x y : Option α} {P : α → Prop} (h1 : c → Dr x P) (h2 : ¬ c → Dr y P) : Dr (if c then x else y) P := by
  by_cases hc : c
  · rw [if_pos hc]; exact h1 hc
  · rw [if_neg hc]; exact h2 hc
theorem Dr.mono {α : Type} {x : Option α} {P R : α → Prop} (h : Dr x P) (hr : ∀ r, P r → R r) : Dr x R := by
  obtain ⟨r, e, hp⟩ := h
  exact ⟨r, e, hr r hp⟩
end Go.Proofs.YtnfiljnncpieoaaDoor.Pure
namespace Go.Proofs.YtnfiljnncpieoaaDoor.Pure
open Go Go.RowKit Go.Proofs.YtnfiljnncpieoaaDoor.Q Go.Proofs.YtnfiljnncpieoaaDoorW.PrintWords Go.Proofs.YtnfiljnncpieoaaDoorW.PrintLast Go.Proofs.YtnfiljnncpieoaaDoorW.PrintMore
section
variable (b : List Int) (hb : b.length ≤ 9223372036854775807)
include hb
theorem below_dr (i h n : Int) (hi : 0 ≤ i) (hn : 0 < n) (hn2 : n ≤ 256) : Dr (spec_l1Below.f b i h n) (fun r => 0 ≤ r.2.1 ∧ 0 ≤ r.1 ∧ r.1 < n) := by
  obtain ⟨r, i', h', e, hi', _, hr⟩ := l1Below_some b i h n hi hb
  exact ⟨_, e, hi', hr hn hn2⟩
theorem of_l0 (n : Nat) (set : ByteArray) (h0 : 0 < set.size) (h1 : set.size ≤ 256) (hn : n ≤ 1000) (d : Nat) : ∀ (j k : Nat) (x : List Int) (i h : Int), 0 ≤ i → j + d = n → d < k → x.length = j →
    Dr (spec_l1of.l0 k (n : Int) set x (j : Int) b i h) (fun r => r.1.size = n ∧ 0 ≤ r.2.1 ∧ ∃ y, r.1 = strOfNums (x ++ y) ∧ ∀ c ∈ y, ∃ q : Nat, q < set.size ∧ c = bt set q) := by
  induction d with
  | zero =>
    intro j k x i h hi hj hk hx
    obtain ⟨k, rfl⟩ : ∃ m, k = m + 1 := ⟨k - 1, by omega⟩
    simp only [spec_l1of.l0]
    rw [if_neg (by omega)]
    exact Dr.some ⟨by rw [strOfNums_size]; omega, hi, [], by simp, by simp⟩
  | succ d ih =>
    intro j k x i h hi hj hk hx
    obtain ⟨k, rfl⟩ : ∃ m, k = m + 1 := ⟨k - 1, by omega⟩
    simp only [spec_l1of.l0]
    rw [if_pos (by omega)]
    refine Dr.bind (below_dr b hb i h (set.size : Int) hi (by omega) (by omega)) ?_
    rintro ⟨r, i', h'⟩ ⟨hi', hr0, hr1⟩
    dsimp only at hi' hr0 hr1 ⊢
    refine Dr.pos hr0 (Dr.pos hr1 (Dr.pos (by omega) ?_))
    rw [w64 (by omega) (by omega), show (j : Int) + 1 = ((j + 1 : Nat) : Int) by omega]
    refine (ih (j + 1) k (x ++ [bt set r]) i' h' hi' (by omega) (by omega) (by simp [hx])).mono ?_
    rintro ⟨s, i2, h2⟩ ⟨a1, a2, y, a3, a4⟩
    refine ⟨a1, a2, bt set r :: y, by rw [a3, List.append_assoc]; rfl, fun c hc => ?_⟩
    rcases List.mem_cons.1 hc with rfl | hc
    · obtain ⟨q, rfl⟩ := Int.eq_ofNat_of_zero_le hr0
      exact ⟨q, by omega, rfl⟩
    · exact a4 c hc
theorem of_dr (k n : Nat) (i h : Int) (set : ByteArray) (hi : 0 ≤ i) (h0 : 0 < set.size) (h1 : set.size ≤ 256) (hn : n ≤ 1000) (hk : n < k) :
    Dr (spec_l1of.f k b i h (n : Int) set) (fun r => r.1.size = n ∧ 0 ≤ r.2.1 ∧ ∃ y, r.1 = strOfNums y ∧ ∀ c ∈ y, ∃ q : Nat, q < set.size ∧ c = bt set q) := by
  unfold spec_l1of.f
  refine (of_l0 b hb n set h0 h1 hn n 0 k [] i h hi (by omega) (by omega) rfl).mono ?_
  rintro ⟨s, i2, h2⟩ ⟨a1, a2, y, a3, a4⟩
  exact ⟨a1, a2, y, by simpa using a3, a4⟩
theorem of_dr' (k : Nat) (n : Int) (i h : Int) (set : ByteArray) (hi : 0 ≤ i) (h0 : 0 < set.size) (h1 : set.size ≤ 256) (hn0 : 0 ≤ n) (hn : n ≤ 1000) (hk : 1001 ≤ k) :
    Dr (spec_l1of.f k b i h n set) (fun r => (r.1.size : Int) = n ∧ 0 ≤ r.2.1) := by
  obtain ⟨m, rfl⟩ := Int.eq_ofNat_of_zero_le hn0
  refine (of_dr b hb k m i h set hi h0 h1 (by omega) (by omega)).mono ?_
  rintro ⟨s, i2, h2⟩ ⟨a1, a2, _⟩
  exact ⟨by dsimp only at a1 ⊢; omega, a2⟩
theorem new_dr (k : Nat) (hk : b.length < k) : Dr (spec_l1New.f k b) (fun r => r.1 = b ∧ r.2.1 = 0) := by
  obtain ⟨h, e⟩ := l1New_some b hb k hk
  exact ⟨_, e, rfl, rfl⟩
theorem bend_dr (k : Nat) (i h : Int) (s : ByteArray) (hi : 0 ≤ i) (hs : s.size ≤ 200) (hk : 1001 ≤ k) : Dr (spec_l1bend.f k b i h s) (fun r => r.1.size ≤ s.size + 1 ∧ 0 ≤ r.2.1) := by
  unfold spec_l1bend.f
  rw [w64 (x := (s.size : Int) + 1) (by omega) (by omega)]
  refine Dr.bind (below_dr b hb i h _ hi (by omega) (by omega)) ?_
  rintro ⟨r, i1, h1⟩ ⟨hi1, hr0, hr1⟩
  dsimp only at hi1 hr0 hr1 ⊢
  obtain ⟨q, rfl⟩ := Int.eq_ofNat_of_zero_le hr0
  refine Dr.bind (below_dr b hb i1 h1 3 hi1 (by omega) (by omega)) ?_
  rintro ⟨r2, i2, h2⟩ ⟨hi2, _, _⟩
  dsimp only at hi2 ⊢
  have hq : (s.extract 0 q).size = q := by rw [ByteArray.size_extract]; omega
  have hq2 : (s.extract q s.size).size = s.size - q := by rw [ByteArray.size_extract]; omega
  rw [Int.toNat_natCast]
  refine Dr.ite (fun _ => ?_) (fun _ => Dr.ite (fun _ => ?_) (fun _ => Dr.ite (fun hlt => ?_) (fun _ => ?_)))
  · refine Dr.pos (by omega) (Dr.pos (by omega) (Dr.bind (of_dr' b hb k 1 i2 h2 _ hi2 (by decide) (by decide) (by omega) (by omega) hk) ?_))
    rintro ⟨t, i3, h3⟩ ⟨ht, hi3⟩
    dsimp only at ht hi3 ⊢
    refine Dr.pos (by omega) (Dr.pos (by rw [ByteArray.size_append]; omega) (Dr.some ⟨?_, hi3⟩))
    dsimp only
    rw [ByteArray.size_append, ByteArray.size_append]; omega
  · refine Dr.pos (by omega) (Dr.pos (by omega) (Dr.some ⟨by dsimp only; omega, hi2⟩))
  · rw [w64 (x := (q : Int) + 1) (by omega) (by omega)]
    have hq3 : (s.extract (q + 1) s.size).size = s.size - (q + 1) := by rw [ByteArray.size_extract]; omega
    rw [show ((q : Int) + 1).toNat = q + 1 by omega]
    refine Dr.pos (by omega) (Dr.pos (by omega) (Dr.pos (by omega) (Dr.pos (by omega) (Dr.pos (by omega) (Dr.some ⟨?_, hi2⟩)))))
    dsimp only
    rw [ByteArray.size_append]; omega
  · refine Dr.pos (by omega) (Dr.some ⟨?_, hi2⟩)
    dsimp only
    rw [ByteArray.size_append]
    have : (⟨#[125]⟩ : ByteArray).size = 1 := rfl
    omega
theorem once_dr (i h n : Int) (hi : 0 ≤ i) (hn : 0 < n) (hn2 : n ≤ 256) : Dr (spec_l1Once.f b i h n) (fun r => 0 ≤ r.2.1) := by
  unfold spec_l1Once.f
  refine Dr.bind (below_dr b hb i h n hi hn hn2) ?_
  rintro ⟨r, i1, h1⟩ ⟨hi1, _, _⟩
  exact Dr.some hi1
theorem text_dr (i h : Int) (l : List ByteArray) (m : Nat) (hi : 0 ≤ i) (h0 : 0 < l.length) (h1 : l.length ≤ 256) (hm : ∀ s ∈ l, s.size ≤ m) : Dr (spec_l1text.f b i h l) (fun r => r.1.size ≤ m ∧ r.1 ∈ l ∧ 0 ≤ r.2.1) := by
  unfold spec_l1text.f
  refine Dr.bind (below_dr b hb i h (l.length : Int) hi (by omega) (by omega)) ?_
  rintro ⟨r, i1, h1⟩ ⟨hi1, p, q⟩
  dsimp only at hi1 p q ⊢
  refine Dr.pos p (Dr.pos q (Dr.some ?_))
  have hmem : rdOf ByteArray.empty l r ∈ l := by
    unfold rdOf
    rw [List.getD_eq_getElem?_getD, List.getElem?_eq_getElem (by omega)]
    exact List.getElem_mem _
  exact ⟨hm _ hmem, hmem, hi1⟩
end
end Go.Proofs.YtnfiljnncpieoaaDoor.Pure
namespace Go.Proofs.YtnfiljnncpieoaaDoor.Pure
open Go Go.RowKit Go.Proofs.YtnfiljnncpieoaaDoor.Q Go.Proofs.YtnfiljnncpieoaaDoorW.PrintWords Go.Proofs.YtnfiljnncpieoaaDoorW.PrintLast Go.Proofs.YtnfiljnncpieoaaDoorW.PrintMore
set_option maxRecDepth 100000 in
theorem words_holds (k : Nat) (hk : 200 ≤ k) : laws_words.f k = some true := at_rounds (g := fun k => laws_words.f k) (fun k => laws_words.mono k) hk (by decide +kernel)
def quote1 (c : Int) : List Int := if c = 10 then [92, 110] else if c = 9 then [92, 116] else if c = 34 then [92, 34] else if c = 92 then [92, 92] else [c]
theorem quoteL_cons (c : Int) (l : List Int) : quoteL (c :: l) = quote1 c ++ quoteL l := rfl
theorem quote_at (x : Int) (h : 0 ≤ x ∧ x ≤ 255) : ∃ j, strings_IndexByte.f (⟨#[10, 9, 34, 92]⟩ : ByteArray) x = some j ∧ (j < 0 → quote1 x = [x]) ∧ (0 ≤ j → j < 4 ∧ quote1 x = [92, bt (⟨#[110, 116, 34, 92]⟩ : ByteArray) j]) := by
  have key : ∀ n : Fin 256, decide ((Lib.indexByte [10, 9, 34, 92] ((n.val : Int).toNat.toUInt8) < 0 → quote1 (n.val : Int) = [(n.val : Int)]) ∧ (0 ≤ Lib.indexByte [10, 9, 34, 92] ((n.val : Int).toNat.toUInt8) → Lib.indexByte [10, 9, 34, 92] ((n.val : Int).toNat.toUInt8) < 4 ∧ quote1 (n.val : Int) = [92, bt (⟨#[110, 116, 34, 92]⟩ : ByteArray) (Lib.indexByte [10, 9, 34, 92] ((n.val : Int).toNat.toUInt8))])) = true := by decide +kernel
  have hx := of_decide_eq_true (key ⟨x.toNat, by omega⟩)
  have e : (((⟨x.toNat, by omega⟩ : Fin 256)).val : Int) = x := by dsimp only; omega
  rw [e] at hx
  exact ⟨_, rfl, hx.1, hx.2⟩
theorem quote1_len (c : Int) : (quote1 c).length ≤ 2 := by
  unfold quote1
  repeat' split
  all_goals simp
theorem quoteL_len (l : List Int) : (quoteL l).length ≤ 2 * l.length := by
  induction l with
  | nil => simp [quoteL]
  | cons c l ih =>
    rw [quoteL_cons, List.length_append, List.length_cons]
    have := quote1_len c
    omega
theorem quoted_l0 (s : ByteArray) (hs : s.size ≤ 4000) (d : Nat) : ∀ (i k : Nat) (acc : List Int), i + d = s.size → d < k → acc.length ≤ 2 * i + 1 →
    impl_quotedText.l0 k s acc (s.size : Int) (i : Int) = some (strOfNums (acc ++ (quoteL ((bytesOf s).drop i) ++ [34]))) := by
  induction d with
  | zero =>
    intro i k acc hi hk hacc
    obtain ⟨k, rfl⟩ : ∃ m, k = m + 1 := ⟨k - 1, by omega⟩
    simp only [impl_quotedText.l0]
    rw [if_neg (by omega), if_pos (by omega), bytes_end s i (by omega)]
    rfl
  | succ d ih =>
    intro i k acc hi hk hacc
    obtain ⟨k, rfl⟩ : ∃ m, k = m + 1 := ⟨k - 1, by omega⟩
    have hlt : i < s.size := by omega
    simp only [impl_quotedText.l0]
    obtain ⟨j, e1, e2, e3⟩ := quote_at (bt s (i : Int)) (bt_range s i hlt)
    rw [if_pos (by omega), if_pos (by omega), if_pos (by omega), e1, Option.bind_some, wadd1 i (by omega), bytes_drop s i hlt, quoteL_cons]
    by_cases c : j ≥ 0
    · obtain ⟨h1, h2⟩ := e3 c
      rw [if_pos c, if_pos c, if_pos h1, Option.bind_some, h2, if_pos (by simp; omega), ih (i + 1) k _ (by omega) (by omega) (by simp; omega)]
      simp
    · rw [if_neg c, if_pos (by omega), e2 (by omega), ih (i + 1) k _ (by omega) (by omega) (by simp; omega)]
      simp
theorem tok_good (k : Int) (S : List Int) (hS : Good S) (N : Int) : Good (tokB k S N) := by
  have hq : ∀ l : List Int, Good l → Good (quoteL l) := by
    intro l
    induction l with
    | nil => intro _ c hc; cases hc
    | cons a l ih =>
      intro hg c hc
      rw [quoteL_cons] at hc
      have ha := hg a (by simp)
      rcases List.mem_append.1 hc with hc | hc
      · unfold quote1 at hc
        repeat' split at hc
        all_goals simp at hc; omega
      · exact ih (fun x hx => hg x (by simp [hx])) c hc
  unfold tokB
  split
  · intro c hc
    obtain ⟨b, _, rfl⟩ := List.mem_map.1 hc
    have := b.toNat_lt
    omega
  · split
    · intro c hc
      simp only [List.mem_cons, List.mem_append, List.mem_nil_iff, or_false] at hc
      rcases hc with rfl | hc | rfl
      · omega
      · exact hq S hS c hc
      · omega
    · split
      · intro c hc
        simp only [List.mem_cons, List.mem_append, List.mem_nil_iff, or_false] at hc
        rcases hc with rfl | hc | rfl
        · omega
        · exact hS c hc
        · omega
      · exact hS
theorem absL_len (m : Nat) (hm : m ≤ 9000000000000) : (absL m).length ≤ 40 := by
  unfold absL fracL
  have h1 := digits_le (m / 1000000) (by omega)
  have h2 := trimR_length (dl 6 (m % 1000000))
  rw [dl_length] at h2
  rw [List.length_append]
  split
  · simp; omega
  · simp; omega
theorem tokText_eq (k0 : Int) (S : ByteArray) (N a : Int) (hk : 1 ≤ k0 ∧ k0 ≤ 7) (hN : isDec N) (hS : S.size ≤ 4000) (k : Nat) (hk2 : 4100 ≤ k) :
    ∃ w, impl_TokText.f k k0 S N a = some w ∧ bytesOf w = tokB k0 (bytesOf S) N ∧ w.size ≤ 10000 := by
  have hg := bytes_good S
  have hsz := bytes_size S
  have fin : ∀ l : List Int, Good l → l.length ≤ 10000 → bytesOf (strOfNums l) = l ∧ (strOfNums l).size ≤ 10000 := fun l h1 h2 => ⟨bytes_back l h1, by rw [strOfNums_size]; exact h2⟩
  have hgood := tok_good k0 (bytesOf S) hg N
  unfold impl_TokText.f
  unfold tokB at hgood ⊢
  by_cases c1 : k0 = 1
  · rw [if_pos c1, implDecText_eq N k (by omega), Option.bind_some]
    rw [if_pos c1] at hgood ⊢
    have hl : (decT N).length ≤ 50 := by
      unfold decT
      rw [if_pos hN]
      have h9 : N.natAbs ≤ 9000000000000 := by unfold isDec at hN; omega
      have := absL_len N.natAbs h9
      split
      · simp; omega
      · omega
    exact ⟨_, rfl, rfl, by rw [bmk_size]; omega⟩
  rw [if_neg c1] at hgood ⊢
  rw [if_neg c1]
  by_cases c2 : k0 = 2
  · rw [if_pos c2] at hgood ⊢
    rw [if_pos c2]
    unfold impl_quotedText.f
    have h := quoted_l0 S hS S.size 0 k [34] (by omega) (by omega) (by simp)
    rw [show ((0 : Nat) : Int) = 0 from rfl, List.drop_zero] at h
    rw [h, Option.bind_some]
    have hl := quoteL_len (bytesOf S)
    obtain ⟨f1, f2⟩ := fin _ hgood (by simp; omega)
    exact ⟨_, rfl, f1, f2⟩
  rw [if_neg c2] at hgood ⊢
  rw [if_neg c2]
  by_cases c3 : k0 = 3
  · rw [if_pos c3] at hgood ⊢
    have e1 : ((⟨#[47]⟩ : ByteArray) ++ S).size = 1 + S.size := by rw [ByteArray.size_append]; rfl
    rw [if_pos c3, if_pos (by omega), if_pos (by omega)]
    refine ⟨_, rfl, ?_, ?_⟩
    · rw [bytesOf_append, bytesOf_append]; rfl
    · rw [ByteArray.size_append, e1]
      show 1 + S.size + 1 ≤ 10000
      omega
  rw [if_neg c3]
  rw [if_neg c3]
  have hfin : S.size ≤ 10000 := by omega
  by_cases c4 : k0 = 4
  · rw [if_pos c4]; exact ⟨_, rfl, rfl, hfin⟩
  rw [if_neg c4]
  by_cases c5 : k0 = 5
  · rw [if_pos c5]; exact ⟨_, rfl, rfl, hfin⟩
  rw [if_neg c5]
  by_cases c6 : k0 = 6
  · rw [if_pos c6]; exact ⟨_, rfl, rfl, hfin⟩
  rw [if_neg c6, if_pos (by omega)]; exact ⟨_, rfl, rfl, hfin⟩
theorem Run.facts {o : Bool} {r : List Int} {l : List Tk} (h : Run o r l) : Good r → l.length ≤ r.length ∧ ∀ x ∈ l, (1 ≤ x.1 ∧ x.1 ≤ 7) ∧ x.2.1.length ≤ r.length ∧ isDec x.2.2 := by
  induction h with
  | nil o r h => intro _; exact ⟨by simp, fun x hx => by cases hx⟩
  | cons o r k S N n l h1 h2 ih =>
    intro hg
    have hn := lex_len _ _ _ _ _ _ h1
    have hg2 := hg.drop (skipN false r)
    obtain ⟨q1, q2, q3, q4⟩ := lex_good _ _ hg2 _ _ _ _ h1
    obtain ⟨i1, i2⟩ := ih (hg2.drop n)
    rw [List.length_drop] at hn q2
    rw [List.length_drop, List.length_drop] at i1
    refine ⟨by simp; omega, fun x hx => ?_⟩
    rcases List.mem_cons.1 hx with rfl | hx
    · exact ⟨q3, by dsimp only; omega, q4⟩
    · have := i2 x hx
      rw [List.length_drop, List.length_drop] at this
      exact ⟨this.1, by omega, this.2.2⟩
theorem Inc.get : ∀ (l : List S60) (b : Int), Inc b l → ∀ j, (h : j + 1 < l.length) → l[j].f3 < l[j + 1].f3
  | [], b, hI, j, h => by simp at h
  | [t], b, hI, j, h => by simp at h
  | t :: u :: l, b, ⟨_, h1, h2⟩, 0, h => by show t.f3 < u.f3; omega
  | t :: u :: l, b, ⟨_, hI⟩, j + 1, h => by
    have := Inc.get (u :: l) _ hI j (by simp at h ⊢; omega)
    exact this
theorem rd_at (l : List S60) (i : Nat) (h : i < l.length) : rd_T60 l (i : Int) = l[i] := by
  unfold rd_T60; rw [Int.toNat_natCast, List.getD_eq_getElem?_getD, List.getElem?_eq_getElem h]; rfl
theorem law_l1 (a b : List S60) (hlen : a.length ≤ 4000) (hab : b.map key = a.map key) (d : Nat) : ∀ (i k : Nat), i + d = a.length → d + 201 ≤ k → laws_FnWords.l1 k a b (i : Int) = some true := by
  have hl : b.length = a.length := by have := congrArg List.length hab; simpa using this
  induction d with
  | zero =>
    intro i k hi hk
    obtain ⟨k, rfl⟩ : ∃ m, k = m + 1 := ⟨k - 1, by omega⟩
    simp only [laws_FnWords.l1]
    rw [if_neg (by omega), words_holds k (by omega)]; rfl
  | succ d ih =>
    intro i k hi hk
    obtain ⟨k, rfl⟩ : ∃ m, k = m + 1 := ⟨k - 1, by omega⟩
    simp only [laws_FnWords.l1]
    have ha : i < a.length := by omega
    have hb : i < b.length := by omega
    have hk2 : key b[i] = key a[i] := by
      have h1 : (b.map key)[i]? = some (key b[i]) := by rw [List.getElem?_map, List.getElem?_eq_getElem hb]; rfl
      have h2 : (a.map key)[i]? = some (key a[i]) := by rw [List.getElem?_map, List.getElem?_eq_getElem ha]; rfl
      rw [hab, h2] at h1
      exact (Option.some.inj h1).symm
    unfold key at hk2
    simp only [Prod.mk.injEq] at hk2
    rw [if_pos (by omega), if_pos (by omega), if_pos (by omega), rd_at a i ha, rd_at b i hb, if_pos hk2.1, if_pos ((toList_iff _ _).2 hk2.2.1), if_pos hk2.2.2, wadd1 i (by omega)]
    exact ih (i + 1) k (by omega) (by omega)
theorem textL_append (a b : List Tk) : textL (a ++ b) = textL a ++ textL b := by
  induction a with
  | nil => rfl
  | cons x a ih =>
    obtain ⟨k, S, N⟩ := x
    show tokB k S N ++ ((if k = 5 then [] else [32]) ++ textL (a ++ b)) = (tokB k S N ++ ((if k = 5 then [] else [32]) ++ textL a)) ++ textL b
    rw [ih]; simp
theorem law_l0 (toks : List S60) (hlen : toks.length ≤ 4000) (hF : ∀ t ∈ toks, (1 ≤ t.f0 ∧ t.f0 ≤ 7) ∧ t.f1.size ≤ 4000 ∧ isDec t.f2) (hI : Inc 0 toks) (hR : Run false (textL (toks.map key)) (toks.map key)) (d : Nat) :
    ∀ (i k : Nat) (x : ByteArray), i + d = toks.length → 20000 + d ≤ k → bytesOf x = textL ((toks.take i).map key) → x.size ≤ 10001 * i → laws_FnWords.l0 k toks x (i : Int) = some true := by
  induction d with
  | zero =>
    intro i k x hi hk hx hsz
    obtain ⟨k, rfl⟩ : ∃ m, k = m + 1 := ⟨k - 1, by omega⟩
    simp only [laws_FnWords.l0]
    rw [List.take_of_length_le (by omega)] at hx
    rw [if_neg (by omega)]
    by_cases c : x.size ≤ 4000
    · obtain ⟨out, e1, e2⟩ := run_lexT hR (x.size + 1) 0 [] (by rw [← hx]; exact bytes_good x) (by rw [← hx, bytes_size]; omega)
      rw [← hx] at e1
      have hlo : out.length = toks.length := by have := congrArg List.length e2; simpa using this
      rw [implLex_eq x c k (by omega), e1, Option.bind_some, if_neg (by omega), if_pos rfl, List.nil_append]
      have hb : ((out.length : Int) != (toks.length : Int)) = false := by rw [hlo]; simp
      rw [hb]
      obtain ⟨k, rfl⟩ : ∃ m, k = m + 1 := ⟨k - 1, by omega⟩
      simp only [laws_FnWords.j2]
      rw [if_neg (by decide)]
      exact law_l1 toks out hlen e2 toks.length 0 k (by omega) (by omega)
    · have e : impl_Lex.f k x = some (([] : List S60), 0) := by unfold impl_Lex.f; rw [if_pos (by omega)]
      rw [e, Option.bind_some, if_pos (by omega), words_holds k (by omega)]; rfl
  | succ d ih =>
    intro i k x hi hk hx hsz
    obtain ⟨k, rfl⟩ : ∃ m, k = m + 1 := ⟨k - 1, by omega⟩
    have hlt : i < toks.length := by omega
    obtain ⟨f1, f2, f3⟩ := hF toks[i] (List.getElem_mem hlt)
    obtain ⟨w, e1, e2, e3⟩ := tokText_eq toks[i].f0 toks[i].f1 toks[i].f2 toks[i].f3 f1 f3 f2 k (by omega)
    have htake : (toks.take (i + 1)).map key = (toks.take i).map key ++ [key toks[i]] := by
      have h : toks.take (i + 1) = toks.take i ++ [toks[i]] := List.take_succ_eq_append_getElem hlt
      rw [h, List.map_append]; rfl
    have htext : textL ((toks.take (i + 1)).map key) = textL ((toks.take i).map key) ++ (tokB toks[i].f0 (bytesOf toks[i].f1) toks[i].f2 ++ (if toks[i].f0 = 5 then [] else [32])) := by
      rw [htake, textL_append]
      show _ ++ (tokB toks[i].f0 (bytesOf toks[i].f1) toks[i].f2 ++ ((if toks[i].f0 = 5 then [] else [32]) ++ [])) = _
      rw [List.append_nil]
    have hinc : ∀ j : Nat, i = j + 1 → ¬ toks[i].f3 ≤ (rd_T60 toks (j : Int)).f3 := by
      intro j hj
      subst hj
      rw [rd_at toks j (by omega)]
      have := Inc.get toks 0 hI j hlt
      omega
    have hsx : (x ++ w).size = x.size + w.size := ByteArray.size_append
    simp only [laws_FnWords.l0]
    rw [if_pos (by omega), if_pos (by omega), rd_at toks i hlt, e1, Option.bind_some, if_pos (by omega), wadd1 i (by omega)]
    have next : ∀ y, bytesOf y = textL ((toks.take (i + 1)).map key) → y.size ≤ 10001 * (i + 1) → (if (i : Int) > 0 then (if 0 ≤ (wrap64 ((i : Int) - 1)) then (if (wrap64 ((i : Int) - 1)) < (toks.length : Int) then (if (toks[i].f3) ≤ ((rd_T60 toks (wrap64 ((i : Int) - 1))).f3) then (some false) else (laws_FnWords.l0 k toks y ((i + 1 : Nat) : Int))) else (none)) else (none)) else (laws_FnWords.l0 k toks y ((i + 1 : Nat) : Int))) = some true := by
      intro y hy hys
      have hih := ih (i + 1) k y (by omega) (by omega) hy hys
      by_cases c : (i : Int) > 0
      · obtain ⟨j, rfl⟩ : ∃ j, i = j + 1 := ⟨i - 1, by omega⟩
        have hw : wrap64 (((j + 1 : Nat) : Int) - 1) = (j : Int) := by rw [w64 (by omega) (by omega)]; omega
        rw [if_pos c, hw, if_pos (by omega), if_pos (by omega), if_neg (hinc j rfl)]
        exact hih
      · rw [if_neg c]; exact hih
    by_cases c5 : toks[i].f0 = 5
    · rw [if_pos c5]
      refine next _ ?_ (by omega)
      rw [bytesOf_append, hx, e2, htext, if_pos c5, List.append_nil]
    · rw [if_neg c5, if_pos (by omega)]
      refine next _ ?_ ?_
      · rw [bytesOf_append, bytesOf_append, hx, e2, htext, if_neg c5, List.append_assoc]; rfl
      · rw [ByteArray.size_append, hsx]
        show x.size + w.size + 1 ≤ _
        omega
theorem words_short : ∀ g ∈ kwB, g.size ≤ 11 := by
  intro g hg
  unfold kwB at hg
  obtain ⟨l, hl, rfl⟩ := List.mem_map.1 hg
  rw [strOfNums_size]
  have : ∀ l ∈ kwL, l.length ≤ 11 := by decide
  exact this l hl
theorem signs_short : ∀ g ∈ sgB, g.size ≤ 11 := by
  intro g hg
  unfold sgB at hg
  obtain ⟨l, hl, rfl⟩ := List.mem_map.1 hg
  rw [strOfNums_size]
  have : ∀ l ∈ sgL, l.length ≤ 11 := by decide
  exact this l hl
end Go.Proofs.YtnfiljnncpieoaaDoor.Pure
namespace Go.Proofs.YtnfiljnncpieoaaDoor.Pure
open Go Go.RowKit Go.Proofs.YtnfiljnncpieoaaDoor.Q Go.Proofs.YtnfiljnncpieoaaDoorW.PrintWords Go.Proofs.YtnfiljnncpieoaaDoorW.PrintLast Go.Proofs.YtnfiljnncpieoaaDoorW.PrintMore
section
variable (b : List Int) (hb : b.length ≤ 9223372036854775807)
include hb
theorem size_dr : Dr (spec_l1Size.f b 12) (fun r => 2 ≤ r ∧ r ≤ 12) := by
  unfold spec_l1Size.f
  rw [w64 (x := (b.length : Int) / 20) (by omega) (by omega), w64 (x := 2 + (b.length : Int) / 20) (by omega) (by omega)]
  exact Dr.ite (fun _ => Dr.some (by omega)) (fun _ => Dr.some (by omega))
theorem tok_dr (i h : Int) (hi : 0 ≤ i) : Dr (spec_l3tok.f b i h) (fun r => r.1.size ≤ 11 ∧ 0 ≤ r.2.1) := by
  unfold spec_l3tok.f
  refine Dr.bind (below_dr b hb i h 7 hi (by omega) (by omega)) ?_
  rintro ⟨r, i1, h1⟩ ⟨hi1, p, q⟩
  dsimp only at hi1 p q ⊢
  have fin : ∀ l : List ByteArray, 0 < l.length → l.length ≤ 256 → (∀ s ∈ l, s.size ≤ 11) → Dr ((spec_l1text.f b i1 h1 l).bind fun bt => (some (bt.1, bt.2.1, bt.2.2))) (fun r => r.1.size ≤ 11 ∧ 0 ≤ r.2.1) := by
    intro l h0 h2 h3
    refine Dr.bind (text_dr b hb i1 h1 l 11 hi1 h0 h2 h3) ?_
    rintro ⟨t, i2, h2⟩ ⟨a1, _, a3⟩
    exact Dr.some ⟨a1, a3⟩
  refine Dr.ite (fun _ => ?_) (fun _ => Dr.ite (fun _ => ?_) (fun _ => Dr.ite (fun _ => ?_) (fun _ => Dr.ite (fun _ => ?_) (fun _ => Dr.ite (fun _ => ?_) (fun _ => ?_)))))
  · rw [spec_kw, Option.bind_some]
    exact fin kwB (by rw [kw_len]; omega) (by rw [kw_len]; omega) words_short
  · rw [spec_sg, Option.bind_some]
    exact fin sgB (by rw [sg_len]; omega) (by rw [sg_len]; omega) signs_short
  · exact fin _ (by decide) (by decide) (by decide)
  · exact fin _ (by decide) (by decide) (by decide)
  · exact fin _ (by decide) (by decide) (by decide)
  · exact fin _ (by decide) (by decide) (by decide)
theorem drawLex_l0 (n : Nat) : ∀ (k : Nat) (x : ByteArray) (i h : Int), 0 ≤ i → n ≤ 12 → x.size + 16 * n ≤ 199 → n + 1010 ≤ k → Dr (spec_DrawLex.l0 k x (n : Int) b i h) (fun r => r.size ≤ 300) := by
  induction n with
  | zero =>
    intro k x i h hi hn hx hk
    obtain ⟨k, rfl⟩ : ∃ m, k = m + 1 := ⟨k - 1, by omega⟩
    simp only [spec_DrawLex.l0]
    rw [if_neg (by omega)]
    refine Dr.bind (once_dr b hb i h 8 hi (by omega) (by omega)) ?_
    rintro ⟨r, i1, h1⟩ hi1
    dsimp only at hi1 ⊢
    refine Dr.ite (fun _ => ?_) (fun _ => Dr.some (by omega))
    refine Dr.bind (bend_dr b hb k i1 h1 x hi1 (by omega) (by omega)) ?_
    rintro ⟨r2, i2, h2⟩ ⟨a1, _⟩
    dsimp only at a1
    exact Dr.some (by dsimp only; omega)
  | succ n ih =>
    intro k x i h hi hn hx hk
    obtain ⟨k, rfl⟩ : ∃ m, k = m + 1 := ⟨k - 1, by omega⟩
    simp only [spec_DrawLex.l0]
    rw [if_pos (by omega)]
    refine Dr.bind (tok_dr b hb i h hi) ?_
    rintro ⟨t, i1, h1⟩ ⟨a1, a2⟩
    dsimp only at a1 a2 ⊢
    refine Dr.pos (by omega) ?_
    refine Dr.bind (text_dr b hb i1 h1 _ 5 a2 (by decide) (by decide) (by decide)) ?_
    rintro ⟨u, i2, h2⟩ ⟨b1, _, b3⟩
    dsimp only at b1 b3 ⊢
    have e1 : (x ++ t).size = x.size + t.size := ByteArray.size_append
    have e2 : ((x ++ t) ++ u).size = (x ++ t).size + u.size := ByteArray.size_append
    refine Dr.pos (by omega) ?_
    have hw : wrap64 (((n + 1 : Nat) : Int) - 1) = (n : Int) := by rw [w64 (by omega) (by omega)]; omega
    rw [hw]
    exact ih k _ i2 h2 b3 (by omega) (by omega) (by omega)
theorem drawLex_dr (k : Nat) (hk : b.length + 1100 ≤ k) : Dr (spec_DrawLex.f k b) (fun r => r.size ≤ 300) := by
  unfold spec_DrawLex.f
  refine Dr.bind (new_dr b hb k (by omega)) ?_
  rintro ⟨c, i, h⟩ ⟨rfl, rfl⟩
  have hk2 : c.length + 1100 ≤ k := hk
  clear hk
  dsimp only
  refine Dr.bind (size_dr c hb) ?_
  rintro m ⟨m1, m2⟩
  refine Dr.bind (below_dr c hb 0 h m (by omega) (by omega) (by omega)) ?_
  rintro ⟨r, i1, h1⟩ ⟨hi1, p, q⟩
  dsimp only at hi1 p q ⊢
  obtain ⟨n, rfl⟩ : ∃ n : Nat, r = (n : Int) := ⟨r.toNat, by omega⟩
  refine drawLex_l0 c hb n k ⟨#[]⟩ i1 h1 hi1 (by omega) ?_ (by omega)
  show 0 + 16 * n ≤ 199
  omega
end
end Go.Proofs.YtnfiljnncpieoaaDoor.Pure
namespace Go.Proofs.YtnfiljnncpieoaaDoor.Pure
open Go Go.RowKit Go.Proofs.YtnfiljnncpieoaaDoor.Q Go.Proofs.YtnfiljnncpieoaaDoorW.PrintWords Go.Proofs.YtnfiljnncpieoaaDoorW.PrintLast Go.Proofs.YtnfiljnncpieoaaDoorW.PrintMore
theorem FnWords : laws_FnWords.Pure := by
  intro l0 hm hy hw
  have hl : l0.length ≤ 9223372036854775807 := hm
  obtain ⟨s, e, hs⟩ := drawLex_dr l0 hl (l0.length + 50000 + 1) (by omega)
  refine ⟨l0.length + 50000 + 1, ?_⟩
  unfold laws_FnWords.f
  rw [e, Option.bind_some, implLex_eq s (by omega) _ (by omega), Option.bind_some, specLex_eq s (by omega) _ (by omega), Option.bind_some, if_pos rfl]
  generalize hx : lexT (s.size + 1) 0 (bytesOf s) [] false = x
  have herr := lexT_err (s.size + 1) 0 (bytesOf s) [] false
  rw [hx] at herr
  simp only [laws_FnWords.j0]
  obtain ⟨toks, p⟩ := x
  dsimp only at herr ⊢
  rcases herr with rfl | ⟨rfl, hp⟩
  · rw [if_neg (fun hh => by have := of_decide_eq_true hh; omega)]
    obtain ⟨out, h1, h2, h3⟩ := lexT_run _ _ _ _ _ _ (bytes_good s) (by rw [bytes_size]; omega) hx
    rw [List.nil_append] at h2
    subst h2
    obtain ⟨g1, g2⟩ := h1.facts (bytes_good s)
    rw [bytes_size, List.length_map] at g1
    refine law_l0 toks (by omega) ?_ h3 (h1.again (bytes_good s)).1 toks.length 0 _ ⟨#[]⟩ (by omega) (by omega) rfl (Nat.le_refl 0)
    intro t ht
    have := g2 (key t) (List.mem_map.2 ⟨t, ht, rfl⟩)
    unfold key at this
    dsimp only at this
    rw [bytes_size, bytes_size] at this
    exact ⟨this.1, by omega, this.2.2⟩
  · rw [if_pos (decide_eq_true hp), if_pos trivial, if_pos (by rfl), words_holds _ (by omega)]; rfl
end Go.Proofs.YtnfiljnncpieoaaDoor.Pure
namespace Go.Proofs.YtnfiljnncpieoaaDoor.fnWords
open Go.ChangeShapes Go.WideShapes Go.ChangeAt Go.RowKit
open Go.ChangeMaps (open_string shut_string)
open Go.Lib
open Go.Proofs.YtnfiljnncpieoaaDoorW.PrintWords
set_option linter.unusedVariables false
theorem own : ownKnob Tryd.prog.godebug = none := by kernel_rfl
theorem laidOut : laidOutB Tryd.prog = true := by kernel_rfl
def IsRow (k : IntKind) (w : World) (a : Option Addr) (len cap : Nat) (zs : List Int) : Prop :=
  (a = none ∧ len = 0 ∧ cap = 0 ∧ zs = []) ∨
  ∃ x, a = some x ∧ len ≤ cap ∧ cap ≤ maxLen ∧ zs.length = cap ∧ (∀ i, i < zs.length → w.cell? (x.add i) = some (.int k (zs.getD i 0))) ∧ ∀ n ∈ zs, (Lit.int k n).wf = true
set_option maxRecDepth 100000 in
theorem lifted (os : Os) (started : os.Started) (H : Type) (enc : TypeId × Value → H) :
    ReturnsInHanded {} Tryd.checked os 9 .any (fun w args => (Rows.fnWordsSpec.pre enc Tryd.prog Tryd.f9 [] false w args ∧ laidMetH Tryd.prog Rows.fnWordsRow.laid w) ∧ sizedMet enc Tryd.prog Tryd.f9 (OpenSpec.ofChange Rows.fnWordsSpec) false w args)
      (Rows.fnWordsSpec.post enc Tryd.prog Tryd.f9 false true false false) := by
  refine returnsInHanded_of_change_and_shaped_ytnfiljnncpieoaadoor (C := Tryd.checked) (X := fun w _ => laidMetH Tryd.prog Rows.fnWordsRow.laid w) (fun _ _ _ hh h => h.of_heap hh) own started (by kernel_rfl) Tryd.func9
    (ChangeSpec.witness_shaped (enc := enc) (C := Tryd.checked) (os := os) (X := fun w _ => laidMetH Tryd.prog Rows.fnWordsRow.laid w) false (World.laidAll Tryd.prog os Rows.fnWordsRow.laid) #[.slice none 0 0] 8 (World.laidAll_os _ _ _)
      (World.shaped_of_ZipB (by kernel_rfl) (by kernel_rfl)) (by kernel_rfl) (by kernel_rfl) (by kernel_rfl)
      (by rw [MakeChecks.laidMetH_plain _ _ _ (by kernel_rfl)]; exact laidMet_laidAll _ (by kernel_rfl) (by kernel_rfl))) ?_
  intro W base args ds gs before hval0 hW hcnd hsz0 hL hS _
  have hsz : (DataW.weightsEach Tryd.prog (Tryd.f9.params.toList ++ Rows.fnWordsSpec.plain.varTypes Tryd.prog) (ds ++ gs)).all (· ≤ reachBytes) = true := hsz0
  have hval : ∀ (j : Nat) t v, Tryd.f9.params[j]? = some t → args[j]? = some v → Value.okWide Tryd.prog W .any base t v := hval0
  have hW' := hW
  obtain ⟨p, q, hA0, hV, rfl, hfz, hnd⟩ := hW
  have hA : DataW.TrodAll enc Tryd.prog W 0 (fun _ => true) true Tryd.f9.params.toList args.toList ds p := hA0
  rw [Tryd.params9] at hA hval hsz
  obtain ⟨v0, vs0, d0, ds0, p0, q0, hargs, rfl, rfl, h0, r0⟩ := trodAll_cons hA
  obtain ⟨rfl, rfl, rfl⟩ := trodAll_nil r0
  obtain rfl : args = #[v0] := by cases args; simp_all
  obtain ⟨rfl, rfl⟩ := trodVars_none hV
  have k0 := h0
  have lt0 : ∀ x ∈ p0, x.block < W.heap.size := by obtain ⟨m, hm⟩ := k0; exact DataW.trod_lt m _ _ _ hm
  obtain ⟨a0, len0, cap0, rfl⟩ := okWide_slice Tryd.underlying31 (hval 0 31 v0 rfl rfl)
  obtain ⟨z0, w0⟩ : ∃ zs, IsRow .u8 W a0 len0 cap0 zs := by
    obtain ⟨fuel, hf⟩ := h0
    rcases open_ints Tryd.underlying31 Tryd.underlying5 (by kernel_rfl) hf with ⟨hcs, _⟩ | ⟨x, l, c, zs, hcs, _, hl, hm, hz, _, hcell, hwz⟩
    · simp [Value.cells] at hcs
      obtain ⟨rfl, rfl, rfl⟩ := hcs
      exact ⟨[], .inl ⟨rfl, rfl, rfl, rfl⟩⟩
    · simp [Value.cells] at hcs
      obtain ⟨rfl, rfl, rfl⟩ := hcs
      exact ⟨zs, .inr ⟨_, rfl, hl, hm, by simpa using hz, hcell, hwz⟩⟩
  have y0 : len0 * 1 ≤ 140737488351232 := Go.Proofs.YtnfiljnncpieoaaDoorW.PrintWords.sized_ints hsz (j := 0) (t := 31) rfl rfl Tryd.underlying31 Tryd.underlying5 (by kernel_rfl) (by kernel_rfl) h0
  obtain ⟨l0, rfl, hr0, hm0, hw0, hc0⟩ := ReadsInt.ofRowC w0
  clear hA0 hval0 hsz0 hsz
  rw [MakeChecks.laidMetH_plain _ _ _ (by kernel_rfl)] at hL
  have hTabs : Q.Tabs W := Q.tabs_of_laid hL (.tail _ (.tail _ (.head _))) hS
  obtain ⟨k, hk⟩ := Pure.FnWords l0 hm0 y0 hw0
  refine (Q.laws_FnWords.calls k _ _ l0 true W (Kd.C_of_reads (d := (0 : Int)) (h1 := fun _ => rfl) hr0) hc0 hk hTabs).mono fun e W' ⟨he, bel⟩ => ?_
  subst he
  exact ⟨_, rfl, _, _, _, [], _, [], hW', trodAll_mk1 (shut_bool Tryd.underlying4 _), (trodAll_cons_mk (Below.trod laidOut (by kernel_rfl) (of_decide_eq_true (by kernel_rfl)) k0 bel lt0) trodAll_mk0), rfl, bel.frame _, fun h => by cases h⟩
theorem over : Rows.fnWordsRow.holds Tryd.pinned (OpenSpec.ofChange Rows.fnWordsSpec) :=
  OpenClaim.holds_of_wide 9 Tryd.f9 rfl rfl rfl rfl rfl rfl rfl ⟨rfl, rfl, rfl, rfl, rfl⟩ rfl rfl rfl rfl rfl (by kernel_rfl) Tryd.func9 (by kernel_rfl)
    (of_decide_eq_true (by kernel_rfl)) (by unfold Func.isWrapper; first | (rw [if_pos (by decide +kernel)]; kernel_rfl) | (rw [if_neg (by decide +kernel)]; exact ⟨rfl, rfl⟩))
    (fun os started H enc _ => lifted os started H enc)
theorem proved : Rows.FnWordsCardSaid :=
  Claim7.holds_tied_plain_at .later [] [.data, .data, .data, .data, .pinned] true (true, "b75b773852959c5247afd18ef90919ec67df20c7244692005a47031de84d4aff") false over (fun _ h => by cases h) (by kernel_rfl) (fun _ h => by cases h) fnWords_row_tie rfl ⟨rfl, rfl⟩ (by kernel_rfl) rfl
    (fun f fn hf hfn => by
      obtain rfl : f = 9 := Option.some.inj ((show Tryd.prog.funcNamed Rows.fnWordsRow.func = some 9 by kernel_rfl).symm.trans hf) |>.symm
      obtain rfl : fn = Tryd.f9 := (Option.some.inj (Tryd.func9.symm.trans hfn)).symm
      exact ⟨by kernel_rfl, fun j t ht => by
        rw [Tryd.params9] at ht
        have hm : t ∈ [31] := by simpa using Array.mem_of_getElem? ht
        have hall : ([31].all fun u => !Tryd.prog.wantsStandIn u) = true := by kernel_rfl
        exact (show Tryd.prog.wantsStandIn t = false by simpa using List.all_eq_true.1 hall t hm)⟩)
    (by kernel_rfl)
#print axioms proved
end Go.Proofs.YtnfiljnncpieoaaDoor.fnWords
namespace Go.Proofs.YtnfiljnncpieoaaDoor
theorem fnWords_holds : Rows.FnWordsCardSaid := fnWords.proved
end Go.Proofs.YtnfiljnncpieoaaDoor
