/- What the row of FnFormats rests on, and the row: for every input that can be read the call returns true and the input reads as it did; condition: what the row lists of the library reads as the program lays it. -/
import Derived.Test.YtbakkcdanoopgaaGreatDoorKFnFormatsd
import Derived.Test.YtbakkcdanoopgaaGreatDoorCards
import Derived.Test.YtbakkcdanoopgaaGreatDoorRows
import Derived.Test.YtbakkcdanoopgaaGreatDoorTie
set_option linter.unusedVariables false
set_option linter.unusedSimpArgs false
set_option linter.unusedSectionVars false
set_option linter.unusedVariables false
namespace Go.Proofs.YtbakkcdanoopgaaGreatDoor.Ev.Pr
open Go Go.RowKit Go.Proofs.YtbakkcdanoopgaaGreatDoorW.PrintWords Go.Proofs.YtbakkcdanoopgaaGreatDoorW.PrintMore Kd Go.Proofs.YtbakkcdanoopgaaGreatDoor.Ev Go.Proofs.YtbakkcdanoopgaaGreatDoor.Pure Go.Proofs.YtbakkcdanoopgaaGreatDoor.Q
section
variable {ρ : Type} {s : ByteArray}
theorem s6_tot (hs : s.size ≤ 140737488355328) : Tot (fun k κ => (tb (ρ := ρ) k).impl_ReadDec_s6 s (atD s : Int) (negB s) (fun a b => κ (a, b))) fun r => r = readV s := by
  refine st_impl_ReadDec_s6 ?_
  unfold B_impl_ReadDec_s6
  have h1 := atD_le s
  have h2 := at2_le s
  have e2 : at2 s = atD s + Q.runN isDg s (atD s) := rfl
  refine Tot.bind1 (run_tot hs h1) fun v hv => ?_
  have hv : v = _ := hv
  subst hv
  have ew : w ((atD s : Int) + ((Q.runN isDg s (atD s) : Nat) : Int)) = (at2 s : Int) := by rw [w_in (by omega), e2]; omega
  rw [ew]
  refine Tot.iteT (by omega) (Tot.iteT (by omega) (Tot.iteT (by omega) ?_))
  rw [Int.toNat_natCast, Int.toNat_natCast]
  have fin : tkB s = false → Tot (fun k κ => (tb (ρ := ρ) k).impl_ReadDec_s15 (at2 s : Int) (negB s) (s.extract (atD s) (at2 s)) (bs []) (fun a b => κ (a, b))) fun r => r = readV s := fun ht => by
    refine (s15_tot (by rw [ByteArray.size_extract]; omega) (by decide)).imp fun r hr => ?_
    rw [hr, ← outV_eq]
    have e3 : at3 s = at2 s := by unfold at3; rw [ht, if_neg (by simp)]
    have e4 : partS s = bs [] := by unfold partS; rw [ht, if_neg (by simp)]
    rw [e3, e4]
    rfl
  refine Tot.bif (fun h => ?_) (fun h => ?_)
  · have h := of_decide_eq_true h
    have hlt : at2 s < s.size := by omega
    refine Tot.iteT (by omega) (Tot.iteT h ?_)
    have ew1 : w ((at2 s : Int) + 1) = ((at2 s + 1 : Nat) : Int) := by rw [w_in (by omega)]; omega
    refine Tot.bif (fun h46 => ?_) (fun h46 => ?_)
    · have h46 : bt s (at2 s) = 46 := by simpa using h46
      rw [ew1]
      refine Tot.bind1 (run_tot hs (a := at2 s + 1) (by omega)) fun v hv => ?_
      have hv : v = _ := hv
      subst hv
      have hm := runN_le isDg s (at2 s + 1) (by omega)
      have htk := tk_true s hlt h46
      have hmore : moreN s = Q.runN isDg s (at2 s + 1) := by
        unfold moreN dotB
        rw [if_pos (by simp [hlt, h46])]
      have hw : wholeN s = Q.runN isDg s (atD s) := rfl
      rw [w_in (n := ((Q.runN isDg s (atD s) : Nat) : Int) + ((Q.runN isDg s (at2 s + 1) : Nat) : Int)) (by omega)]
      refine Tot.bif (fun hpos => ?_) (fun hpos => ?_)
      · have hpos := of_decide_eq_true hpos
        have ht : tkB s = true := by rw [htk, hw]; exact decide_eq_true (by omega)
        have ew2 : w (((at2 s + 1 : Nat) : Int) + ((Q.runN isDg s (at2 s + 1) : Nat) : Int)) = ((at2 s + 1 + moreN s : Nat) : Int) := by rw [w_in (by omega), hmore]; omega
        have ew3 : w ((at2 s : Int) + w (1 + ((Q.runN isDg s (at2 s + 1) : Nat) : Int))) = (at3 s : Int) := by
          rw [w_in (n := 1 + _) (by omega), w_in (by omega)]
          unfold at3
          rw [if_pos ht, hmore]
          omega
        rw [ew2, ew3, Int.toNat_natCast, Int.toNat_natCast]
        refine Tot.iteT (by omega) (Tot.iteT (by omega) (Tot.iteT (by omega) ?_))
        refine (s15_tot (by rw [ByteArray.size_extract]; omega) (by rw [ByteArray.size_extract]; omega)).imp fun r hr => ?_
        rw [hr, ← outV_eq]
        have e4 : partS s = s.extract (at2 s + 1) (at2 s + 1 + moreN s) := by unfold partS; rw [if_pos ht]
        rw [e4]
        rfl
      · have hpos := of_decide_eq_false hpos
        exact fin (by rw [htk, hw]; exact decide_eq_false (by omega))
    · have h46 : ¬ bt s (at2 s) = 46 := by simpa using h46
      exact fin (tk_false s fun h => h46 h.2)
  · have h := of_decide_eq_false h
    exact fin (tk_false s fun h2 => h (by omega))
theorem readDec_tot (hs : s.size ≤ 140737488355328) : Tot (fun k κ => (tb (ρ := ρ) k).impl_ReadDec s (fun a b => κ (a, b))) fun r => r = readV s := by
  refine st_impl_ReadDec ?_
  unfold B_impl_ReadDec
  refine Tot.bind1 (run1_tot hs (a := 0) (by omega)) fun v hv => ?_
  have hv : v = _ := hv
  subst hv
  have hle := runN_le isSp s 0 (by omega)
  have s6 := s6_tot (ρ := ρ) hs
  have ew : w (((Q.runN isSp s 0 : Nat) : Int) + 1) = ((Q.runN isSp s 0 + 1 : Nat) : Int) := by rw [w_in (by omega)]; omega
  refine Tot.bif (fun h => ?_) (fun h => ?_)
  · have h := of_decide_eq_true h
    have hlt : Q.runN isSp s 0 < s.size := by omega
    have yes : sgnB s (Q.runN isSp s 0) = true → Tot (fun k κ => (tb (ρ := ρ) k).impl_ReadDec_s6 s ((Q.runN isSp s 0 + 1 : Nat) : Int) (bt s ((Q.runN isSp s 0 : Nat) : Int) == 45) (fun a b => κ (a, b))) fun r => r = readV s := fun hg => by
      have e1 : atD s = Q.runN isSp s 0 + 1 := by unfold atD; rw [if_pos hg]
      have e2 : negB s = (bt s ((Q.runN isSp s 0 : Nat) : Int) == 45) := by unfold negB; rw [if_pos hg]
      rw [← e1, ← e2]
      exact s6
    refine Tot.iteT (by omega) (Tot.iteT h (Tot.bif (fun h1 => ?_) (fun h1 => ?_)))
    · refine Tot.iteT (by omega) (Tot.iteT h ?_)
      rw [ew]
      exact yes (by unfold sgnB; rw [decide_eq_true hlt, h1]; rfl)
    · refine Tot.iteT (by omega) (Tot.iteT h (Tot.bif (fun h2 => ?_) (fun h2 => ?_)))
      · refine Tot.iteT (by omega) (Tot.iteT h ?_)
        rw [ew]
        exact yes (by unfold sgnB; rw [decide_eq_true hlt, h1, h2]; rfl)
      · have hg : sgnB s (Q.runN isSp s 0) = false := by unfold sgnB; rw [h1, h2, Bool.or_false, Bool.and_false]
        have e1 : atD s = Q.runN isSp s 0 := by unfold atD; rw [hg, if_neg (by simp)]
        have e2 : negB s = false := by unfold negB; rw [hg, if_neg (by simp)]
        rw [← e1, ← e2]
        exact s6
  · have h := of_decide_eq_false h
    have hg : sgnB s (Q.runN isSp s 0) = false := by unfold sgnB; rw [decide_eq_false (by omega), Bool.false_and]
    have e1 : atD s = Q.runN isSp s 0 := by unfold atD; rw [hg, if_neg (by simp)]
    have e2 : negB s = false := by unfold negB; rw [hg, if_neg (by simp)]
    rw [← e1, ← e2]
    exact s6
theorem looksNum_tot (hs : s.size ≤ 140737488355328) : Tot (fun k κ => (tb (ρ := ρ) k).impl_LooksNum s (fun a => κ a)) fun r => r = looksV s := by
  refine st_impl_LooksNum ?_
  unfold B_impl_LooksNum
  refine Tot.bind2 (readDec_tot hs) fun a b h => ?_
  have h : (a, b) = readV s := h
  obtain ⟨n, hn, hle⟩ := readV_at s
  unfold looksV
  rw [← h] at hn ⊢
  have hn : b = (n : Int) := hn
  subst hn
  refine Tot.bif (fun h1 => ?_) (fun h1 => ?_)
  · refine Tot.bind1 (run1_tot hs hle) fun v hv => ?_
    have hv : v = _ := hv
    subst hv
    refine Tot.ret _ (fun _ _ => rfl) ?_
    have h1 : decide (0 < (n : Int)) = true := h1
    rw [w_in (by omega), h1, Bool.true_and, Int.toNat_natCast]
    have hr := runN_le isSp s n hle
    by_cases c : n + Q.runN isSp s n = s.size
    · rw [decide_eq_true c]
      exact beq_iff_eq.mpr (by omega)
    · rw [decide_eq_false c]
      exact beq_eq_false_iff_ne.mpr (by omega)
  · refine Tot.ret _ (fun _ _ => rfl) ?_
    have h1 : decide (0 < (n : Int)) = false := h1
    rw [h1, Bool.false_and]
def endV (i : Int) (neg : Bool) (n c : Int) : Int × Int := if c = 0 then (0, 0) else (if neg = true then - mn n 9000000000000 else mn n 9000000000000, i)
theorem s22_tot {i : Int} {neg : Bool} {n c : Int} (h0 : 0 ≤ n) (h1 : n ≤ 9000009000000) : Tot (fun k κ => (tb (ρ := ρ) k).spec_ReadDec_s22 i neg n c (fun a b => κ (a, b))) fun r => r = endV i neg n c := by
  have s28 : ∀ v : Int, Tot (fun k κ => (tb (ρ := ρ) k).spec_ReadDec_s28 i v (fun a b => κ (a, b))) fun r => r = (v, i) := fun v => by
    refine st_spec_ReadDec_s28 ?_
    unfold B_spec_ReadDec_s28
    exact Tot.ret _ (fun _ _ => rfl) rfl
  have s26 : ∀ v : Int, 0 ≤ v → v ≤ 9000000000000 → v = mn n 9000000000000 → c ≠ 0 → Tot (fun k κ => (tb (ρ := ρ) k).spec_ReadDec_s26 i neg v (fun a b => κ (a, b))) fun r => r = endV i neg n c := fun v v0 v1 hv hc => by
    refine st_spec_ReadDec_s26 ?_
    unfold B_spec_ReadDec_s26
    refine Tot.bif (fun h => ?_) (fun h => ?_)
    · refine (s28 _).imp fun r hr => ?_
      rw [hr, w_in (by omega)]
      unfold endV
      rw [if_neg hc, if_pos h, ← hv, Int.zero_sub]
    · refine (s28 _).imp fun r hr => ?_
      rw [hr]
      unfold endV
      rw [if_neg hc, if_neg (by rw [h]; simp), ← hv]
  refine st_spec_ReadDec_s22 ?_
  unfold B_spec_ReadDec_s22
  refine Tot.bif (fun h => ?_) (fun h => ?_)
  · exact Tot.ret _ (fun _ _ => rfl) (by unfold endV; rw [if_pos (by simpa using h)])
  · have hc : c ≠ 0 := by simpa using h
    refine Tot.bif (fun h => ?_) (fun h => ?_)
    · have h := of_decide_eq_true h
      exact s26 _ (by decide) (by decide) (by unfold mn; omega) hc
    · have h := of_decide_eq_false h
      exact s26 _ h0 (by omega) (by unfold mn; omega) hc
theorem sp17_tot (hs : s.size ≤ 140737488355328) {neg : Bool} {T : Int × Int → Prop} : ∀ (d i : Nat) (n c u : Int), i + d = s.size → 0 ≤ n → 0 ≤ u → n + 10 * u ≤ 9000001000001 → 0 ≤ c → c ≤ i →
    T (endV ((i + Q.runN isDg s i : Nat) : Int) neg (n + partSum u (seg s i (Q.runN isDg s i))) (c + (Q.runN isDg s i : Nat))) → Tot (fun k κ => (tb (ρ := ρ) k).spec_ReadDec_s17 s (i : Int) neg n c u (fun a b => κ (a, b))) T
  | d, i, n, c, u, hd, hn0, hu, hn1, hc0, hc1, hQ => by
    refine st_spec_ReadDec_s17 ?_
    unfold B_spec_ReadDec_s17
    have stop : Q.runN isDg s i = 0 → Tot (fun k κ => (tb (ρ := ρ) k).spec_ReadDec_s22 (i : Int) neg n c (fun a b => κ (a, b))) T := fun h => by
      rw [h] at hQ
      refine (s22_tot hn0 (by omega)).imp fun r hr => ?_
      rw [hr]
      simpa [seg, partSum] using hQ
    refine Tot.bif (fun h => ?_) (fun h => ?_)
    · have h := of_decide_eq_true h
      have hlt : i < s.size := by omega
      refine Tot.iteT (by omega) (Tot.iteT h (Tot.bind1 (l1digit_tot _) fun b hb => ?_))
      have hb : b = _ := hb
      refine Tot.bif (fun h1 => ?_) (fun h1 => ?_)
      · rw [hb] at h1
        have hdg := digB _ h1
        refine Tot.iteT (by omega) (Tot.iteT h ?_)
        rw [runN_hit hlt h1] at hQ
        simp only [seg, partSum] at hQ
        generalize hbt : bt s (i : Int) = x at *
        have hp0 : 0 ≤ (x - 48) % 256 * u := Int.mul_nonneg (by omega) hu
        have hp1 : (x - 48) % 256 * u ≤ 9 * u := Int.mul_le_mul_of_nonneg_right (by omega) hu
        rw [u8w, w_in (n := (x - 48) % 256) (by omega), w_in (n := (x - 48) % 256 * u) (by omega), w_in (n := n + (x - 48) % 256 * u) (by omega), w_in (n := c + 1) (by omega), show w ((i : Int) + 1) = ((i + 1 : Nat) : Int) by rw [w_in (by omega)]; omega, Int.tdiv_eq_ediv_of_nonneg hu, w_in (n := u / 10) (by omega)]
        cases d with
        | zero => omega
        | succ d =>
          refine sp17_tot hs d (i + 1) _ _ _ (by omega) (by omega) (by omega) (by omega) (by omega) (by omega) ?_
          have e1 : ((i + 1 + Q.runN isDg s (i + 1) : Nat) : Int) = ((i + (Q.runN isDg s (i + 1) + 1) : Nat) : Int) := by omega
          have e2 : c + 1 + ((Q.runN isDg s (i + 1) : Nat) : Int) = c + ((Q.runN isDg s (i + 1) + 1 : Nat) : Int) := by omega
          rw [e1, e2, Int.add_assoc]
          exact hQ
      · rw [hb] at h1
        exact stop (runN_miss hlt h1)
    · have h := of_decide_eq_false h
      exact stop (runN_end (by omega))
def aftB (t : Tb ρ) (x5 : ByteArray) (x6 : Int) (x7 : Bool) (x8 x9 : Int) (κ : Int → Int → Option ρ) : Option ρ := bif decide (x6 < (x5.size : Int)) then (if (0 : Int) ≤ x6 then if x6 < (x5.size : Int) then bif (bt x5 x6) == 46 then (bif decide (x9 > 0) then (t.spec_ReadDec_s15 x5 x6 x7 x8 x9 κ) else (bif decide ((w (x6 + 1)) < (x5.size : Int)) then (if (0 : Int) ≤ (w (x6 + 1)) then if (w (x6 + 1)) < (x5.size : Int) then t.spec_l1digit (bt x5 (w (x6 + 1))) (fun (v11 : Bool) => bif v11 then (t.spec_ReadDec_s15 x5 x6 x7 x8 x9 κ) else (t.spec_ReadDec_s22 x6 x7 x8 x9 κ)) else none else none) else (t.spec_ReadDec_s22 x6 x7 x8 x9 κ))) else (t.spec_ReadDec_s22 x6 x7 x8 x9 κ) else none else none) else (t.spec_ReadDec_s22 x6 x7 x8 x9 κ)
theorem s8_tot (hs : s.size ≤ 140737488355328) {neg : Bool} {T : Int × Int → Prop} : ∀ (d i : Nat) (n c : Int), i + d = s.size → 0 ≤ n → n ≤ 9000000000001 → 0 ≤ c → c ≤ i →
    Tot (fun k κ => aftB (tb (ρ := ρ) k) s ((i + Q.runN isDg s i : Nat) : Int) neg ((seg s i (Q.runN isDg s i)).foldl wholeStep n) (c + (Q.runN isDg s i : Nat)) (fun a b => κ (a, b))) T → Tot (fun k κ => (tb (ρ := ρ) k).spec_ReadDec_s8 s (i : Int) neg n c (fun a b => κ (a, b))) T
  | d, i, n, c, hd, hn0, hn1, hc0, hc1, hQ => by
    refine st_spec_ReadDec_s8 ?_
    unfold B_spec_ReadDec_s8
    have stop : Q.runN isDg s i = 0 → Tot (fun k κ => aftB (tb (ρ := ρ) k) s (i : Int) neg n c (fun a b => κ (a, b))) T := fun h => by
      rw [h] at hQ
      simpa [seg] using hQ
    refine Tot.bif (fun h => ?_) (fun h => ?_)
    · have h := of_decide_eq_true h
      have hlt : i < s.size := by omega
      refine Tot.iteT (by omega) (Tot.iteT h (Tot.bind1 (l1digit_tot _) fun b hb => ?_))
      have hb : b = _ := hb
      refine Tot.bif (fun h1 => ?_) (fun h1 => ?_)
      · rw [hb] at h1
        have hdg := digB _ h1
        refine Tot.iteT (by omega) (Tot.iteT h ?_)
        rw [runN_hit hlt h1] at hQ
        simp only [seg, List.foldl_cons] at hQ
        have hr := wholeStep_range n (bt s (i : Int)) hn0
        have ew : wholeStep n (bt s (i : Int)) = if n * 10 + (bt s (i : Int) - 48) % 256 * 1000000 > 9000000000000 then 9000000000001 else n * 10 + (bt s (i : Int) - 48) % 256 * 1000000 := rfl
        have e1 : ((i + 1 + Q.runN isDg s (i + 1) : Nat) : Int) = ((i + (Q.runN isDg s (i + 1) + 1) : Nat) : Int) := by omega
        have e2 : c + 1 + ((Q.runN isDg s (i + 1) : Nat) : Int) = c + ((Q.runN isDg s (i + 1) + 1 : Nat) : Int) := by omega
        rw [← e1, ← e2] at hQ
        cases d with
        | zero => omega
        | succ d =>
          have go := s8_tot hs d (i + 1) (wholeStep n (bt s (i : Int))) (c + 1) (by omega) hr.1 hr.2 (by omega) (by omega) hQ
          rw [u8w, w_in (n := (bt s (i : Int) - 48) % 256) (by omega), w_in (n := n * 10) (by omega), w_in (n := (bt s (i : Int) - 48) % 256 * 1000000) (by omega), w_in (n := n * 10 + (bt s (i : Int) - 48) % 256 * 1000000) (by omega), w_in (n := c + 1) (by omega), show w ((i : Int) + 1) = ((i + 1 : Nat) : Int) by rw [w_in (by omega)]; omega]
          refine Tot.bif (fun h2 => ?_) (fun h2 => ?_)
          · have h2 := of_decide_eq_true h2
            rw [ew, if_pos h2] at go
            exact go
          · have h2 := of_decide_eq_false h2
            rw [ew, if_neg h2] at go
            exact go
      · rw [hb] at h1
        exact stop (runN_miss hlt h1)
    · have h := of_decide_eq_false h
      exact stop (runN_end (by omega))
theorem body_tot (hs : s.size ≤ 140737488355328) : Tot (fun k κ => (tb (ρ := ρ) k).spec_ReadDec_s8 s (atD s : Int) (negB s) 0 0 (fun a b => κ (a, b))) fun r => r = readV s := by
  have h1 := atD_le s
  have h2 := at2_le s
  have e2 : atD s + Q.runN isDg s (atD s) = at2 s := rfl
  have hw : wholeN s = Q.runN isDg s (atD s) := rfl
  refine s8_tot hs (s.size - atD s) (atD s) 0 0 (by omega) (by decide) (by decide) (by decide) (by omega) ?_
  rw [e2, ← hw, Int.zero_add]
  have hN : 0 ≤ (seg s (atD s) (wholeN s)).foldl wholeStep 0 ∧ (seg s (atD s) (wholeN s)).foldl wholeStep 0 ≤ 9000000000001 := by
    rw [whole_val]
    exact mn_range (Int.mul_nonneg (valFrom_nonneg _ 0 (by omega)) (by omega))
  generalize hNN : (seg s (atD s) (wholeN s)).foldl wholeStep 0 = N at hN
  have hval := readV_eq s
  have hnum := numOf_eq s
  rw [hNN] at hnum
  have stop : tkB s = false → Tot (fun k κ => (tb (ρ := ρ) k).spec_ReadDec_s22 (at2 s : Int) (negB s) N (wholeN s : Int) (fun a b => κ (a, b))) fun r => r = readV s := fun ht => by
    refine (s22_tot hN.1 (by omega)).imp fun r hr => ?_
    have e3 : at3 s = at2 s := by unfold at3; rw [ht, if_neg (by simp)]
    have e4 : partL s = [] := by unfold partL; rw [ht, if_neg (by simp)]
    rw [e4] at hnum
    simp only [partSum, Int.add_zero] at hnum
    rw [hr, hval, ht, if_neg (by simp : ¬ (false = true)), e3, hnum]
    unfold endV
    by_cases c : wholeN s = 0
    · rw [if_pos (show (wholeN s : Int) = 0 by omega), if_pos (show wholeN s + 0 = 0 by omega)]
    · rw [if_neg (show ¬ (wholeN s : Int) = 0 by omega), if_neg (show ¬ wholeN s + 0 = 0 by omega)]
  have dot : at2 s < s.size → tkB s = true → Tot (fun k κ => (tb (ρ := ρ) k).spec_ReadDec_s15 s (at2 s : Int) (negB s) N (wholeN s : Int) (fun a b => κ (a, b))) fun r => r = readV s := fun hlt ht => by
    refine st_spec_ReadDec_s15 ?_
    unfold B_spec_ReadDec_s15
    rw [show w ((at2 s : Int) + 1) = ((at2 s + 1 : Nat) : Int) by rw [w_in (by omega)]; omega]
    refine sp17_tot hs (s.size - (at2 s + 1)) (at2 s + 1) N _ 100000 (by omega) hN.1 (by decide) (by omega) (by omega) (by omega) ?_
    have hm : moreN s = Q.runN isDg s (at2 s + 1) := by
      unfold tkB at ht
      rw [Bool.and_eq_true] at ht
      unfold moreN
      rw [if_pos ht.1]
    have e3 : at3 s = at2 s + 1 + moreN s := by unfold at3; rw [if_pos ht]
    have e4 : partL s = seg s (at2 s + 1) (moreN s) := by unfold partL; rw [if_pos ht]
    rw [← hm, ← e3, ← e4, hval, ht, if_pos rfl, hnum]
    unfold endV
    by_cases c : wholeN s + moreN s = 0
    · rw [if_pos (show (wholeN s : Int) + (moreN s : Int) = 0 by omega), if_pos c]
    · rw [if_neg (show ¬ (wholeN s : Int) + (moreN s : Int) = 0 by omega), if_neg c]
  unfold aftB
  refine Tot.bif (fun h => ?_) (fun h => ?_)
  · have h := of_decide_eq_true h
    have hlt : at2 s < s.size := by omega
    refine Tot.iteT (by omega) (Tot.iteT h (Tot.bif (fun h46 => ?_) (fun h46 => ?_)))
    · have h46 : bt s (at2 s) = 46 := by simpa using h46
      have htk := tk_true s hlt h46
      refine Tot.bif (fun h3 => ?_) (fun h3 => ?_)
      · have h3 := of_decide_eq_true h3
        exact dot hlt (by rw [htk]; exact decide_eq_true (by omega))
      · have h3 := of_decide_eq_false h3
        rw [show w ((at2 s : Int) + 1) = ((at2 s + 1 : Nat) : Int) by rw [w_in (by omega)]; omega]
        refine Tot.bif (fun h4 => ?_) (fun h4 => ?_)
        · have h4 := of_decide_eq_true h4
          refine Tot.iteT (by omega) (Tot.iteT h4 (Tot.bind1 (l1digit_tot _) fun b hb => ?_))
          have hb : b = _ := hb
          have hp := runN_pos isDg s (at2 s + 1)
          refine Tot.bif (fun h5 => ?_) (fun h5 => ?_)
          · rw [hb] at h5
            exact dot hlt (by rw [htk]; exact decide_eq_true (by have := hp.mpr ⟨by omega, h5⟩; omega))
          · rw [hb] at h5
            refine stop (htk.trans (decide_eq_false fun h6 => ?_))
            have := (hp.mp (by omega)).2
            rw [h5] at this
            cases this
        · have h4 := of_decide_eq_false h4
          refine stop (htk.trans (decide_eq_false fun h6 => ?_))
          have hp := runN_pos isDg s (at2 s + 1)
          have := (hp.mp (by omega)).1
          omega
    · have h46 : ¬ bt s (at2 s) = 46 := by simpa using h46
      exact stop (tk_false s fun h => h46 h.2)
  · have h := of_decide_eq_false h
    exact stop (tk_false s fun h2 => h (by omega))
theorem specReadDec_tot (hs : s.size ≤ 140737488355328) : Tot (fun k κ => (tb (ρ := ρ) k).spec_ReadDec s (fun a b => κ (a, b))) fun r => r = readV s := by
  refine st_spec_ReadDec ?_
  unfold B_spec_ReadDec
  refine Tot.bind1 (skip_tot hs (a := 0) (by omega)) fun v hv => ?_
  have hv : v = _ := hv
  rw [Nat.zero_add] at hv
  subst hv
  have hle := runN_le isSp s 0 (by omega)
  have s6 : Tot (fun k κ => (tb (ρ := ρ) k).spec_ReadDec_s6 s (atD s : Int) (negB s) (fun a b => κ (a, b))) fun r => r = readV s := by
    refine st_spec_ReadDec_s6 ?_
    unfold B_spec_ReadDec_s6
    exact body_tot hs
  have ew : w (((Q.runN isSp s 0 : Nat) : Int) + 1) = ((Q.runN isSp s 0 + 1 : Nat) : Int) := by rw [w_in (by omega)]; omega
  refine Tot.bif (fun h => ?_) (fun h => ?_)
  · have h := of_decide_eq_true h
    have hlt : Q.runN isSp s 0 < s.size := by omega
    have yes : sgnB s (Q.runN isSp s 0) = true → Tot (fun k κ => (tb (ρ := ρ) k).spec_ReadDec_s6 s ((Q.runN isSp s 0 + 1 : Nat) : Int) (bt s ((Q.runN isSp s 0 : Nat) : Int) == 45) (fun a b => κ (a, b))) fun r => r = readV s := fun hg => by
      have e1 : atD s = Q.runN isSp s 0 + 1 := by unfold atD; rw [if_pos hg]
      have e2 : negB s = (bt s ((Q.runN isSp s 0 : Nat) : Int) == 45) := by unfold negB; rw [if_pos hg]
      rw [← e1, ← e2]
      exact s6
    refine Tot.iteT (by omega) (Tot.iteT h (Tot.bif (fun h1 => ?_) (fun h1 => ?_)))
    · refine Tot.iteT (by omega) (Tot.iteT h ?_)
      rw [ew]
      exact yes (by unfold sgnB; rw [decide_eq_true hlt, h1]; rfl)
    · refine Tot.iteT (by omega) (Tot.iteT h (Tot.bif (fun h2 => ?_) (fun h2 => ?_)))
      · refine Tot.iteT (by omega) (Tot.iteT h ?_)
        rw [ew]
        exact yes (by unfold sgnB; rw [decide_eq_true hlt, h1, h2]; rfl)
      · have hg : sgnB s (Q.runN isSp s 0) = false := by unfold sgnB; rw [h1, h2, Bool.or_false, Bool.and_false]
        have e1 : atD s = Q.runN isSp s 0 := by unfold atD; rw [hg, if_neg (by simp)]
        have e2 : negB s = false := by unfold negB; rw [hg, if_neg (by simp)]
        rw [← e1, ← e2]
        exact s6
  · have h := of_decide_eq_false h
    have hg : sgnB s (Q.runN isSp s 0) = false := by unfold sgnB; rw [decide_eq_false (by omega), Bool.false_and]
    have e1 : atD s = Q.runN isSp s 0 := by unfold atD; rw [hg, if_neg (by simp)]
    have e2 : negB s = false := by unfold negB; rw [hg, if_neg (by simp)]
    rw [← e1, ← e2]
    exact s6
theorem specLooksNum_tot (hs : s.size ≤ 140737488355328) : Tot (fun k κ => (tb (ρ := ρ) k).spec_LooksNum s (fun a => κ a)) fun r => r = looksV s := by
  refine st_spec_LooksNum ?_
  unfold B_spec_LooksNum
  refine Tot.bind2 (specReadDec_tot hs) fun a b h => ?_
  have h : (a, b) = readV s := h
  obtain ⟨n, hn, hle⟩ := readV_at s
  unfold looksV
  rw [← h] at hn ⊢
  have hn : b = (n : Int) := hn
  subst hn
  refine Tot.bif (fun h1 => ?_) (fun h1 => ?_)
  · refine Tot.bind1 (skip_tot hs hle) fun v hv => ?_
    have hv : v = _ := hv
    subst hv
    refine Tot.ret _ (fun _ _ => rfl) ?_
    have h1 : decide (0 < (n : Int)) = true := h1
    rw [h1, Bool.true_and, Int.toNat_natCast]
    by_cases c : n + Q.runN isSp s n = s.size
    · rw [decide_eq_true c]
      exact beq_iff_eq.mpr (by omega)
    · rw [decide_eq_false c]
      exact beq_eq_false_iff_ne.mpr (by omega)
  · refine Tot.ret _ (fun _ _ => rfl) ?_
    have h1 : decide (0 < (n : Int)) = false := h1
    rw [h1, Bool.false_and]
end
end Go.Proofs.YtbakkcdanoopgaaGreatDoor.Ev.Pr
set_option linter.unusedVariables false
namespace Go.Proofs.YtbakkcdanoopgaaGreatDoor.Pure
open Go Go.RowKit Go.Proofs.YtbakkcdanoopgaaGreatDoor.Q Go.Proofs.YtbakkcdanoopgaaGreatDoorW.PrintWords Go.Proofs.YtbakkcdanoopgaaGreatDoorW.PrintMore
def isDec (n : Int) : Prop := -9000000000000 ≤ n ∧ n ≤ 9000000000000
instance (n : Int) : Decidable (isDec n) := inferInstanceAs (Decidable (_ ∧ _))
def bmk (l : List UInt8) : ByteArray := ⟨⟨l⟩⟩
theorem bmk_size (l : List UInt8) : (bmk l).size = l.length := rfl
theorem bmk_list (l : List UInt8) : (bmk l).data.toList = l := rfl
theorem bmk_append (a b : List UInt8) : bmk a ++ bmk b = bmk (a ++ b) := by
  apply ByteArray.ext
  rw [ByteArray.data_append]
  apply Array.ext'
  rw [Array.toList_append]; rfl
theorem bmk_extract (l : List UInt8) (i j : Nat) : (bmk l).extract i j = bmk ((l.drop i).take (j - i)) := by
  apply ByteArray.ext
  rw [ByteArray.data_extract]
  apply Array.ext'
  rw [Array.toList_extract]; simp [bmk, List.extract_eq_take_drop]
def trimR : List UInt8 → List UInt8
  | [] => []
  | a :: l => if trimR l = [] then (if a = 48 then [] else [a]) else a :: trimR l
theorem trimR_length (l : List UInt8) : (trimR l).length ≤ l.length := by
  induction l with
  | nil => simp [trimR]
  | cons a l ih =>
    simp only [trimR]
    split
    · split <;> simp
    · simp; exact ih
theorem trimR_snoc (l : List UInt8) (c : UInt8) : trimR (l ++ [c]) = if c = 48 then trimR l else l ++ [c] := by
  induction l with
  | nil => simp [trimR]
  | cons a l ih =>
    rw [List.cons_append, trimR, ih]
    by_cases h : c = 48
    · rw [if_pos h, if_pos h]; rfl
    · rw [if_neg h, if_neg h, if_neg (by simp)]
def dl : Nat → Nat → List UInt8
  | 0, _ => []
  | j + 1, r => UInt8.ofNat (48 + r / 10 ^ j) :: dl j (r % 10 ^ j)
theorem dl_length (j : Nat) : ∀ r, (dl j r).length = j := by
  induction j with
  | zero => intro r; rfl
  | succ j ih => intro r; simp [dl, ih]
theorem dl_zero (j : Nat) : trimR (dl j 0) = [] := by
  induction j with
  | zero => rfl
  | succ j ih =>
    simp only [dl, Nat.zero_div, Nat.zero_mod, trimR, ih, if_pos]
    rfl
theorem digit_ne (d : Nat) (h0 : 0 < d) (h : d < 10) : UInt8.ofNat (48 + d) ≠ 48 := by
  intro e
  have := congrArg UInt8.toNat e
  rw [UInt8.toNat_ofNat'] at this
  have e2 : (48 : UInt8).toNat = 48 := by decide
  omega
theorem dl_pos (j : Nat) : ∀ r, 0 < r → r < 10 ^ j → trimR (dl j r) ≠ [] := by
  induction j with
  | zero => intro r h0 h1; simp at h1; omega
  | succ j ih =>
    intro r h0 h1
    have hp : 0 < 10 ^ j := Nat.pos_of_ne_zero (by simp)
    simp only [dl, trimR]
    by_cases h : r % 10 ^ j = 0
    · rw [h, dl_zero, if_pos rfl, if_neg]
      · simp
      · have hd : 0 < r / 10 ^ j := by
          have := Nat.div_add_mod r (10 ^ j)
          rcases Nat.eq_zero_or_pos (r / 10 ^ j) with e | e
          · rw [e] at this; omega
          · exact e
        exact digit_ne _ hd (Nat.div_lt_of_lt_mul (by rw [Nat.pow_succ] at h1; omega))
    · rw [if_neg (ih _ (by omega) (Nat.mod_lt _ hp))]
      simp
theorem trimR_cons (a : UInt8) (l : List UInt8) : trimR (a :: l) = if trimR l = [] then (if a = 48 then [] else [a]) else a :: trimR l := rfl
theorem dl_succ (j r : Nat) : dl (j + 1) r = UInt8.ofNat (48 + r / 10 ^ j) :: dl j (r % 10 ^ j) := rfl
theorem decDigits_le (k : Nat) : ∀ n : Nat, n < 10 ^ (k + 1) → (Lib.decDigits n).length ≤ k + 1 := by
  induction k with
  | zero => intro n h; rw [Lib.decDigits_one (by simpa using h)]; simp
  | succ k ih =>
    intro n h
    by_cases hn : n < 10
    · rw [Lib.decDigits_one hn]; simp
    · have := ih (n / 10) (by rw [Nat.pow_succ] at h; omega)
      rw [Lib.decDigits.eq_1 n, dif_neg hn, List.length_append]
      simp; omega
theorem digits_le (m : Nat) (h : m ≤ 9000000000000) : (Lib.decDigits m).length ≤ 21 := by
  have := decDigits_le 12 m (by omega)
  omega
theorem million (r : Nat) (h : r < 1000000) : Lib.decDigits (1000000 + r) = 49 :: dl 6 r := by
  have e : ∀ u, ¬ u < 10 → Lib.decDigits u = Lib.decDigits (u / 10) ++ [UInt8.ofNat (48 + u % 10)] := fun u hu => by rw [Lib.decDigits.eq_1 u, dif_neg hu]
  rw [e (1000000 + r) (by omega), e ((1000000 + r) / 10) (by omega), e ((1000000 + r) / 10 / 10) (by omega), e ((1000000 + r) / 10 / 10 / 10) (by omega), e ((1000000 + r) / 10 / 10 / 10 / 10) (by omega),
    e ((1000000 + r) / 10 / 10 / 10 / 10 / 10) (by omega), Lib.decDigits_one (i := (1000000 + r) / 10 / 10 / 10 / 10 / 10 / 10) (by omega)]
  have q : ∀ a b : Nat, a = b → UInt8.ofNat (48 + a) = UInt8.ofNat (48 + b) := fun a b h => by rw [h]
  simp only [dl, List.cons_append, List.nil_append]
  rw [q ((1000000 + r) / 10 / 10 / 10 / 10 / 10 / 10) 1 (by omega)]
  have p5 : (10 : Nat) ^ 5 = 100000 := by decide
  have p4 : (10 : Nat) ^ 4 = 10000 := by decide
  have p3 : (10 : Nat) ^ 3 = 1000 := by decide
  have p2 : (10 : Nat) ^ 2 = 100 := by decide
  have p1 : (10 : Nat) ^ 1 = 10 := by decide
  have p0 : (10 : Nat) ^ 0 = 1 := by decide
  rw [p5, p4, p3, p2, p1, p0]
  rw [q ((1000000 + r) / 10 / 10 / 10 / 10 / 10 % 10) (r / 100000) (by omega), q ((1000000 + r) / 10 / 10 / 10 / 10 % 10) (r % 100000 / 10000) (by omega), q ((1000000 + r) / 10 / 10 / 10 % 10) (r % 100000 % 10000 / 1000) (by omega),
    q ((1000000 + r) / 10 / 10 % 10) (r % 100000 % 10000 % 1000 / 100) (by omega), q ((1000000 + r) / 10 % 10) (r % 100000 % 10000 % 1000 % 100 / 10) (by omega), q ((1000000 + r) % 10) (r % 100000 % 10000 % 1000 % 100 % 10 / 1) (by omega)]
  rfl
def fracL (r : Nat) : List UInt8 := if r = 0 then [] else 46 :: trimR (dl 6 r)
def absL (m : Nat) : List UInt8 := Lib.decDigits (m / 1000000) ++ fracL (m % 1000000)
def decT (n : Int) : List UInt8 := if isDec n then (if n < 0 then 45 :: absL n.natAbs else absL n.natAbs) else []
theorem trim_eq (l : List UInt8) : Lib.trimRightB l 48 = trimR l := by
  have key : ∀ m : List UInt8, Lib.trimRightB m.reverse 48 = trimR m.reverse := fun m => by
    induction m with
    | nil => rfl
    | cons a m ih =>
      rw [List.reverse_cons, trimR_snoc, ← ih]
      unfold Lib.trimRightB
      rw [List.reverse_append, List.reverse_cons, List.reverse_nil, List.nil_append, List.singleton_append, List.dropWhile_cons]
      by_cases c : a = 48
      · rw [if_pos (by simp [c]), if_pos c]
      · rw [if_neg (by simp [c]), if_neg c]
        simp
  have := key l.reverse
  rwa [List.reverse_reverse] at this
end Go.Proofs.YtbakkcdanoopgaaGreatDoor.Pure
set_option linter.unusedVariables false
namespace Go.Proofs.YtbakkcdanoopgaaGreatDoor.Ev.Pr
open Go Go.RowKit Go.Proofs.YtbakkcdanoopgaaGreatDoorW.PrintWords Go.Proofs.YtbakkcdanoopgaaGreatDoorW.PrintMore Kd Go.Proofs.YtbakkcdanoopgaaGreatDoor.Ev Go.Proofs.YtbakkcdanoopgaaGreatDoor.Pure Go.Proofs.YtbakkcdanoopgaaGreatDoor.Q
section
variable {ρ : Type}
theorem decOk_tot (n : Int) : Tot (fun k κ => (tb (ρ := ρ) k).impl_DecOk n (fun a => κ a)) fun r => r = decide (isDec n) := by
  refine st_impl_DecOk ?_
  unfold B_impl_DecOk
  refine Tot.bind1 (Q := fun b => b = decide (isDec n)) (st_impl_between ?_) fun b hb => Tot.ret _ (fun _ _ => rfl) hb
  unfold B_impl_between
  refine Tot.bif (fun h => Tot.ret _ (fun _ _ => rfl) ?_) (fun h => Tot.ret _ (fun _ _ => rfl) ?_)
  · have h := of_decide_eq_true h
    by_cases c : n ≤ 9000000000000
    · rw [decide_eq_true c, decide_eq_true ⟨h, c⟩]
    · rw [decide_eq_false c, decide_eq_false fun h2 => c h2.2]
  · have h := of_decide_eq_false h
    rw [decide_eq_false fun h2 => h h2.1]
theorem specDecOk_tot (n : Int) : Tot (fun k κ => (tb (ρ := ρ) k).spec_DecOk n (fun a => κ a)) fun r => r = decide (isDec n) := by
  refine st_spec_DecOk ?_
  unfold B_spec_DecOk
  refine Tot.bif (fun h => Tot.ret _ (fun _ _ => rfl) ?_) (fun h => Tot.ret _ (fun _ _ => rfl) ?_)
  · have h := of_decide_eq_true h
    by_cases c : n ≤ 9000000000000
    · rw [decide_eq_true c, decide_eq_true ⟨h, c⟩]
    · rw [decide_eq_false c, decide_eq_false fun h2 => c h2.2]
  · have h := of_decide_eq_false h
    rw [decide_eq_false fun h2 => h h2.1]
theorem tb_itoa (k : Nat) : (tb (ρ := ρ) k).strconv_Itoa = X_strconv_Itoa := by cases k <;> rfl
theorem tb_trim (k : Nat) : (tb (ρ := ρ) k).strings_TrimRight = X_strings_TrimRight := by cases k <;> rfl
theorem tb_atoi (k : Nat) : (tb (ρ := ρ) k).strconv_Atoi = X_strconv_Atoi := by cases k <;> rfl
theorem tb_repeat (k : Nat) : (tb (ρ := ρ) k).strings_Repeat = X_strings_Repeat := by cases k <;> rfl
theorem itoa_tot {m : Nat} (h : m ≤ 9000000000000) : Tot (fun k κ => (tb (ρ := ρ) k).strconv_Itoa (m : Int) (fun a => κ a)) fun r => r = bmk (Lib.decDigits m) :=
  Tot.ret _ (fun k κ => by rw [tb_itoa]; unfold X_strconv_Itoa; rw [if_pos (by omega), Lib.itoa_nonneg]; rfl) rfl
theorem trim_tot {l : List UInt8} (h : l.length ≤ 1000) : Tot (fun k κ => (tb (ρ := ρ) k).strings_TrimRight (bmk l) (bs [48]) (fun a => κ a)) fun r => r = bmk (trimR l) :=
  Tot.ret _ (fun k κ => by
    rw [tb_trim]
    unfold X_strings_TrimRight
    have e : (bs [48]).data.toList = [48] := rfl
    rw [e]
    dsimp only
    have hs : (bmk l).size ≤ 9223372036854775807 := by rw [bmk_size]; omega
    rw [if_pos ⟨by decide, hs⟩, bmk_list, trim_eq]
    rfl) rfl
def absB (t : Tb ρ) (P : ByteArray) (c : Nat) (x0 : Int) (κ : ByteArray → Option ρ) : Option ρ := t.strconv_Itoa (w ((mx x0 (w (0 - x0))).tdiv 1000000)) (fun (v2 : ByteArray) => if c + v2.size ≤ 9223372036854775807 then bif decide (((mx x0 (w (0 - x0))).tmod 1000000) > 0) then (t.strconv_Itoa (w (1000000 + ((mx x0 (w (0 - x0))).tmod 1000000))) (fun (v3 : ByteArray) => if (1 : Int) ≤ (v3.size : Int) then t.strings_TrimRight (v3.extract 1 v3.size) (bs [48]) (fun (v4 : ByteArray) => if 1 + v4.size ≤ 9223372036854775807 then if (P ++ v2).size + ((bs [46]) ++ v4).size ≤ 9223372036854775807 then t.impl_DecText_s9 ((P ++ v2) ++ ((bs [46]) ++ v4)) κ else none else none) else none)) else (t.impl_DecText_s9 (P ++ v2) κ) else none)
theorem s9_tot (x : ByteArray) : Tot (fun k κ => (tb (ρ := ρ) k).impl_DecText_s9 x (fun a => κ a)) fun r => r = x := by
  refine st_impl_DecText_s9 ?_
  unfold B_impl_DecText_s9
  exact Tot.ret _ (fun _ _ => rfl) rfl
theorem abs_tot {n : Int} (hn : isDec n) (x : List UInt8) (hx : x.length ≤ 10) (c : Nat) (hc : c ≤ 10) : Tot (fun k κ => absB (tb (ρ := ρ) k) (bmk x) c n (fun a => κ a)) fun r => r = bmk (x ++ absL n.natAbs) := by
  have hd := hn
  unfold isDec at hd
  have em : mx n (w (0 - n)) = (n.natAbs : Int) := by rw [w_in (by omega)]; unfold mx; omega
  unfold absB
  rw [em]
  generalize hm : n.natAbs = m
  have hmle : m ≤ 9000000000000 := by omega
  have e1 : w ((m : Int).tdiv 1000000) = ((m / 1000000 : Nat) : Int) := by
    rw [Int.tdiv_eq_ediv_of_nonneg (by omega), w_in (by omega)]; omega
  have e2 : (m : Int).tmod 1000000 = ((m % 1000000 : Nat) : Int) := by
    rw [Int.tmod_eq_emod_of_nonneg (by omega)]; omega
  have e4 : w (1000000 + ((m % 1000000 : Nat) : Int)) = ((1000000 + m % 1000000 : Nat) : Int) := by rw [w_in (by omega)]; omega
  rw [e1, e2, e4]
  have hl := digits_le (m / 1000000) (by omega)
  refine Tot.bind1 (itoa_tot (by omega)) fun v hv => ?_
  have hv : v = _ := hv
  subst hv
  refine Tot.iteT (by rw [bmk_size]; omega) ?_
  unfold absL fracL
  refine Tot.bif (fun h => ?_) (fun h => ?_)
  · have h := of_decide_eq_true h
    rw [if_neg (by omega)]
    refine Tot.bind1 (itoa_tot (by omega)) fun v hv => ?_
    have hv : v = _ := hv
    rw [million _ (by omega)] at hv
    subst hv
    have hsz : (bmk (49 :: dl 6 (m % 1000000))).size = 7 := by rw [bmk_size, List.length_cons, dl_length]
    have hex : (bmk (49 :: dl 6 (m % 1000000))).extract 1 7 = bmk (dl 6 (m % 1000000)) := by
      rw [bmk_extract, List.drop_one, List.tail_cons, List.take_of_length_le (by rw [dl_length]; omega)]
    rw [hsz, hex]
    have ht := trimR_length (dl 6 (m % 1000000))
    rw [dl_length] at ht
    refine Tot.iteT (by decide) (Tot.bind1 (trim_tot (by rw [dl_length]; omega)) fun v hv => ?_)
    have hv : v = _ := hv
    subst hv
    have e6 : bs [46] = bmk [46] := rfl
    rw [e6, bmk_append, bmk_append, bmk_append]
    refine Tot.iteT (by rw [bmk_size]; omega) (Tot.iteT (by rw [bmk_size, bmk_size, List.length_append, List.length_append]; simp; omega) ?_)
    refine (s9_tot _).imp fun r hr => ?_
    rw [hr, List.append_assoc]
    rfl
  · have h := of_decide_eq_false h
    rw [if_pos (by omega), bmk_append, List.append_nil]
    exact s9_tot _
theorem decText_tot (n : Int) : Tot (fun k κ => (tb (ρ := ρ) k).impl_DecText n (fun a => κ a)) fun r => r = bmk (decT n) := by
  refine st_impl_DecText ?_
  unfold B_impl_DecText
  refine Tot.bind1 (decOk_tot n) fun b hb => ?_
  have hb : b = _ := hb
  unfold decT
  refine Tot.bif (fun h => ?_) (fun h => ?_)
  · have hn : ¬ isDec n := by
      intro hd
      rw [hb, decide_eq_true hd] at h
      cases h
    rw [if_neg hn]
    exact Tot.ret _ (fun _ _ => rfl) rfl
  · have hn : isDec n := by
      by_cases hd : isDec n
      · exact hd
      · rw [hb, decide_eq_false hd] at h
        cases h
    rw [if_pos hn]
    refine Tot.bif (fun h => ?_) (fun h => ?_)
    · have h := of_decide_eq_true h
      rw [if_pos h]
      exact abs_tot hn [45] (by simp) 1 (by decide)
    · have h := of_decide_eq_false h
      rw [if_neg h]
      exact abs_tot hn [] (by simp) 0 (by decide)
theorem one_tot {d : Nat} (h : d < 10) : Tot (fun k κ => (tb (ρ := ρ) k).spec_l1dec (d : Int) (fun a => κ a)) fun r => r = bmk [UInt8.ofNat (48 + d)] := by
  refine st_spec_l1dec ?_
  unfold B_spec_l1dec
  refine Tot.bif (fun _ => Tot.ret _ (fun _ _ => rfl) ?_) (fun h2 => absurd (of_decide_eq_false h2) (by omega))
  have e : IntKind.wrap .u8 (w (48 + Int.tmod (d : Int) 10)) = ((48 + d : Nat) : Int) := by
    rw [u8w, Int.tmod_eq_emod_of_nonneg (by omega), w_in (by omega)]; omega
  rw [e]
  rfl
theorem dec_tot (k : Nat) : ∀ n : Nat, n < 10 ^ (k + 1) → n ≤ 9000000000000 → Tot (fun k κ => (tb (ρ := ρ) k).spec_l1dec (n : Int) (fun a => κ a)) fun r => r = bmk (Lib.decDigits n) := by
  induction k with
  | zero =>
    intro n h _
    have hn : n < 10 := by simpa using h
    rw [Lib.decDigits_one hn]
    exact one_tot hn
  | succ k ih =>
    intro n h hb
    by_cases hn : n < 10
    · rw [Lib.decDigits_one hn]
      exact one_tot hn
    · refine st_spec_l1dec ?_
      unfold B_spec_l1dec
      refine Tot.bif (fun h2 => absurd (of_decide_eq_true h2) (by omega)) (fun _ => ?_)
      have e : IntKind.wrap .u8 (w (48 + Int.tmod (n : Int) 10)) = ((48 + n % 10 : Nat) : Int) := by
        rw [u8w, Int.tmod_eq_emod_of_nonneg (by omega), w_in (by omega)]; omega
      have e2 : w (Int.tdiv (n : Int) 10) = ((n / 10 : Nat) : Int) := by
        rw [Int.tdiv_eq_ediv_of_nonneg (by omega), w_in (by omega)]; omega
      have hlen := digits_le (n / 10) (by omega)
      rw [e, e2]
      refine Tot.bind1 (ih (n / 10) (by rw [Nat.pow_succ] at h; omega) (by omega)) fun v hv => ?_
      have hv : v = _ := hv
      subst hv
      have es : strOfNums [((48 + n % 10 : Nat) : Int)] = bmk [UInt8.ofNat (48 + n % 10)] := rfl
      rw [es]
      refine Tot.iteT (by simp [bmk_size]; omega) (Tot.ret _ (fun _ _ => rfl) ?_)
      rw [bmk_append]
      congr 1
      rw [Lib.decDigits.eq_1 n, dif_neg hn]
theorem s11_tot (j : Nat) : ∀ (x : List UInt8) (r : Nat), j ≤ 6 → 0 < r → r < 10 ^ (j + 1) → x.length + j ≤ 1000 →
    Tot (fun k κ => (tb (ρ := ρ) k).spec_DecText_s11 (bmk x) (r : Int) ((10 ^ j : Nat) : Int) (fun a => κ a)) fun q => q = bmk (x ++ trimR (dl (j + 1) r)) := by
  have done : ∀ (x : List UInt8) (u : Int), Tot (fun k κ => (tb (ρ := ρ) k).spec_DecText_s11 (bmk x) 0 u (fun a => κ a)) fun q => q = bmk x := fun x u => by
    refine st_spec_DecText_s11 ?_
    unfold B_spec_DecText_s11
    exact Tot.bif (fun h => absurd h (by decide)) (fun _ => Tot.ret _ (fun _ _ => rfl) rfl)
  induction j with
  | zero =>
    intro x r _ h0 h1 hx
    have hr : r < 10 := by simpa using h1
    have e : Int.tdiv (r : Int) ((10 ^ 0 : Nat) : Int) = (r : Int) := by simp
    have e2 : Int.tmod (r : Int) ((10 ^ 0 : Nat) : Int) = 0 := by simp
    refine st_spec_DecText_s11 ?_
    unfold B_spec_DecText_s11
    rw [e, e2]
    refine Tot.bif (fun _ => ?_) (fun h => absurd (of_decide_eq_false h) (by omega))
    rw [w_in (n := (r : Int)) (by omega)]
    refine Tot.iteF (by simp) (Tot.bind1 (one_tot hr) fun v hv => ?_)
    have hv : v = _ := hv
    subst hv
    refine Tot.iteT (by simp [bmk_size]; omega) (Tot.iteF (by simp) ?_)
    rw [bmk_append]
    refine (done _ _).imp fun q hq => ?_
    have hd := digit_ne r h0 hr
    have e3 : dl 0 (r % 10 ^ 0) = [] := rfl
    have e4 : r / 10 ^ 0 = r := by simp
    rw [hq, dl_succ, e3, e4, trimR_cons, if_pos (show trimR [] = [] from rfl), if_neg hd]
  | succ j ih =>
    intro x r hj h0 h1 hx
    have hp : 0 < 10 ^ (j + 1) := Nat.pos_of_ne_zero (by simp)
    have hd : r / 10 ^ (j + 1) < 10 := Nat.div_lt_of_lt_mul (by rw [Nat.pow_succ] at h1; omega)
    have hR := Nat.mod_lt r hp
    have hz : r % 10 ^ (j + 1) = 0 → 0 < r / 10 ^ (j + 1) := fun h => by
      have := Nat.div_add_mod r (10 ^ (j + 1))
      rcases Nat.eq_zero_or_pos (r / 10 ^ (j + 1)) with e | e
      · rw [e] at this; omega
      · exact e
    have hu : (10 ^ (j + 1) : Nat) ≤ 10 ^ 6 := Nat.pow_le_pow_right (by omega) hj
    have e : Int.tdiv (r : Int) ((10 ^ (j + 1) : Nat) : Int) = ((r / 10 ^ (j + 1) : Nat) : Int) := (Int.ofNat_tdiv _ _).symm
    have e2 : Int.tmod (r : Int) ((10 ^ (j + 1) : Nat) : Int) = ((r % 10 ^ (j + 1) : Nat) : Int) := (Int.ofNat_tmod _ _).symm
    have e3 : Int.tdiv ((10 ^ (j + 1) : Nat) : Int) 10 = ((10 ^ j : Nat) : Int) := by
      have := (Int.ofNat_tdiv (10 ^ (j + 1)) 10).symm
      rw [Nat.pow_succ, Nat.mul_div_cancel _ (by omega)] at this
      rw [Nat.pow_succ]
      exact this
    have hq : (10 ^ j : Nat) ≤ 10 ^ 6 := Nat.pow_le_pow_right (by omega) (by omega)
    have hne : r % 10 ^ (j + 1) ≠ 0 → trimR (dl (j + 1) (r % 10 ^ (j + 1))) ≠ [] := fun h => dl_pos (j + 1) _ (by omega) hR
    refine st_spec_DecText_s11 ?_
    unfold B_spec_DecText_s11
    rw [e, e2, e3, dl_succ, trimR_cons]
    generalize r / 10 ^ (j + 1) = D at *
    generalize r % 10 ^ (j + 1) = R at *
    generalize 10 ^ j = U at *
    generalize 10 ^ (j + 1) = V at *
    rw [w_in (n := (D : Int)) (by omega), w_in (n := (U : Int)) (by omega)]
    refine Tot.bif (fun _ => ?_) (fun h => absurd (of_decide_eq_false h) (by omega))
    refine Tot.iteF (by omega) (Tot.bind1 (one_tot hd) fun v hv => ?_)
    have hv : v = _ := hv
    subst hv
    refine Tot.iteT (by simp [bmk_size]; omega) (Tot.iteF (by omega) ?_)
    rw [bmk_append]
    by_cases h : R = 0
    · have hd0 := hz h
      rw [h]
      refine (done _ _).imp fun q hq => ?_
      rw [hq, dl_zero, if_pos rfl, if_neg (digit_ne _ hd0 hd)]
    · refine (ih (x ++ [UInt8.ofNat (48 + D)]) R (by omega) (by omega) hR (by simp; omega)).imp fun q hq => ?_
      rw [hq, if_neg (hne h), List.append_assoc]
      rfl
theorem abs1_tot {n : Int} (hn : isDec n) : Tot (fun k κ => (tb (ρ := ρ) k).spec_l1abs n (fun a => κ a)) fun r => r = (n.natAbs : Int) := by
  unfold isDec at hn
  refine st_spec_l1abs ?_
  unfold B_spec_l1abs
  refine Tot.bif (fun h => Tot.ret _ (fun _ _ => rfl) ?_) (fun h => Tot.ret _ (fun _ _ => rfl) ?_)
  · have h := of_decide_eq_true h
    rw [w_in (by omega)]; omega
  · have h := of_decide_eq_false h
    omega
theorem specDecText_tot (n : Int) : Tot (fun k κ => (tb (ρ := ρ) k).spec_DecText n (fun a => κ a)) fun r => r = bmk (decT n) := by
  refine st_spec_DecText ?_
  unfold B_spec_DecText
  refine Tot.bind1 (specDecOk_tot n) fun b hb => ?_
  have hb : b = _ := hb
  unfold decT
  refine Tot.bif (fun h => ?_) (fun h => ?_)
  · have hn : ¬ isDec n := by
      intro hd
      rw [hb, decide_eq_true hd] at h
      cases h
    rw [if_neg hn]
    exact Tot.ret _ (fun _ _ => rfl) rfl
  · have hn : isDec n := by
      by_cases hd : isDec n
      · exact hd
      · rw [hb, decide_eq_false hd] at h
        cases h
    have hd := hn
    unfold isDec at hd
    rw [if_pos hn]
    refine Tot.bind1 (abs1_tot hn) fun v hv => ?_
    have hv : v = _ := hv
    subst hv
    have a1 := abs1_tot (ρ := ρ) hn
    generalize hm : n.natAbs = m at *
    have e1 : w ((m : Int).tdiv 1000000) = ((m / 1000000 : Nat) : Int) := by
      rw [Int.tdiv_eq_ediv_of_nonneg (by omega), w_in (by omega)]; omega
    have e2 : (m : Int).tmod 1000000 = ((m % 1000000 : Nat) : Int) := by
      rw [Int.tmod_eq_emod_of_nonneg (by omega)]; omega
    have hl := digits_le (m / 1000000) (by omega)
    rw [e1]
    refine Tot.bind1 (dec_tot 12 (m / 1000000) (by omega) (by omega)) fun v hv => ?_
    have hv : v = _ := hv
    subst hv
    have e45 : bs [45] = bmk [45] := rfl
    have e46 : bs [46] = bmk [46] := rfl
    have e100 : (100000 : Int) = ((10 ^ 5 : Nat) : Int) := by decide
    unfold absL fracL
    refine Tot.bif (fun h => ?_) (fun h => ?_)
    · have h := of_decide_eq_true h
      rw [if_pos h, e45, e46, bmk_append, bmk_append]
      refine Tot.iteT (by rw [bmk_size]; omega) (Tot.bind1 a1 fun v hv => ?_)
      have hv : v = _ := hv
      subst hv
      rw [e2]
      refine Tot.bif (fun h2 => ?_) (fun h2 => ?_)
      · have h2 : m % 1000000 = 0 := by have := beq_iff_eq.mp h2; omega
        rw [if_pos h2, List.append_nil]
        exact Tot.ret _ (fun _ _ => rfl) rfl
      · have h2 : ¬ m % 1000000 = 0 := fun h3 => beq_eq_false_iff_ne.mp h2 (by omega)
        rw [if_neg h2, e100]
        refine Tot.iteT (by rw [bmk_size]; simp; omega) ((s11_tot 5 _ (m % 1000000) (by omega) (by omega) (by omega) (by simp; omega)).imp fun q hq => ?_)
        rw [hq]
        simp
    · have h := of_decide_eq_false h
      rw [if_neg h, e46, bmk_append]
      refine Tot.bind1 a1 fun v hv => ?_
      have hv : v = _ := hv
      subst hv
      rw [e2]
      refine Tot.bif (fun h2 => ?_) (fun h2 => ?_)
      · have h2 : m % 1000000 = 0 := by have := beq_iff_eq.mp h2; omega
        rw [if_pos h2, List.append_nil]
        exact Tot.ret _ (fun _ _ => rfl) rfl
      · have h2 : ¬ m % 1000000 = 0 := fun h3 => beq_eq_false_iff_ne.mp h2 (by omega)
        rw [if_neg h2, e100]
        refine Tot.iteT (by rw [bmk_size]; omega) ((s11_tot 5 _ (m % 1000000) (by omega) (by omega) (by omega) (by simp; omega)).imp fun q hq => ?_)
        rw [hq]
        simp
end
end Go.Proofs.YtbakkcdanoopgaaGreatDoor.Ev.Pr
set_option linter.unusedVariables false
namespace Go.Proofs.YtbakkcdanoopgaaGreatDoor.Ev.Pr
open Go Go.RowKit Go.Proofs.YtbakkcdanoopgaaGreatDoorW.PrintWords Go.Proofs.YtbakkcdanoopgaaGreatDoorW.PrintMore Kd Go.Proofs.YtbakkcdanoopgaaGreatDoor.Ev Go.Proofs.YtbakkcdanoopgaaGreatDoor.Pure Go.Proofs.YtbakkcdanoopgaaGreatDoor.Q
def okC (t n : Int) (s : ByteArray) : Bool :=
  if 500 < s.size then false else if t = 0 then decide (s.size = 0) && decide (n = 0) else if t = 1 then decide (s.size = 0) && decide (isDec n) else if t = 2 then decide (n = 0) else if t = 3 then looksV s && decide (n = (readV s).1) else false
def strC (t n : Int) (s : ByteArray) : ByteArray := if t = 1 then bmk (decT n) else s
def numC (t n : Int) (s : ByteArray) : Int := if t = 2 then (readV s).1 else n
def intV (n : Int) : Int := if isDec n then n.tdiv 1000000 * 1000000 else 0
end Go.Proofs.YtbakkcdanoopgaaGreatDoor.Ev.Pr
set_option linter.unusedVariables false
namespace Go.Proofs.YtbakkcdanoopgaaGreatDoor.Ev.Pr
open Go Go.RowKit Go.Proofs.YtbakkcdanoopgaaGreatDoorW.PrintWords Go.Proofs.YtbakkcdanoopgaaGreatDoorW.PrintMore Kd Go.Proofs.YtbakkcdanoopgaaGreatDoor.Ev Go.Proofs.YtbakkcdanoopgaaGreatDoor.Pure Go.Proofs.YtbakkcdanoopgaaGreatDoor.Q
section
variable {ρ : Type} {s : ByteArray}
theorem beq_dec (a b : Int) : (a == b) = decide (a = b) := by
  by_cases h : a = b
  · rw [decide_eq_true h]; exact beq_iff_eq.mpr h
  · rw [decide_eq_false h]; exact beq_eq_false_iff_ne.mpr h
theorem cellOk_tot (t n : Int) (hs : s.size ≤ 140737488355328) : Tot (fun k κ => (tb (ρ := ρ) k).impl_CellOk t n s (fun a => κ a)) fun r => r = okC t n s := by
  refine st_impl_CellOk ?_
  unfold B_impl_CellOk okC
  rw [listEmpty, beq_dec, beq_dec, beq_dec, beq_dec, beq_dec]
  refine Tot.bif (fun h => ?_) (fun h => ?_)
  · have h := of_decide_eq_true h
    refine Tot.bif (fun h2 => ?_) (fun h2 => ?_)
    · have h2' := of_decide_eq_true h2
      exact Tot.ret _ (fun _ _ => rfl) (by rw [if_neg (by omega), if_pos h, h2, Bool.true_and])
    · exact Tot.ret _ (fun _ _ => rfl) (by split; · rfl
                                           · rw [h2, Bool.false_and])
  have h0 := of_decide_eq_false h
  refine Tot.bif (fun h => ?_) (fun h => ?_)
  · have h := of_decide_eq_true h
    refine Tot.bif (fun h2 => ?_) (fun h2 => ?_)
    · have h2' := of_decide_eq_true h2
      refine Tot.bind1 (decOk_tot n) fun b hb => Tot.ret _ (fun _ _ => rfl) ?_
      have hb : b = _ := hb
      rw [if_neg (by omega), if_neg h0, if_pos h, h2, Bool.true_and, hb]
    · exact Tot.ret _ (fun _ _ => rfl) (by split; · rfl
                                           · rw [h2, Bool.false_and])
  have h1 := of_decide_eq_false h
  refine Tot.bif (fun h => ?_) (fun h => ?_)
  · have h := of_decide_eq_true h
    refine Tot.bif (fun h2 => ?_) (fun h2 => ?_)
    · have h2 := of_decide_eq_true h2
      exact Tot.ret _ (fun _ _ => rfl) (by rw [if_neg (by omega), if_neg h0, if_neg h1, if_pos h])
    · have h2 := of_decide_eq_false h2
      exact Tot.ret _ (fun _ _ => rfl) (by rw [if_pos (by omega)])
  have h2 := of_decide_eq_false h
  refine Tot.bif (fun h => ?_) (fun h => ?_)
  · have h := of_decide_eq_true h
    refine Tot.bind2 (readDec_tot hs) fun a b hab => ?_
    have hab : (a, b) = readV s := hab
    refine Tot.bif (fun h3 => ?_) (fun h3 => ?_)
    · have h3 := of_decide_eq_true h3
      refine Tot.bind1 (looksNum_tot hs) fun v hv => ?_
      have hv : v = _ := hv
      rw [if_neg (by omega), if_neg h0, if_neg h1, if_neg h2, if_pos h, ← hab, ← hv]
      refine Tot.bif (fun h4 => ?_) (fun h4 => ?_)
      · exact Tot.ret _ (fun _ _ => rfl) (by rw [h4, Bool.true_and, beq_dec])
      · exact Tot.ret _ (fun _ _ => rfl) (by rw [h4, Bool.false_and])
    · have h3 := of_decide_eq_false h3
      exact Tot.ret _ (fun _ _ => rfl) (by rw [if_pos (by omega)])
  · have h3 := of_decide_eq_false h
    exact Tot.ret _ (fun _ _ => rfl) (by split; · rfl
                                         · rfl)
theorem specCellOk_tot (t n : Int) (hs : s.size ≤ 140737488355328) : Tot (fun k κ => (tb (ρ := ρ) k).spec_CellOk t n s (fun a => κ a)) fun r => r = okC t n s := by
  refine st_spec_CellOk ?_
  unfold B_spec_CellOk okC
  rw [listEmpty, beq_dec, beq_dec, beq_dec, beq_dec, beq_dec]
  refine Tot.bif (fun h => ?_) (fun h => ?_)
  · have h := of_decide_eq_true h
    exact Tot.ret _ (fun _ _ => rfl) (by rw [if_pos (by omega)])
  have hs5 := of_decide_eq_false h
  rw [if_neg (show ¬ 500 < s.size by omega)]
  refine Tot.bif (fun h => ?_) (fun h => ?_)
  · have h := of_decide_eq_true h
    rw [if_pos h]
    refine Tot.bif (fun h2 => ?_) (fun h2 => ?_)
    · exact Tot.ret _ (fun _ _ => rfl) (by rw [h2, Bool.true_and])
    · exact Tot.ret _ (fun _ _ => rfl) (by rw [h2, Bool.false_and])
  have h0 := of_decide_eq_false h
  rw [if_neg h0]
  refine Tot.bif (fun h => ?_) (fun h => ?_)
  · have h := of_decide_eq_true h
    rw [if_pos h]
    refine Tot.bif (fun h2 => ?_) (fun h2 => ?_)
    · refine Tot.bind1 (specDecOk_tot n) fun b hb => Tot.ret _ (fun _ _ => rfl) ?_
      have hb : b = _ := hb
      rw [h2, Bool.true_and, hb]
    · exact Tot.ret _ (fun _ _ => rfl) (by rw [h2, Bool.false_and])
  have h1 := of_decide_eq_false h
  rw [if_neg h1]
  refine Tot.bif (fun h => ?_) (fun h => ?_)
  · have h := of_decide_eq_true h
    rw [if_pos h]
    exact Tot.ret _ (fun _ _ => rfl) rfl
  have h2 := of_decide_eq_false h
  rw [if_neg h2]
  refine Tot.bif (fun h => ?_) (fun h => ?_)
  · have h := of_decide_eq_true h
    rw [if_pos h]
    refine Tot.bind2 (specReadDec_tot hs) fun a b hab => ?_
    have hab : (a, b) = readV s := hab
    refine Tot.bind1 (specLooksNum_tot hs) fun v hv => ?_
    have hv : v = _ := hv
    rw [← hab, ← hv]
    refine Tot.bif (fun h4 => ?_) (fun h4 => ?_)
    · exact Tot.ret _ (fun _ _ => rfl) (by rw [h4, Bool.true_and, beq_dec])
    · exact Tot.ret _ (fun _ _ => rfl) (by rw [h4, Bool.false_and])
  · have h3 := of_decide_eq_false h
    rw [if_neg h3]
    exact Tot.ret _ (fun _ _ => rfl) rfl
theorem cellStr_tot (t n : Int) : Tot (fun k κ => (tb (ρ := ρ) k).impl_Cell_str t n s (fun a => κ a)) fun r => r = strC t n s := by
  refine st_impl_Cell_str ?_
  unfold B_impl_Cell_str strC
  refine Tot.bif (fun h => ?_) (fun h => ?_)
  · rw [if_pos (beq_iff_eq.mp h)]
    exact Tot.bind1 (decText_tot n) fun b hb => Tot.ret _ (fun _ _ => rfl) hb
  · rw [if_neg (beq_eq_false_iff_ne.mp h)]
    exact Tot.ret _ (fun _ _ => rfl) rfl
theorem cellNum_tot (t n : Int) (hs : s.size ≤ 140737488355328) : Tot (fun k κ => (tb (ρ := ρ) k).impl_Cell_num t n s (fun a => κ a)) fun r => r = numC t n s := by
  refine st_impl_Cell_num ?_
  unfold B_impl_Cell_num numC
  refine Tot.bif (fun h => ?_) (fun h => ?_)
  · rw [if_pos (beq_iff_eq.mp h)]
    refine Tot.bind2 (readDec_tot hs) fun a b hab => Tot.ret _ (fun _ _ => rfl) ?_
    have hab : (a, b) = readV s := hab
    rw [← hab]
  · rw [if_neg (beq_eq_false_iff_ne.mp h)]
    exact Tot.ret _ (fun _ _ => rfl) rfl
theorem toStr_tot {t n : Int} (hs : s.size ≤ 140737488355328) (hok : okC t n s = true) : Tot (fun k κ => (tb (ρ := ρ) k).spec_ToStr t n s (fun a => κ a)) fun r => r = strC t n s := by
  refine st_spec_ToStr ?_
  unfold B_spec_ToStr strC
  refine Tot.bind1 (specCellOk_tot t n hs) fun b hb => ?_
  have hb : b = _ := hb
  rw [hok] at hb
  subst hb
  refine Tot.bif (fun h => absurd h (by decide)) (fun _ => Tot.bif (fun h => ?_) (fun h => ?_))
  · rw [if_pos (beq_iff_eq.mp h)]
    exact Tot.bind1 (specDecText_tot n) fun b hb => Tot.ret _ (fun _ _ => rfl) hb
  · rw [if_neg (beq_eq_false_iff_ne.mp h)]
    exact Tot.ret _ (fun _ _ => rfl) rfl
theorem toNum_tot {t n : Int} (hs : s.size ≤ 140737488355328) (hok : okC t n s = true) : Tot (fun k κ => (tb (ρ := ρ) k).spec_ToNum t n s (fun a => κ a)) fun r => r = numC t n s := by
  refine st_spec_ToNum ?_
  unfold B_spec_ToNum numC
  refine Tot.bind1 (specCellOk_tot t n hs) fun b hb => ?_
  have hb : b = _ := hb
  rw [hok] at hb
  subst hb
  refine Tot.bif (fun h => absurd h (by decide)) (fun _ => Tot.bif (fun h => ?_) (fun h => ?_))
  · rw [if_pos (beq_iff_eq.mp h)]
    refine Tot.bind2 (specReadDec_tot hs) fun a b hab => Tot.ret _ (fun _ _ => rfl) ?_
    have hab : (a, b) = readV s := hab
    rw [← hab]
  · rw [if_neg (beq_eq_false_iff_ne.mp h)]
    exact Tot.ret _ (fun _ _ => rfl) rfl
theorem intV_w {n : Int} (hn : isDec n) : w (w (n.tdiv 1000000) * 1000000) = n.tdiv 1000000 * 1000000 := by
  unfold isDec at hn
  have h1 : -9000000 ≤ n.tdiv 1000000 ∧ n.tdiv 1000000 ≤ 9000000 := by
    rcases Int.le_total 0 n with h | h
    · rw [Int.tdiv_eq_ediv_of_nonneg h]; omega
    · have e : n.tdiv 1000000 = -((-n).tdiv 1000000) := by rw [Int.neg_tdiv, Int.neg_neg]
      rw [e, Int.tdiv_eq_ediv_of_nonneg (by omega)]; omega
  rw [w_in (n := n.tdiv 1000000) (by omega), w_in (by omega)]
theorem decInt_tot (n : Int) : Tot (fun k κ => (tb (ρ := ρ) k).impl_DecInt n (fun a => κ a)) fun r => r = intV n := by
  refine st_impl_DecInt ?_
  unfold B_impl_DecInt intV
  refine Tot.bind1 (decOk_tot n) fun b hb => ?_
  have hb : b = _ := hb
  subst hb
  refine Tot.bif (fun h => ?_) (fun h => ?_)
  · rw [if_neg (by simpa using h)]
    exact Tot.ret _ (fun _ _ => rfl) rfl
  · have hn : isDec n := by simpa using h
    rw [if_pos hn, intV_w hn]
    exact Tot.ret _ (fun _ _ => rfl) rfl
theorem specDecInt_tot (n : Int) : Tot (fun k κ => (tb (ρ := ρ) k).spec_DecInt n (fun a => κ a)) fun r => r = intV n := by
  refine st_spec_DecInt ?_
  unfold B_spec_DecInt intV
  refine Tot.bind1 (specDecOk_tot n) fun b hb => ?_
  have hb : b = _ := hb
  subst hb
  refine Tot.bif (fun h => ?_) (fun h => ?_)
  · rw [if_neg (by simpa using h)]
    exact Tot.ret _ (fun _ _ => rfl) rfl
  · have hn : isDec n := by simpa using h
    rw [if_pos hn, intV_w hn]
    exact Tot.ret _ (fun _ _ => rfl) rfl
end
end Go.Proofs.YtbakkcdanoopgaaGreatDoor.Ev.Pr
set_option linter.unusedVariables false
namespace Go.Proofs.YtbakkcdanoopgaaGreatDoor.Ev.Pr
open Go Go.RowKit Go.Proofs.YtbakkcdanoopgaaGreatDoorW.PrintWords Go.Proofs.YtbakkcdanoopgaaGreatDoorW.PrintMore Kd Go.Proofs.YtbakkcdanoopgaaGreatDoor.Ev Go.Proofs.YtbakkcdanoopgaaGreatDoor.Pure Go.Proofs.YtbakkcdanoopgaaGreatDoor.Q
inductive It where
  | ch (b : Int)
  | pl (kind : Int) (left : Bool) (wide : Int)
def digN (s : ByteArray) (k : Nat) : Nat := min (Q.runN isDg s k) 2
def plTail (s : ByteArray) (k : Nat) (left : Bool) : Option (It × Nat) :=
  if k + digN s k < s.size ∧ (bt s ((k + digN s k : Nat) : Int) = 100 ∨ bt s ((k + digN s k : Nat) : Int) = 115) then some (.pl (bt s ((k + digN s k : Nat) : Int)) left (valFrom 0 (seg s k (digN s k))), k + digN s k + 1) else none
def plAt (s : ByteArray) (i : Nat) : Option (It × Nat) :=
  if i + 1 < s.size ∧ bt s ((i + 1 : Nat) : Int) = 37 then some (.ch 37, i + 2)
  else if i + 1 < s.size ∧ bt s ((i + 1 : Nat) : Int) = 45 then plTail s (i + 2) true
  else plTail s (i + 1) false
def items (s : ByteArray) : Nat → Nat → Option (List It)
  | 0, _ => some []
  | n + 1, i => if i < s.size then (if bt s (i : Int) = 37 then (match plAt s i with
      | some (x, j) => (items s n j).map (x :: ·)
      | none => none) else (items s n (i + 1)).map (It.ch (bt s (i : Int)) :: ·)) else some []
def grp : List It → List ByteArray → List Tt87 → List Int → List ByteArray × List Tt87 × Bool
  | [], T, P, N => (T ++ [strOfNums N], P, true)
  | .ch b :: l, T, P, N => grp l T P (N ++ [b])
  | .pl k f v :: l, T, P, N => grp l (T ++ [strOfNums N]) (P ++ [(k, f, v)]) []
def grpO (x : Option (List It)) (T : List ByteArray) (P : List Tt87) (N : List Int) : List ByteArray × List Tt87 × Bool := match x with
  | some l => grp l T P N
  | none => ([], [], false)
theorem atoi_two : ∀ a b : Fin 10, Lib.atoi [UInt8.ofNat (48 + a.val), UInt8.ofNat (48 + b.val)] = some (((a.val * 10 + b.val : Nat) : Int)) := by decide +kernel
theorem atoi_one : ∀ a : Fin 10, Lib.atoi [UInt8.ofNat (48 + a.val)] = some ((a.val : Nat) : Int) := by decide +kernel
theorem digit_of {b : UInt8} (h : 48 ≤ (b.toNat : Int) ∧ (b.toNat : Int) ≤ 57) : ∃ a : Fin 10, b = UInt8.ofNat (48 + a.val) ∧ (b.toNat : Int) = 48 + (a.val : Int) := by
  refine ⟨⟨b.toNat - 48, by omega⟩, ?_, ?_⟩
  · rw [show 48 + (b.toNat - 48) = b.toNat by omega]
    simp
  · show (b.toNat : Int) = 48 + ((b.toNat - 48 : Nat) : Int)
    omega
theorem atoi_val (l : List UInt8) (h : l.length ≤ 2) (hd : ∀ b, b ∈ l → 48 ≤ (b.toNat : Int) ∧ (b.toNat : Int) ≤ 57) : (Lib.atoi l).getD 0 = valFrom 0 (l.map fun b => (b.toNat : Int)) := by
  match l, h, hd with
  | [], _, _ => rfl
  | [x], _, hd =>
    obtain ⟨a, rfl, e⟩ := digit_of (hd x (by simp))
    rw [atoi_one]
    simp only [List.map_cons, List.map_nil, valFrom, List.foldl_cons, List.foldl_nil, Option.getD_some]
    rw [e]
    omega
  | [x, y], _, hd =>
    obtain ⟨a, rfl, e⟩ := digit_of (hd x (by simp))
    obtain ⟨b, rfl, e2⟩ := digit_of (hd y (by simp))
    rw [atoi_two]
    simp only [List.map_cons, List.map_nil, valFrom, List.foldl_cons, List.foldl_nil, Option.getD_some]
    rw [e, e2]
    omega
theorem digN_le (s : ByteArray) (k : Nat) : digN s k ≤ Q.runN isDg s k ∧ digN s k ≤ 2 := by unfold digN; omega
theorem wid_range (s : ByteArray) (k : Nat) : 0 ≤ valFrom 0 (seg s k (digN s k)) ∧ valFrom 0 (seg s k (digN s k)) ≤ 99 := by
  have h := digN_le s k
  have hd := seg_digits s (digN s k) k h.1
  generalize hl : seg s k (digN s k) = l at *
  have hlen : l.length ≤ 2 := by rw [← hl, seg_length]; exact h.2
  match l, hlen, hd with
  | [], _, _ => decide
  | [x], _, hd =>
    have := hd x (by simp)
    simp only [valFrom, List.foldl_cons, List.foldl_nil]
    omega
  | [x, y], _, hd =>
    have h1 := hd x (by simp)
    have h2 := hd y (by simp)
    simp only [valFrom, List.foldl_cons, List.foldl_nil]
    omega
end Go.Proofs.YtbakkcdanoopgaaGreatDoor.Ev.Pr
set_option linter.unusedVariables false
namespace Go.Proofs.YtbakkcdanoopgaaGreatDoor.Ev.Pr
open Go Go.RowKit Go.Proofs.YtbakkcdanoopgaaGreatDoorW.PrintWords Go.Proofs.YtbakkcdanoopgaaGreatDoorW.PrintMore Kd Go.Proofs.YtbakkcdanoopgaaGreatDoor.Ev Go.Proofs.YtbakkcdanoopgaaGreatDoor.Pure Go.Proofs.YtbakkcdanoopgaaGreatDoor.Q
section
variable {ρ : Type} {s : ByteArray}
theorem atoi_tot (hs : s.size ≤ 500) {k : Nat} (hk : k ≤ s.size) : Tot (fun f κ => (tb (ρ := ρ) f).strconv_Atoi (s.extract k (k + digN s k)) (fun a => κ a)) fun r => r = valFrom 0 (seg s k (digN s k)) := by
  have h := digN_le s k
  have hr := runN_le isDg s k hk
  have hb := bytes_extract s k (digN s k) (by omega)
  refine Tot.ret _ (fun f κ => ?_) rfl
  rw [tb_atoi]
  unfold X_strconv_Atoi
  have hsz : (s.extract k (k + digN s k)).size = digN s k := by rw [ByteArray.size_extract]; omega
  rw [if_pos (by rw [hsz]; omega), atoi_val _ (by rw [Array.length_toList]; show (s.extract k (k + digN s k)).size ≤ 2; omega) (fun b hb2 => ?_), hb]
  have hm : (b.toNat : Int) ∈ seg s k (digN s k) := by
    rw [← hb]
    exact List.mem_map_of_mem (f := fun b : UInt8 => (b.toNat : Int)) hb2
  exact seg_digits s (digN s k) k h.1 _ hm
theorem s16_tot (hs : s.size ≤ 500) {k : Nat} (hk : k ≤ s.size) {left : Bool} {T : List ByteArray} {P : List Tt87} {N : List Int} (hT : T.length ≤ 1000) (hP : P.length ≤ 1000) {R : List ByteArray × List Tt87 × Bool → Prop}
    (next : match plTail s k left with
      | some (.pl a f v, j) => Tot (fun f' κ => (tb (ρ := ρ) f').impl_parts_s5 s (j : Int) (T ++ [strOfNums N]) (P ++ [(a, f, v)]) [] (fun a b c => κ (a, b, c))) R
      | some (.ch _, _) => True
      | none => R ([], [], false)) :
    Tot (fun f κ => (tb (ρ := ρ) f).impl_parts_s16 s (k : Int) T P N 0 left 0 (fun a b c => κ (a, b, c))) R := by
  refine st_impl_parts_s16 ?_
  unfold B_impl_parts_s16
  have hd := digN_le s k
  have hr := runN_le isDg s k hk
  refine Tot.bind1 (run_tot (by omega) hk) fun v hv => ?_
  have hv : v = _ := hv
  have em : mn v 2 = ((digN s k : Nat) : Int) := by rw [hv]; unfold digN mn; omega
  have ew : w ((k : Int) + mn v 2) = ((k + digN s k : Nat) : Int) := by rw [em, w_in (by omega)]; omega
  rw [ew]
  refine Tot.iteT (by omega) (Tot.iteT (by omega) (Tot.iteT (by omega) ?_))
  rw [Int.toNat_natCast, Int.toNat_natCast]
  refine Tot.bind1 (atoi_tot hs hk) fun x hx => ?_
  have hx : x = _ := hx
  subst hx
  unfold plTail at next
  have ew1 : w (((k + digN s k : Nat) : Int) + 1) = ((k + digN s k + 1 : Nat) : Int) := by rw [w_in (by omega)]; omega
  rw [ew1]
  refine Tot.bif (fun h => ?_) (fun h => ?_)
  · have h := of_decide_eq_true h
    rw [if_neg (by omega)] at next
    exact Tot.ret _ (fun _ _ => rfl) next
  have h := of_decide_eq_false h
  have hlt : k + digN s k < s.size := by omega
  have i0 : (0 : Int) ≤ ((k + digN s k : Nat) : Int) := by omega
  have i1 : ((k + digN s k : Nat) : Int) < (s.size : Int) := by omega
  refine Tot.iteT i0 (Tot.iteT i1 (Tot.bif (fun h1 => ?_) (fun h1 => ?_)))
  · refine Tot.iteT i0 (Tot.iteT i1 (Tot.bif (fun h2 => ?_) (fun h2 => ?_)))
    · have h1 := bne_iff_ne.mp h1
      have h2 := bne_iff_ne.mp h2
      rw [if_neg (fun h3 => h3.2.elim h1 h2)] at next
      exact Tot.ret _ (fun _ _ => rfl) next
    · have h2 : bt s ((k + digN s k : Nat) : Int) = 115 := by simpa using h2
      rw [if_pos ⟨hlt, .inr h2⟩] at next
      exact Tot.iteT i0 (Tot.iteT i1 (Tot.iteT (by omega) (Tot.iteT (by omega) next)))
  · have h1 : bt s ((k + digN s k : Nat) : Int) = 100 := by simpa using h1
    rw [if_pos ⟨hlt, .inl h1⟩] at next
    exact Tot.iteT i0 (Tot.iteT i1 (Tot.iteT (by omega) (Tot.iteT (by omega) next)))
theorem plTail_spec {k : Nat} {left : Bool} {x : It} {j : Nat} (h : plTail s k left = some (x, j)) : k < j ∧ j ≤ s.size ∧ ∃ a v, x = .pl a left v := by
  unfold plTail at h
  split at h
  · rename_i hh
    simp only [Option.some.injEq, Prod.mk.injEq] at h
    obtain ⟨rfl, rfl⟩ := h
    exact ⟨by omega, by omega, _, _, rfl⟩
  · cases h
theorem plAt_spec {i : Nat} {x : It} {j : Nat} (h : plAt s i = some (x, j)) : i + 1 < j ∧ j ≤ s.size := by
  unfold plAt at h
  split at h
  · rename_i hh
    simp only [Option.some.injEq, Prod.mk.injEq] at h
    omega
  · split at h
    · have := plTail_spec h
      omega
    · have := plTail_spec h
      omega
theorem parts_tot (hs : s.size ≤ 500) : ∀ (n i : Nat) (T : List ByteArray) (P : List Tt87) (N : List Int), s.size ≤ n + i → i ≤ s.size → T.length ≤ i → P.length ≤ i → N.length ≤ i →
    Tot (fun f κ => (tb (ρ := ρ) f).impl_parts_s5 s (i : Int) T P N (fun a b c => κ (a, b, c))) fun r => r = grpO (items s n i) T P N
  | n, i, T, P, N, hn, hi, hT, hP, hN => by
    refine st_impl_parts_s5 ?_
    unfold B_impl_parts_s5
    refine Tot.bif (fun h => ?_) (fun h => ?_)
    · have h := of_decide_eq_true h
      have hlt : i < s.size := by omega
      have i0 : (0 : Int) ≤ (i : Int) := by omega
      have ew : w ((i : Int) + 1) = ((i + 1 : Nat) : Int) := by rw [w_in (by omega)]; omega
      cases n with
      | zero => omega
      | succ n =>
        rw [ew]
        unfold items
        rw [if_pos hlt]
        refine Tot.iteT i0 (Tot.iteT h (Tot.bif (fun h1 => ?_) (fun h1 => ?_)))
        · have h1 := bne_iff_ne.mp h1
          rw [if_neg h1]
          refine Tot.iteT i0 (Tot.iteT h (Tot.iteT (by omega) ?_))
          refine (parts_tot hs n (i + 1) T P (N ++ [bt s (i : Int)]) (by omega) (by omega) (by omega) (by omega) (by simp; omega)).imp fun r hr => ?_
          rw [hr]
          cases items s n (i + 1) <;> rfl
        · have h1 : bt s (i : Int) = 37 := by simpa using h1
          rw [if_pos h1]
          have tail : ∀ (k : Nat) (left : Bool), i < k → k ≤ s.size → plAt s i = plTail s k left → Tot (fun f κ => (tb (ρ := ρ) f).impl_parts_s16 s (k : Int) T P N 0 left 0 (fun a b c => κ (a, b, c))) fun r => r = grpO (match plAt s i with | some (x, j) => (items s n j).map (x :: ·) | none => none) T P N := fun k left hik hk he => by
            refine s16_tot hs hk (by omega) (by omega) ?_
            rw [he]
            cases hp : plTail s k left with
            | none => rfl
            | some xj =>
              obtain ⟨x, j⟩ := xj
              obtain ⟨g1, g2, a, v, rfl⟩ := plTail_spec hp
              dsimp only
              refine (parts_tot hs n j _ _ [] (by omega) g2 (by simp; omega) (by simp; omega) (by simp)).imp fun r hr => ?_
              rw [hr]
              cases items s n j <;> rfl
          have ew2 : w (((i + 1 : Nat) : Int) + 1) = ((i + 2 : Nat) : Int) := by rw [w_in (by omega)]; omega
          rw [ew2]
          refine Tot.bif (fun h2 => ?_) (fun h2 => ?_)
          · have h2 := of_decide_eq_true h2
            have hlt2 : i + 1 < s.size := by omega
            have j0 : (0 : Int) ≤ ((i + 1 : Nat) : Int) := by omega
            refine Tot.iteT j0 (Tot.iteT h2 (Tot.bif (fun h3 => ?_) (fun h3 => ?_)))
            · have h3 := beq_iff_eq.mp h3
              have ep : plAt s i = some (.ch 37, i + 2) := by unfold plAt; rw [if_pos ⟨hlt2, h3⟩]
              rw [ep]
              refine Tot.iteT (by omega) ((parts_tot hs n (i + 2) T P (N ++ [37]) (by omega) (by omega) (by omega) (by omega) (by simp; omega)).imp fun r hr => ?_)
              rw [hr]
              dsimp only
              cases items s n (i + 2) <;> rfl
            · have h3 := beq_eq_false_iff_ne.mp h3
              refine Tot.bif (fun _ => ?_) (fun h4 => absurd h2 (of_decide_eq_false h4))
              refine Tot.iteT j0 (Tot.iteT h2 (Tot.bif (fun h4 => ?_) (fun h4 => ?_)))
              · have h4 := beq_iff_eq.mp h4
                exact tail (i + 2) true (by omega) (by omega) (by unfold plAt; rw [if_neg (fun h5 => h3 h5.2), if_pos ⟨hlt2, h4⟩])
              · have h4 := beq_eq_false_iff_ne.mp h4
                exact tail (i + 1) false (by omega) (by omega) (by unfold plAt; rw [if_neg (fun h5 => h3 h5.2), if_neg (fun h5 => h4 h5.2)])
          · have h2' := of_decide_eq_false h2
            refine Tot.bif (fun h4 => absurd (of_decide_eq_true h4) h2') (fun _ => ?_)
            exact tail (i + 1) false (by omega) (by omega) (by unfold plAt; rw [if_neg (fun h5 => h2' (by omega)), if_neg (fun h5 => h2' (by omega))])
    · have h := of_decide_eq_false h
      have e : items s n i = some [] := by
        cases n with
        | zero => rfl
        | succ n => unfold items; rw [if_neg (by omega)]
      rw [e]
      exact Tot.iteT (by omega) (Tot.ret _ (fun _ _ => rfl) rfl)
end
end Go.Proofs.YtbakkcdanoopgaaGreatDoor.Ev.Pr
set_option linter.unusedVariables false
namespace Go.Proofs.YtbakkcdanoopgaaGreatDoor.Ev.Pr
open Go Go.RowKit Go.Proofs.YtbakkcdanoopgaaGreatDoorW.PrintWords Go.Proofs.YtbakkcdanoopgaaGreatDoorW.PrintMore Kd Go.Proofs.YtbakkcdanoopgaaGreatDoor.Ev Go.Proofs.YtbakkcdanoopgaaGreatDoor.Pure Go.Proofs.YtbakkcdanoopgaaGreatDoor.Q
theorem runN_add (p : Int → Bool) (s : ByteArray) : ∀ (n k : Nat), n ≤ Q.runN p s k → Q.runN p s k = n + Q.runN p s (k + n)
  | 0, k, _ => by simp
  | n + 1, k, h => by
    by_cases h1 : k < s.size
    · by_cases h2 : p (bt s (k : Int)) = true
      · rw [runN_hit h1 h2] at h ⊢
        have := runN_add p s n (k + 1) (by omega)
        rw [this, show k + 1 + n = k + (n + 1) by omega]
        omega
      · rw [runN_miss h1 (Bool.eq_false_iff.mpr h2)] at h
        omega
    · rw [runN_end h1] at h
      omega
def outP (x : Option (It × Nat)) (r : Int × Int × Bool × Int) : Prop := match x with
  | some (.pl a f v, j) => r = (a, v, f, (j : Int))
  | some (.ch b, j) => r = (b, 0, false, (j : Int))
  | none => r.1 = 0
end Go.Proofs.YtbakkcdanoopgaaGreatDoor.Ev.Pr
set_option linter.unusedVariables false
namespace Go.Proofs.YtbakkcdanoopgaaGreatDoor.Ev.Pr
open Go Go.RowKit Go.Proofs.YtbakkcdanoopgaaGreatDoorW.PrintWords Go.Proofs.YtbakkcdanoopgaaGreatDoorW.PrintMore Kd Go.Proofs.YtbakkcdanoopgaaGreatDoor.Ev Go.Proofs.YtbakkcdanoopgaaGreatDoor.Pure Go.Proofs.YtbakkcdanoopgaaGreatDoor.Q
section
variable {ρ : Type} {s : ByteArray}
def aftP (t : Tb ρ) (x12 : ByteArray) (x13 x20 : Int) (x21 : Bool) (κ : Int → Int → Bool → Int → Option ρ) : Option ρ := bif decide (x13 < (x12.size : Int)) then (if (0 : Int) ≤ x13 then if x13 < (x12.size : Int) then bif (bt x12 x13) == 100 then (t.spec_l9place_s14 x12 x13 0 0 false 0 0 x20 x21 0 κ) else (if (0 : Int) ≤ x13 then if x13 < (x12.size : Int) then bif (bt x12 x13) == 115 then (t.spec_l9place_s14 x12 x13 0 0 false 0 0 x20 x21 0 κ) else (t.spec_l9place_s16 0 0 false 0 0 x20 x21 0 κ) else none else none) else none else none) else (t.spec_l9place_s16 0 0 false 0 0 x20 x21 0 κ)
theorem p16_tot (a b : Int) (f : Bool) (d : Int) : Tot (fun k κ => (tb (ρ := ρ) k).spec_l9place_s16 0 0 false 0 a b f d (fun a b c d => κ (a, b, c, d))) fun r => r = (a, b, f, d) := by
  refine st_spec_l9place_s16 ?_
  unfold B_spec_l9place_s16
  exact Tot.ret _ (fun _ _ => rfl) rfl
theorem aftP_tot (hs : s.size ≤ 500) {k : Nat} (hk : k ≤ s.size) {left : Bool} : Tot (fun f κ => aftP (tb (ρ := ρ) f) s ((k + digN s k : Nat) : Int) (valFrom 0 (seg s k (digN s k))) left (fun a b c d => κ (a, b, c, d))) (outP (plTail s k left)) := by
  unfold aftP plTail
  have take : ∀ h : k + digN s k < s.size, Tot (fun f κ => (tb (ρ := ρ) f).spec_l9place_s14 s ((k + digN s k : Nat) : Int) 0 0 false 0 0 (valFrom 0 (seg s k (digN s k))) left 0 (fun a b c d => κ (a, b, c, d))) fun r => r = (bt s ((k + digN s k : Nat) : Int), valFrom 0 (seg s k (digN s k)), left, ((k + digN s k + 1 : Nat) : Int)) := fun h => by
    refine st_spec_l9place_s14 ?_
    unfold B_spec_l9place_s14
    rw [show w (((k + digN s k : Nat) : Int) + 1) = ((k + digN s k + 1 : Nat) : Int) by rw [w_in (by omega)]; omega]
    exact Tot.iteT (by omega) (Tot.iteT (by omega) (p16_tot _ _ _ _))
  refine Tot.bif (fun h => ?_) (fun h => ?_)
  · have h := of_decide_eq_true h
    have hlt : k + digN s k < s.size := by omega
    have i0 : (0 : Int) ≤ ((k + digN s k : Nat) : Int) := by omega
    refine Tot.iteT i0 (Tot.iteT h (Tot.bif (fun h1 => ?_) (fun h1 => ?_)))
    · rw [if_pos ⟨hlt, .inl (beq_iff_eq.mp h1)⟩]
      exact take hlt
    · refine Tot.iteT i0 (Tot.iteT h (Tot.bif (fun h2 => ?_) (fun h2 => ?_)))
      · rw [if_pos ⟨hlt, .inr (beq_iff_eq.mp h2)⟩]
        exact take hlt
      · rw [if_neg (fun h3 => h3.2.elim (beq_eq_false_iff_ne.mp h1) (beq_eq_false_iff_ne.mp h2))]
        exact (p16_tot _ _ _ _).imp fun r hr => by rw [hr]; rfl
  · have h := of_decide_eq_false h
    rw [if_neg (fun h3 => h (by omega))]
    exact (p16_tot _ _ _ _).imp fun r hr => by rw [hr]; rfl
theorem p9_tot (hs : s.size ≤ 500) {k : Nat} (hk : k ≤ s.size) {left : Bool} : ∀ (d n : Nat), n + d = 2 → n ≤ digN s k →
    Tot (fun f κ => (tb (ρ := ρ) f).spec_l9place_s9 s ((k + n : Nat) : Int) (n : Int) 0 0 false 0 0 (valFrom 0 (seg s k n)) left 0 (fun a b c d => κ (a, b, c, d))) (outP (plTail s k left))
  | d, n, hd, hn => by
    refine st_spec_l9place_s9 ?_
    unfold B_spec_l9place_s9
    have hdg := digN_le s k
    have hr := runN_le isDg s k hk
    have hadd := runN_add isDg s n k (by omega)
    have stop : digN s k = n → Tot (fun f κ => aftP (tb (ρ := ρ) f) s ((k + n : Nat) : Int) (valFrom 0 (seg s k n)) left (fun a b c d => κ (a, b, c, d))) (outP (plTail s k left)) := fun e => by
      have := aftP_tot (ρ := ρ) hs hk (left := left)
      rw [e] at this
      exact this
    refine Tot.bif (fun h => ?_) (fun h => ?_)
    · have h := of_decide_eq_true h
      refine Tot.bif (fun h1 => ?_) (fun h1 => ?_)
      · have h1 := of_decide_eq_true h1
        have hlt : k + n < s.size := by omega
        refine Tot.iteT (by omega) (Tot.iteT h1 (Tot.bind1 (l1digit_tot _) fun b hb => ?_))
        have hb : b = _ := hb
        refine Tot.bif (fun h2 => ?_) (fun h2 => ?_)
        · rw [hb] at h2
          have hB := digB _ h2
          rw [runN_hit hlt h2] at hadd
          have hn1 : n + 1 ≤ digN s k := by unfold digN; omega
          refine Tot.iteT (by omega) (Tot.iteT h1 ?_)
          cases d with
          | zero => omega
          | succ d =>
            have hv0 : 0 ≤ valFrom 0 (seg s k n) := valFrom_nonneg _ 0 (by omega)
            have hv1 : valFrom 0 (seg s k n) ≤ 99 := by
              have hd2 := seg_digits s n k (by omega)
              generalize hl : seg s k n = l at *
              have hlen : l.length ≤ 2 := by rw [← hl, seg_length]; omega
              match l, hlen, hd2 with
              | [], _, _ => decide
              | [x], _, hd2 =>
                have := hd2 x (by simp)
                simp only [valFrom, List.foldl_cons, List.foldl_nil]
                omega
              | [x, y], _, hd2 =>
                have h1 := hd2 x (by simp)
                have h2 := hd2 y (by simp)
                simp only [valFrom, List.foldl_cons, List.foldl_nil]
                omega
            have go := p9_tot hs hk (left := left) d (n + 1) (by omega) hn1
            have e1 : valFrom 0 (seg s k (n + 1)) = valFrom 0 (seg s k n) * 10 + (bt s ((k + n : Nat) : Int) - 48) % 256 := by
              rw [seg_snoc, valFrom_append]; rfl
            rw [e1] at go
            rw [u8w, w_in (n := 10 * valFrom 0 (seg s k n)) (by omega), w_in (n := (bt s ((k + n : Nat) : Int) - 48) % 256) (by omega), w_in (n := 10 * valFrom 0 (seg s k n) + (bt s ((k + n : Nat) : Int) - 48) % 256) (by omega), show w (((k + n : Nat) : Int) + 1) = ((k + (n + 1) : Nat) : Int) by rw [w_in (by omega)]; omega, show w ((n : Int) + 1) = ((n + 1 : Nat) : Int) by rw [w_in (by omega)]; omega, Int.mul_comm 10]
            exact go
        · rw [hb] at h2
          exact stop (by unfold digN; rw [runN_miss hlt h2] at hadd; omega)
      · have h1 := of_decide_eq_false h1
        exact stop (by have e0 : Q.runN isDg s (k + n) = 0 := runN_end (by omega); unfold digN; omega)
    · have h := of_decide_eq_false h
      exact stop (by omega)
theorem place_tot (hs : s.size ≤ 500) {i : Nat} (hi : i < s.size) : Tot (fun f κ => (tb (ρ := ρ) f).spec_l9place s (i : Int) (fun a b c d => κ (a, b, c, d))) (outP (plAt s i)) := by
  refine st_spec_l9place ?_
  unfold B_spec_l9place
  have ew : w ((i : Int) + 1) = ((i + 1 : Nat) : Int) := by rw [w_in (by omega)]; omega
  have ew2 : w (((i + 1 : Nat) : Int) + 1) = ((i + 2 : Nat) : Int) := by rw [w_in (by omega)]; omega
  rw [ew, ew2]
  have go : ∀ (k : Nat) (left : Bool), k ≤ s.size → plAt s i = plTail s k left → Tot (fun f κ => (tb (ρ := ρ) f).spec_l9place_s8 s (k : Int) 0 0 false 0 0 0 left 0 (fun a b c d => κ (a, b, c, d))) (outP (plAt s i)) := fun k left hk he => by
    refine st_spec_l9place_s8 ?_
    unfold B_spec_l9place_s8
    rw [he]
    exact p9_tot hs hk 2 0 rfl (Nat.zero_le _)
  refine Tot.bif (fun h => ?_) (fun h => ?_)
  · have h := of_decide_eq_true h
    have hlt : i + 1 < s.size := by omega
    have j0 : (0 : Int) ≤ ((i + 1 : Nat) : Int) := by omega
    refine Tot.iteT j0 (Tot.iteT h (Tot.bif (fun h3 => ?_) (fun h3 => ?_)))
    · have h3 := beq_iff_eq.mp h3
      have ep : plAt s i = some (.ch 37, i + 2) := by unfold plAt; rw [if_pos ⟨hlt, h3⟩]
      rw [ep]
      exact Tot.ret _ (fun _ _ => rfl) rfl
    · have h3 := beq_eq_false_iff_ne.mp h3
      refine Tot.bif (fun _ => ?_) (fun h4 => absurd h (of_decide_eq_false h4))
      refine Tot.iteT j0 (Tot.iteT h (Tot.bif (fun h4 => ?_) (fun h4 => ?_)))
      · have h4 := beq_iff_eq.mp h4
        exact go (i + 2) true (by omega) (by unfold plAt; rw [if_neg (fun h5 => h3 h5.2), if_pos ⟨hlt, h4⟩])
      · have h4 := beq_eq_false_iff_ne.mp h4
        exact go (i + 1) false (by omega) (by unfold plAt; rw [if_neg (fun h5 => h3 h5.2), if_neg (fun h5 => h4 h5.2)])
  · have h' := of_decide_eq_false h
    refine Tot.bif (fun h4 => absurd (of_decide_eq_true h4) h') (fun _ => ?_)
    exact go (i + 1) false (by omega) (by unfold plAt; rw [if_neg (fun h5 => h' (by omega)), if_neg (fun h5 => h' (by omega))])
end
end Go.Proofs.YtbakkcdanoopgaaGreatDoor.Ev.Pr
set_option linter.unusedVariables false
namespace Go.Proofs.YtbakkcdanoopgaaGreatDoor.Ev.Pr
open Go Go.RowKit Go.Proofs.YtbakkcdanoopgaaGreatDoorW.PrintWords Go.Proofs.YtbakkcdanoopgaaGreatDoorW.PrintMore Kd Go.Proofs.YtbakkcdanoopgaaGreatDoor.Ev Go.Proofs.YtbakkcdanoopgaaGreatDoor.Pure Go.Proofs.YtbakkcdanoopgaaGreatDoor.Q
def sp (n : Nat) : ByteArray := bmk (List.replicate n 32)
def padV (left : Bool) (wide : Int) (b : ByteArray) : ByteArray := if left = true then b ++ sp (wide - b.size).toNat else sp (wide - b.size).toNat ++ b
theorem bmk_self (b : ByteArray) : b = bmk b.data.toList := rfl
theorem sp_size (n : Nat) : (sp n).size = n := by unfold sp; rw [bmk_size, List.length_replicate]
theorem pad_size (left : Bool) (wide : Int) (b : ByteArray) : (padV left wide b).size = b.size + (wide - b.size).toNat := by
  unfold padV
  split
  · rw [ByteArray.size_append, sp_size]
  · rw [ByteArray.size_append, sp_size]; omega
theorem rep_sp (n : Nat) : (⟨(Lib.repeatL [32] n).toArray⟩ : ByteArray) = sp n := by
  have h : ∀ n, Lib.repeatL [32] n = List.replicate n 32 := fun n => by
    induction n with
    | zero => rfl
    | succ n ih => show [32] ++ Lib.repeatL [32] n = _; rw [ih]; rfl
  rw [h]
  rfl
def nPl : List It → Nat
  | [] => 0
  | .ch _ :: l => nPl l
  | .pl _ _ _ :: l => nPl l + 1
end Go.Proofs.YtbakkcdanoopgaaGreatDoor.Ev.Pr
set_option linter.unusedVariables false
namespace Go.Proofs.YtbakkcdanoopgaaGreatDoor.Ev.Pr
open Go Go.RowKit Go.Proofs.YtbakkcdanoopgaaGreatDoorW.PrintWords Go.Proofs.YtbakkcdanoopgaaGreatDoorW.PrintMore Kd Go.Proofs.YtbakkcdanoopgaaGreatDoor.Ev Go.Proofs.YtbakkcdanoopgaaGreatDoor.Pure Go.Proofs.YtbakkcdanoopgaaGreatDoor.Q
section
variable {ρ : Type} {s : ByteArray}
theorem repeat_tot {n : Nat} (h : n ≤ 1000) : Tot (fun k κ => (tb (ρ := ρ) k).strings_Repeat (bs [32]) (n : Int) (fun a => κ a)) fun r => r = sp n :=
  Tot.ret _ (fun k κ => by
    rw [tb_repeat]
    unfold X_strings_Repeat
    have e : (bs [32]).size = 1 := rfl
    have e2 : (bs [32]).data.toList = [32] := rfl
    rw [e, e2, Int.toNat_natCast, if_pos ⟨by omega, by omega, by omega⟩, rep_sp]) rfl
theorem l9pad_tot {kind wide e : Int} {left : Bool} (hw : wide ≤ 1000) : ∀ (n : Nat) (b : ByteArray), b.size ≤ 100000 → (wide - b.size).toNat ≤ n → Tot (fun k κ => (tb (ρ := ρ) k).spec_l9pad_s1 b kind wide left e (fun a => κ a)) fun r => r = padV left wide b
  | n, b, hb, hn => by
    refine st_spec_l9pad_s1 ?_
    unfold B_spec_l9pad_s1
    have e1 : (bs [32]).size = 1 := rfl
    refine Tot.bif (fun h => ?_) (fun h => ?_)
    · have h := of_decide_eq_true h
      cases n with
      | zero => omega
      | succ n =>
        have hm : (wide - b.size).toNat = (wide - (b.size + 1 : Nat)).toNat + 1 := by omega
        refine Tot.bif (fun h1 => ?_) (fun h1 => ?_)
        · refine Tot.iteT (by omega) ((l9pad_tot hw n (b ++ bs [32]) (by rw [ByteArray.size_append, e1]; omega) (by rw [ByteArray.size_append, e1]; omega)).imp fun r hr => ?_)
          rw [hr]
          unfold padV
          rw [if_pos h1, if_pos h1, ByteArray.size_append, e1, hm]
          show b ++ bs [32] ++ sp _ = b ++ sp _
          rw [show bs [32] = bmk [32] from rfl]
          unfold sp
          rw [bmk_self b, bmk_append, bmk_append, bmk_append, List.append_assoc]
          rfl
        · refine Tot.iteT (by omega) ((l9pad_tot hw n (bs [32] ++ b) (by rw [ByteArray.size_append, e1]; omega) (by rw [ByteArray.size_append, e1]; omega)).imp fun r hr => ?_)
          rw [hr]
          unfold padV
          rw [if_neg (by rw [h1]; simp), if_neg (by rw [h1]; simp), ByteArray.size_append, e1, Nat.add_comm 1, hm]
          rw [show bs [32] = bmk [32] from rfl]
          unfold sp
          rw [bmk_self b, bmk_append, bmk_append, bmk_append, ← List.append_assoc]
          congr 2
          rw [List.replicate_succ']
    · have h := of_decide_eq_false h
      refine Tot.ret _ (fun _ _ => rfl) ?_
      unfold padV
      have e0 : (wide - b.size).toNat = 0 := by omega
      rw [e0]
      unfold sp
      rw [bmk_self b]
      split
      · rw [bmk_append]; simp
      · rw [bmk_append]; simp
theorem plTail_kind {k : Nat} {left : Bool} {a : Int} {f : Bool} {v : Int} {j : Nat} (h : plTail s k left = some (.pl a f v, j)) : (a = 100 ∨ a = 115) ∧ 0 ≤ v ∧ v ≤ 99 := by
  unfold plTail at h
  split at h
  · rename_i hh
    simp only [Option.some.injEq, Prod.mk.injEq, It.pl.injEq] at h
    obtain ⟨⟨rfl, rfl, rfl⟩, rfl⟩ := h
    exact ⟨hh.2, wid_range s k⟩
  · cases h
theorem plAt_kind {i : Nat} {a : Int} {f : Bool} {v : Int} {j : Nat} (h : plAt s i = some (.pl a f v, j)) : (a = 100 ∨ a = 115) ∧ 0 ≤ v ∧ v ≤ 99 := by
  unfold plAt at h
  split at h
  · simp at h
  · split at h
    · exact plTail_kind h
    · exact plTail_kind h
theorem plAt_ch {i : Nat} {b : Int} {j : Nat} (h : plAt s i = some (.ch b, j)) : b = 37 := by
  unfold plAt at h
  split at h
  · simp at h
    exact h.1.symm
  · split at h
    · obtain ⟨-, -, a, v, h1⟩ := plTail_spec h
      cases h1
    · obtain ⟨-, -, a, v, h1⟩ := plTail_spec h
      cases h1
theorem places_tot (hs : s.size ≤ 500) : ∀ (n i c : Nat), s.size ≤ n + i → i ≤ s.size → c ≤ i → Tot (fun f κ => (tb (ρ := ρ) f).spec_Places_s5 s (c : Int) (i : Int) (fun a b => κ (a, b))) fun r => r = (match items s n i with | some l => (((c + nPl l : Nat) : Int), true) | none => (0, false))
  | n, i, c, hn, hi, hc => by
    refine st_spec_Places_s5 ?_
    unfold B_spec_Places_s5
    refine Tot.bif (fun h => ?_) (fun h => ?_)
    · have h := of_decide_eq_true h
      have hlt : i < s.size := by omega
      cases n with
      | zero => omega
      | succ n =>
        unfold items
        rw [if_pos hlt]
        refine Tot.iteT (by omega) (Tot.iteT h (Tot.bif (fun h1 => ?_) (fun h1 => ?_)))
        · rw [if_neg (bne_iff_ne.mp h1), show w ((i : Int) + 1) = ((i + 1 : Nat) : Int) by rw [w_in (by omega)]; omega]
          refine (places_tot hs n (i + 1) c (by omega) (by omega) (by omega)).imp fun r hr => ?_
          rw [hr]
          cases items s n (i + 1) <;> rfl
        · have h1 : bt s (i : Int) = 37 := by simpa using h1
          rw [if_pos h1]
          refine Tot.bind4 (place_tot hs hlt) fun a wd f e hp => ?_
          cases hpl : plAt s i with
          | none =>
            rw [hpl] at hp
            have hp : a = 0 := hp
            subst hp
            exact Tot.bif (fun _ => Tot.ret _ (fun _ _ => rfl) rfl) (fun h => absurd h (by decide))
          | some xj =>
            obtain ⟨x, j⟩ := xj
            rw [hpl] at hp
            have hj := plAt_spec hpl
            have ew : w (w ((j : Int) - 1) + 1) = (j : Int) := by rw [w_in (n := (j : Int) - 1) (by omega), w_in (by omega)]; omega
            cases x with
            | ch b =>
              have hp : (a, wd, f, e) = (b, 0, false, (j : Int)) := hp
              simp only [Prod.mk.injEq] at hp
              obtain ⟨rfl, rfl, rfl, rfl⟩ := hp
              obtain rfl := plAt_ch hpl
              refine Tot.bif (fun h => absurd h (by decide)) (fun _ => Tot.bif (fun h => absurd h (by decide)) (fun _ => ?_))
              rw [ew]
              refine (places_tot hs n j c (by omega) hj.2 (by omega)).imp fun r hr => ?_
              rw [hr]
              dsimp only
              cases items s n j <;> rfl
            | pl a' f' v' =>
              have hp : (a, wd, f, e) = (a', v', f', (j : Int)) := hp
              simp only [Prod.mk.injEq] at hp
              obtain ⟨rfl, rfl, rfl, rfl⟩ := hp
              have hk := (plAt_kind hpl).1
              refine Tot.bif (fun h => absurd (beq_iff_eq.mp h) (by omega)) (fun _ => Tot.bif (fun _ => ?_) (fun h => absurd h (by simp; omega)))
              rw [ew, show w ((c : Int) + 1) = ((c + 1 : Nat) : Int) by rw [w_in (by omega)]; omega]
              refine (places_tot hs n j (c + 1) (by omega) hj.2 (by omega)).imp fun r hr => ?_
              rw [hr]
              dsimp only
              cases items s n j with
              | none => rfl
              | some l =>
                show (((c + 1 + nPl l : Nat) : Int), true) = (((c + (nPl l + 1) : Nat) : Int), true)
                rw [show c + 1 + nPl l = c + (nPl l + 1) by omega]
    · have h := of_decide_eq_false h
      have e : items s n i = some [] := by
        cases n with
        | zero => rfl
        | succ n => unfold items; rw [if_neg (by omega)]
      rw [e]
      exact Tot.ret _ (fun _ _ => rfl) rfl
end
end Go.Proofs.YtbakkcdanoopgaaGreatDoor.Ev.Pr
set_option linter.unusedVariables false
namespace Go.Proofs.YtbakkcdanoopgaaGreatDoor.Ev.Pr
open Go Go.RowKit Go.Proofs.YtbakkcdanoopgaaGreatDoorW.PrintWords Go.Proofs.YtbakkcdanoopgaaGreatDoorW.PrintMore Kd Go.Proofs.YtbakkcdanoopgaaGreatDoor.Ev Go.Proofs.YtbakkcdanoopgaaGreatDoor.Pure Go.Proofs.YtbakkcdanoopgaaGreatDoor.Q
def baseV (k : Int) (c : Tt38) : ByteArray := if k = 100 then bmk (decT (intV (numC c.1 c.2.1 c.2.2))) else strC c.1 c.2.1 c.2.2
def txtV (k : Int) (f : Bool) (v : Int) (c : Tt38) : ByteArray := padV f v (baseV k c)
def outL : List It → List Tt38 → ByteArray → ByteArray
  | [], _, acc => acc
  | .ch b :: l, cs, acc => outL l cs (acc ++ strOfNums [b])
  | .pl k f v :: l, c :: cs, acc => outL l cs (acc ++ txtV k f v c)
  | .pl _ _ _ :: _, [], acc => acc
def finV (x : ByteArray) : ByteArray × Int := if 500 < x.size then (bs [], 3) else (x, 0)
theorem outL_mono : ∀ (l : List It) (cs : List Tt38) (acc : ByteArray), acc.size ≤ (outL l cs acc).size
  | [], _, acc => Nat.le_refl _
  | .ch b :: l, cs, acc => Nat.le_trans (by rw [ByteArray.size_append]; omega) (outL_mono l cs (acc ++ strOfNums [b]))
  | .pl k f v :: l, c :: cs, acc => Nat.le_trans (by rw [ByteArray.size_append]; omega) (outL_mono l cs (acc ++ txtV k f v c))
  | .pl _ _ _ :: _, [], acc => Nat.le_refl _
def OkC (c : Tt38) : Prop := okC c.1 c.2.1 c.2.2 = true
theorem OkC.size {c : Tt38} (h : OkC c) : c.2.2.size ≤ 500 := by
  unfold OkC okC at h
  split at h
  · cases h
  · omega
theorem decT_len (n : Int) : (decT n).length ≤ 40 := by
  unfold decT
  split
  · rename_i hn
    unfold isDec at hn
    have h1 := digits_le (n.natAbs / 1000000) (by omega)
    have h2 : (fracL (n.natAbs % 1000000)).length ≤ 7 := by
      unfold fracL
      split
      · simp
      · have := trimR_length (dl 6 (n.natAbs % 1000000))
        rw [dl_length] at this
        simp; omega
    have h3 : (absL n.natAbs).length ≤ 30 := by unfold absL; rw [List.length_append]; omega
    split
    · simp; omega
    · omega
  · simp
theorem base_size {k : Int} {c : Tt38} (h : OkC c) : (baseV k c).size ≤ 500 := by
  unfold baseV strC
  have hs := h.size
  split
  · rw [bmk_size]; exact Nat.le_trans (decT_len _) (by decide)
  · split
    · rw [bmk_size]; exact Nat.le_trans (decT_len _) (by decide)
    · exact hs
theorem txt_size {k : Int} {f : Bool} {v : Int} {c : Tt38} (h : OkC c) (hv : v ≤ 99) : (txtV k f v c).size ≤ 600 := by
  unfold txtV
  rw [pad_size]
  have := base_size (k := k) h
  omega
theorem one_byte {s : ByteArray} {i : Nat} (h : i < s.size) : s.extract i (i + 1) = strOfNums [bt s (i : Int)] := by
  have h1 := bytes_extract s i 1 (by omega)
  have h2 : (s.extract i (i + 1)).data.toList = [s[i]] := by
    have hl : (s.extract i (i + 1)).data.toList.length = 1 := by
      rw [Array.length_toList]
      show (s.extract i (i + 1)).size = 1
      rw [ByteArray.size_extract]; omega
    obtain ⟨b, hb⟩ := List.length_eq_one_iff.mp hl
    rw [hb] at h1 ⊢
    simp only [seg, List.map_cons, List.map_nil] at h1
    rw [bt_nat h] at h1
    have h3 : (b.toNat : Int) = (s[i].toNat : Int) := by simpa using h1
    have h4 : b.toNat = s[i].toNat := by omega
    rw [UInt8.toNat_inj.mp h4]
  rw [bmk_self (s.extract i (i + 1)), h2, bt_nat h]
  unfold strOfNums bmk
  simp
end Go.Proofs.YtbakkcdanoopgaaGreatDoor.Ev.Pr
set_option linter.unusedVariables false
namespace Go.Proofs.YtbakkcdanoopgaaGreatDoor.Ev.Pr
open Go Go.RowKit Go.Proofs.YtbakkcdanoopgaaGreatDoorW.PrintWords Go.Proofs.YtbakkcdanoopgaaGreatDoorW.PrintMore Kd Go.Proofs.YtbakkcdanoopgaaGreatDoor.Ev Go.Proofs.YtbakkcdanoopgaaGreatDoor.Pure Go.Proofs.YtbakkcdanoopgaaGreatDoor.Q
section
variable {ρ : Type} {s : ByteArray} {cells : List Tt38}
theorem elt38_at {l : List Tt38} {i : Nat} (h : i < l.length) : elt38 l (i : Int) = l[i] := by
  show l.getD (i : Int).toNat _ = _
  rw [Int.toNat_natCast, List.getD_eq_getElem?_getD, List.getElem?_eq_getElem h]; rfl
theorem format_tot (hs : s.size ≤ 500) (hc : ∀ c, c ∈ cells → OkC c) (hcl : cells.length ≤ 9223372036854775806) : ∀ (n i k : Nat) (acc : ByteArray) (l : List It), s.size ≤ n + i → i ≤ s.size → acc.size ≤ 1000 + i → items s n i = some l → k + nPl l ≤ cells.length →
    Tot (fun f κ => (tb (ρ := ρ) f).spec_Format_s14 s cells acc (k : Int) (i : Int) (fun a b => κ (a, b))) fun r => r = finV (outL l (cells.drop k) acc)
  | n, i, k, acc, l, hn, hi, ha, hl, hk => by
    refine st_spec_Format_s14 ?_
    unfold B_spec_Format_s14
    have s15 : ∀ (acc : ByteArray) (k i : Nat), i < 1000 → Tot (fun f κ => (tb (ρ := ρ) f).spec_Format_s14 s cells acc (k : Int) ((i + 1 : Nat) : Int) (fun a b => κ (a, b))) (fun r => r = finV (outL l (cells.drop k) acc)) → True := fun _ _ _ _ _ => trivial
    have step : ∀ (acc : ByteArray) (k : Nat) (j : Nat) (Q : ByteArray × Int → Prop), 1 ≤ j → j ≤ 1000 → Tot (fun f κ => (tb (ρ := ρ) f).spec_Format_s14 s cells acc (k : Int) (j : Int) (fun a b => κ (a, b))) Q → Tot (fun f κ => (tb (ρ := ρ) f).spec_Format_s15 s cells acc (k : Int) ((j : Int) - 1) (fun a b => κ (a, b))) Q := fun acc k j Q h1 h2 h => by
      refine st_spec_Format_s15 ?_
      unfold B_spec_Format_s15
      rw [show w ((j : Int) - 1 + 1) = (j : Int) by rw [w_in (by omega)]; omega]
      exact h
    refine Tot.bif (fun h => ?_) (fun h => ?_)
    · have h := of_decide_eq_true h
      have hlt : i < s.size := by omega
      have i0 : (0 : Int) ≤ (i : Int) := by omega
      cases n with
      | zero => omega
      | succ n =>
        unfold items at hl
        rw [if_pos hlt] at hl
        refine Tot.iteT i0 (Tot.iteT h (Tot.bif (fun h1 => ?_) (fun h1 => ?_)))
        · rw [if_neg (bne_iff_ne.mp h1)] at hl
          obtain ⟨l', hl', rfl⟩ := Option.map_eq_some_iff.mp hl
          have ew : w ((i : Int) + 1) = ((i + 1 : Nat) : Int) := by rw [w_in (by omega)]; omega
          rw [ew]
          refine Tot.iteT i0 (Tot.iteT (by omega) (Tot.iteT (by omega) ?_))
          rw [Int.toNat_natCast, Int.toNat_natCast, one_byte hlt]
          have e1 : (strOfNums [bt s (i : Int)]).size = 1 := rfl
          refine Tot.iteT (by rw [e1]; omega) ?_
          have go := step (acc ++ strOfNums [bt s (i : Int)]) k (i + 1) _ (by omega) (by omega) (format_tot hs hc hcl n (i + 1) k (acc ++ strOfNums [bt s (i : Int)]) l' (by omega) (by omega) (by rw [ByteArray.size_append, e1]; omega) hl' hk)
          rw [show (((i + 1 : Nat) : Int) - 1) = (i : Int) by omega] at go
          exact go
        · have h1 : bt s (i : Int) = 37 := by simpa using h1
          rw [if_pos h1] at hl
          refine Tot.bind4 (place_tot hs hlt) fun a wd f e hp => ?_
          cases hpl : plAt s i with
          | none => rw [hpl] at hl; cases hl
          | some xj =>
            obtain ⟨x, j⟩ := xj
            rw [hpl] at hp hl
            obtain ⟨l', hl', rfl⟩ := Option.map_eq_some_iff.mp hl
            have hj := plAt_spec hpl
            have ewj : w ((j : Int) - 1) = (j : Int) - 1 := w_in (by omega)
            cases x with
            | ch b =>
              have hp : (a, wd, f, e) = (b, 0, false, (j : Int)) := hp
              simp only [Prod.mk.injEq] at hp
              obtain ⟨rfl, rfl, rfl, rfl⟩ := hp
              obtain rfl := plAt_ch hpl
              refine Tot.bif (fun h => absurd h (by decide)) (fun _ => Tot.bif (fun h => absurd h (by decide)) (fun _ => ?_))
              have e37 : bs [37] = strOfNums [37] := rfl
              have e1 : (strOfNums [37]).size = 1 := rfl
              rw [ewj, e37]
              refine Tot.iteT (by omega) (Tot.bif (fun hbig => ?_) (fun hbig => ?_))
              · have hbig := of_decide_eq_true hbig
                have hm := outL_mono l' (cells.drop k) (acc ++ strOfNums [37])
                refine Tot.ret _ (fun _ _ => rfl) ?_
                unfold finV
                rw [if_pos (show 500 < (outL (.ch 37 :: l') (cells.drop k) acc).size from by
                  show 500 < (outL l' (cells.drop k) (acc ++ strOfNums [37])).size
                  omega)]
              · have hbig := of_decide_eq_false hbig
                exact step _ k j _ (by omega) (by omega) (format_tot hs hc hcl n j k _ l' (by omega) hj.2 (by omega) hl' hk)
            | pl a' f' v' =>
              have hp : (a, wd, f, e) = (a', v', f', (j : Int)) := hp
              simp only [Prod.mk.injEq] at hp
              obtain ⟨rfl, rfl, rfl, rfl⟩ := hp
              obtain ⟨hkind, hv0, hv1⟩ := plAt_kind hpl
              have hk' : k + 1 + nPl l' ≤ cells.length := by
                have : nPl (.pl a f wd :: l') = nPl l' + 1 := rfl
                omega
              have hkl : k < cells.length := by omega
              have hdrop : cells.drop k = cells[k] :: cells.drop (k + 1) := List.drop_eq_getElem_cons hkl
              have hok := hc _ (List.getElem_mem hkl)
              have hsz := hok.size
              have ekw : w ((k : Int) + 1) = ((k + 1 : Nat) : Int) := by rw [w_in (by omega)]; omega
              rw [elt38_at hkl, ekw, ewj, hdrop]
              have tail : ∀ x : ByteArray, x = txtV a f wd cells[k] → Tot (fun g κ => if acc.size + x.size ≤ 9223372036854775807 then bif decide (((acc ++ x).size : Int) > 500) then (κ (bs [], 3)) else ((tb (ρ := ρ) g).spec_Format_s15 s cells (acc ++ x) ((k + 1 : Nat) : Int) ((j : Int) - 1) (fun a b => κ (a, b))) else none) fun r => r = finV (outL (.pl a f wd :: l') (cells[k] :: cells.drop (k + 1)) acc) := fun x hx => by
                subst hx
                have ht := txt_size (k := a) (f := f) hok hv1
                refine Tot.iteT (by omega) (Tot.bif (fun hbig => ?_) (fun hbig => ?_))
                · have hbig := of_decide_eq_true hbig
                  have hm := outL_mono l' (cells.drop (k + 1)) (acc ++ txtV a f wd cells[k])
                  refine Tot.ret _ (fun _ _ => rfl) ?_
                  unfold finV
                  rw [if_pos (show 500 < (outL (.pl a f wd :: l') (cells[k] :: cells.drop (k + 1)) acc).size from by
                    show 500 < (outL l' (cells.drop (k + 1)) (acc ++ txtV a f wd cells[k])).size
                    omega)]
                · have hbig := of_decide_eq_false hbig
                  exact step _ (k + 1) j _ (by omega) (by omega) (format_tot hs hc hcl n j (k + 1) _ l' (by omega) hj.2 (by omega) hl' hk')
              have c0 : (0 : Int) ≤ (k : Int) := by omega
              have c1 : (k : Int) < (cells.length : Int) := by omega
              refine Tot.bif (fun h2 => ?_) (fun h2 => ?_)
              · have h2 := beq_iff_eq.mp h2
                refine Tot.iteT c0 (Tot.iteT c1 (Tot.bind1 (toStr_tot (by omega) hok) fun x hx => ?_))
                have hx : x = _ := hx
                have hb : x = baseV a cells[k] := by unfold baseV; rw [if_neg (by omega)]; exact hx
                have hxs := base_size (k := a) hok
                rw [← hb] at hxs
                refine Tot.bind1 (st_spec_l9pad (Q := fun y => y = padV f wd x) ?_) fun y hy => tail y ?_
                · unfold B_spec_l9pad
                  exact l9pad_tot (by omega) _ x (by omega) (Nat.le_refl _)
                · have hy : y = _ := hy
                  rw [hy, hb]; rfl
              · have h2 := beq_eq_false_iff_ne.mp h2
                have h100 : a = 100 := by omega
                refine Tot.bif (fun _ => ?_) (fun h3 => absurd h100 (beq_eq_false_iff_ne.mp h3))
                refine Tot.iteT c0 (Tot.iteT c1 (Tot.bind1 (toNum_tot (by omega) hok) fun x0 hx0 => Tot.bind1 (specDecInt_tot x0) fun x1 hx1 => Tot.bind1 (specDecText_tot x1) fun x hx => ?_))
                have hx0 : x0 = _ := hx0
                have hx1 : x1 = _ := hx1
                have hx : x = _ := hx
                have hb : x = baseV a cells[k] := by unfold baseV; rw [if_pos h100, hx, hx1, hx0]
                have hxs := base_size (k := a) hok
                rw [← hb] at hxs
                refine Tot.bind1 (st_spec_l9pad (Q := fun y => y = padV f wd x) ?_) fun y hy => tail y ?_
                · unfold B_spec_l9pad
                  exact l9pad_tot (by omega) _ x (by omega) (Nat.le_refl _)
                · have hy : y = _ := hy
                  rw [hy, hb]; rfl
    · have h := of_decide_eq_false h
      have e : items s n i = some [] := by
        cases n with
        | zero => rfl
        | succ n => unfold items; rw [if_neg (by omega)]
      rw [e] at hl
      obtain rfl := Option.some.inj hl
      refine Tot.bif (fun h2 => ?_) (fun h2 => ?_)
      · have h2 := of_decide_eq_true h2
        exact Tot.ret _ (fun _ _ => rfl) (by unfold finV outL; rw [if_pos (by omega)])
      · have h2 := of_decide_eq_false h2
        exact Tot.ret _ (fun _ _ => rfl) (by unfold finV outL; rw [if_neg (by omega)])
theorem placeText_tot {a : Int} {f : Bool} {v : Int} {c : Tt38} (hok : OkC c) (hv0 : 0 ≤ v) (hv1 : v ≤ 99) : Tot (fun k κ => (tb (ρ := ρ) k).impl_place_text a f v c.1 c.2.1 c.2.2 (fun a => κ a)) fun r => r = txtV a f v c := by
  refine st_impl_place_text ?_
  unfold B_impl_place_text
  have hsz := hok.size
  have pad : ∀ x : ByteArray, x = baseV a c → Tot (fun k κ => (tb (ρ := ρ) k).strings_Repeat (bs [32]) (mx 0 (w (v - (x.size : Int)))) (fun (y : ByteArray) => bif f then (if x.size + y.size ≤ 9223372036854775807 then κ (x ++ y) else none) else (if y.size + x.size ≤ 9223372036854775807 then κ (y ++ x) else none))) fun r => r = txtV a f v c := fun x hx => by
    have hxs := base_size (k := a) hok
    rw [← hx] at hxs
    have em : mx 0 (w (v - (x.size : Int))) = (((v - x.size).toNat : Nat) : Int) := by rw [w_in (by omega)]; unfold mx; omega
    rw [em]
    refine Tot.bind1 (repeat_tot (by omega)) fun y hy => ?_
    have hy : y = _ := hy
    subst hy
    unfold txtV padV
    rw [← hx, sp_size]
    refine Tot.bif (fun h => ?_) (fun h => ?_)
    · rw [if_pos h]
      exact Tot.iteT (by omega) (Tot.ret _ (fun _ _ => rfl) rfl)
    · rw [if_neg (by rw [h]; simp)]
      exact Tot.iteT (by omega) (Tot.ret _ (fun _ _ => rfl) rfl)
  refine Tot.bind1 (cellStr_tot _ _) fun x hx => ?_
  have hx : x = _ := hx
  refine Tot.bif (fun h => ?_) (fun h => ?_)
  · have h := beq_iff_eq.mp h
    refine Tot.bind1 (cellNum_tot _ _ (by omega)) fun x0 hx0 => Tot.bind1 (decInt_tot x0) fun x1 hx1 => Tot.bind1 (decText_tot x1) fun x2 hx2 => ?_
    have hx0 : x0 = _ := hx0
    have hx1 : x1 = _ := hx1
    have hx2 : x2 = _ := hx2
    exact pad x2 (by unfold baseV; rw [if_pos h, hx2, hx1, hx0])
  · have h := beq_eq_false_iff_ne.mp h
    exact pad x (by unfold baseV; rw [if_neg h]; exact hx)
end
end Go.Proofs.YtbakkcdanoopgaaGreatDoor.Ev.Pr
set_option linter.unusedVariables false
namespace Go.Proofs.YtbakkcdanoopgaaGreatDoor.Ev.Pr
open Go Go.RowKit Go.Proofs.YtbakkcdanoopgaaGreatDoorW.PrintWords Go.Proofs.YtbakkcdanoopgaaGreatDoorW.PrintMore Kd Go.Proofs.YtbakkcdanoopgaaGreatDoor.Ev Go.Proofs.YtbakkcdanoopgaaGreatDoor.Pure Go.Proofs.YtbakkcdanoopgaaGreatDoor.Q
def txs : List It → List Int → List ByteArray
  | [], N => [strOfNums N]
  | .ch b :: l, N => txs l (N ++ [b])
  | .pl _ _ _ :: l, N => strOfNums N :: txs l []
def pls : List It → List Tt87
  | [] => []
  | .ch _ :: l => pls l
  | .pl k f v :: l => (k, f, v) :: pls l
theorem grp_eq : ∀ (l : List It) (T : List ByteArray) (P : List Tt87) (N : List Int), grp l T P N = (T ++ txs l N, P ++ pls l, true)
  | [], T, P, N => by simp [grp, txs, pls]
  | .ch b :: l, T, P, N => by simp only [grp, txs, pls]; exact grp_eq l T P (N ++ [b])
  | .pl k f v :: l, T, P, N => by
    simp only [grp, txs, pls]
    rw [grp_eq l _ _ []]
    simp
theorem pls_len : ∀ l : List It, (pls l).length = nPl l
  | [] => rfl
  | .ch _ :: l => pls_len l
  | .pl _ _ _ :: l => by simp [pls, nPl, pls_len l]
theorem txs_len : ∀ (l : List It) (N : List Int), (txs l N).length = nPl l + 1
  | [], _ => rfl
  | .ch _ :: l, N => txs_len l _
  | .pl _ _ _ :: l, N => by simp [txs, nPl, txs_len l []]
def out2 : List ByteArray → List Tt87 → List Tt38 → ByteArray → ByteArray
  | t :: T, p :: P, c :: cs, acc => out2 T P cs (acc ++ t ++ txtV p.1 p.2.1 p.2.2 c)
  | t :: T, _, cs, acc => out2 T [] cs (acc ++ t)
  | [], _, _, acc => acc
theorem str_snoc (N : List Int) (b : Int) : strOfNums (N ++ [b]) = strOfNums N ++ strOfNums [b] := by
  rw [bmk_self (strOfNums N), bmk_self (strOfNums [b]), bmk_append, bmk_self (strOfNums (N ++ [b]))]
  congr 1
  simp [strOfNums_data]
theorem str_nil : strOfNums [] = bmk [] := rfl
theorem app_nil (x : ByteArray) : x ++ strOfNums [] = x := by
  rw [str_nil, bmk_self x, bmk_append]; simp
theorem app_assoc (x y z : ByteArray) : x ++ (y ++ z) = x ++ y ++ z := by
  rw [bmk_self x, bmk_self y, bmk_self z, bmk_append, bmk_append, bmk_append, bmk_append, List.append_assoc]
theorem out_eq : ∀ (l : List It) (N : List Int) (cs : List Tt38) (acc : ByteArray), nPl l ≤ cs.length → out2 (txs l N) (pls l) cs acc = outL l cs (acc ++ strOfNums N)
  | [], N, cs, acc, _ => by
    simp only [txs, pls, outL, out2]
  | .ch b :: l, N, cs, acc, h => by
    simp only [txs, pls, outL]
    rw [out_eq l (N ++ [b]) cs acc h, str_snoc, app_assoc]
  | .pl k f v :: l, N, [], acc, h => by simp [nPl] at h
  | .pl k f v :: l, N, c :: cs, acc, h => by
    simp only [txs, pls, outL, out2]
    rw [out_eq l [] cs _ (by simpa [nPl] using h), app_nil]
end Go.Proofs.YtbakkcdanoopgaaGreatDoor.Ev.Pr
set_option linter.unusedVariables false
namespace Go.Proofs.YtbakkcdanoopgaaGreatDoor.Ev.Pr
open Go Go.RowKit Go.Proofs.YtbakkcdanoopgaaGreatDoorW.PrintWords Go.Proofs.YtbakkcdanoopgaaGreatDoorW.PrintMore Kd Go.Proofs.YtbakkcdanoopgaaGreatDoor.Ev Go.Proofs.YtbakkcdanoopgaaGreatDoor.Pure Go.Proofs.YtbakkcdanoopgaaGreatDoor.Q
section
variable {ρ : Type} {cells : List Tt38} {T : List ByteArray} {P : List Tt87}
theorem elS_at {l : List ByteArray} {i : Nat} (h : i < l.length) : elS l (i : Int) = l[i] := by
  show l.getD (i : Int).toNat _ = _
  rw [Int.toNat_natCast, List.getD_eq_getElem?_getD, List.getElem?_eq_getElem h]; rfl
theorem elt87_at {l : List Tt87} {i : Nat} (h : i < l.length) : elt87 l (i : Int) = l[i] := by
  show l.getD (i : Int).toNat _ = _
  rw [Int.toNat_natCast, List.getD_eq_getElem?_getD, List.getElem?_eq_getElem h]; rfl
theorem implLoop_tot (hc : ∀ c, c ∈ cells → OkC c) (hP : ∀ p, p ∈ P → 0 ≤ p.2.2 ∧ p.2.2 ≤ 99) (hPc : P.length ≤ cells.length) (hT : ∀ t, t ∈ T → t.size ≤ 1000) (hTl : T.length ≤ 1000) : ∀ (n i : Nat) (acc : ByteArray), i + n = T.length → acc.size ≤ 2000 * i →
    Tot (fun f κ => (tb (ρ := ρ) f).impl_Format_s14 cells acc (T.length : Int) (i : Int) T P (fun a b => κ (a, b))) fun r => r = finV (out2 (T.drop i) (P.drop i) (cells.drop i) acc)
  | n, i, acc, hi, ha => by
    refine st_impl_Format_s14 ?_
    unfold B_impl_Format_s14
    refine Tot.bif (fun h => ?_) (fun h => ?_)
    · have h := of_decide_eq_true h
      have hlt : i < T.length := by omega
      have i0 : (0 : Int) ≤ (i : Int) := by omega
      have hts := hT _ (List.getElem_mem hlt)
      have eT : T.drop i = T[i] :: T.drop (i + 1) := List.drop_eq_getElem_cons hlt
      cases n with
      | zero => omega
      | succ n =>
        rw [elS_at hlt, show w ((i : Int) + 1) = ((i + 1 : Nat) : Int) by rw [w_in (by omega)]; omega, eT]
        refine Tot.iteT i0 (Tot.iteT h (Tot.iteT (by omega) (Tot.bif (fun h1 => ?_) (fun h1 => ?_))))
        · have h1 := of_decide_eq_true h1
          have hpl : i < P.length := by omega
          have hcl : i < cells.length := by omega
          have hok := hc _ (List.getElem_mem hcl)
          obtain ⟨hv0, hv1⟩ := hP _ (List.getElem_mem hpl)
          have eP : P.drop i = P[i] :: P.drop (i + 1) := List.drop_eq_getElem_cons hpl
          have eC : cells.drop i = cells[i] :: cells.drop (i + 1) := List.drop_eq_getElem_cons hcl
          rw [elt87_at hpl, elt38_at hcl, eP, eC]
          refine Tot.iteT i0 (Tot.iteT h1 (Tot.iteT i0 (Tot.iteT (by omega) (Tot.bind1 (placeText_tot hok hv0 hv1) fun x hx => ?_))))
          have hx : x = _ := hx
          have hxs := txt_size (k := P[i].1) (f := P[i].2.1) hok hv1
          rw [← hx] at hxs
          have hsz : (acc ++ T[i]).size = acc.size + T[i].size := ByteArray.size_append
          refine Tot.iteT (by omega) ((implLoop_tot hc hP hPc hT hTl n (i + 1) _ (by omega) (by rw [ByteArray.size_append]; omega)).imp fun r hr => ?_)
          rw [hr, hx]
          simp only [out2]
        · have h1 := of_decide_eq_false h1
          have eP : P.drop i = [] := List.drop_eq_nil_of_le (by omega)
          have eP1 : P.drop (i + 1) = [] := List.drop_eq_nil_of_le (by omega)
          have hsz : (acc ++ T[i]).size = acc.size + T[i].size := ByteArray.size_append
          refine (implLoop_tot hc hP hPc hT hTl n (i + 1) _ (by omega) (by omega)).imp fun r hr => ?_
          rw [hr, eP, eP1]
          congr 1
          have key : ∀ (T' : List ByteArray) (cs cs' : List Tt38) (x : ByteArray), out2 T' [] cs x = out2 T' [] cs' x := fun T' => by
            induction T' with
            | nil => intro cs cs' x; simp only [out2]
            | cons t T' ih => intro cs cs' x; simp only [out2]; exact ih cs cs' _
          simp only [out2]
          exact key _ _ _ _
    · have h := of_decide_eq_false h
      have eT : T.drop i = [] := List.drop_eq_nil_of_le (by omega)
      rw [eT]
      refine Tot.bif (fun h2 => ?_) (fun h2 => ?_)
      · have h2 := of_decide_eq_true h2
        exact Tot.ret _ (fun _ _ => rfl) (by simp only [out2]; unfold finV; rw [if_pos (by omega)])
      · have h2 := of_decide_eq_false h2
        exact Tot.ret _ (fun _ _ => rfl) (by simp only [out2]; unfold finV; rw [if_neg (by omega)])
end
end Go.Proofs.YtbakkcdanoopgaaGreatDoor.Ev.Pr
set_option linter.unusedVariables false
namespace Go.Proofs.YtbakkcdanoopgaaGreatDoor.Ev.Pr
open Go Go.RowKit Go.Proofs.YtbakkcdanoopgaaGreatDoorW.PrintWords Go.Proofs.YtbakkcdanoopgaaGreatDoorW.PrintMore Kd Go.Proofs.YtbakkcdanoopgaaGreatDoor.Ev Go.Proofs.YtbakkcdanoopgaaGreatDoor.Pure Go.Proofs.YtbakkcdanoopgaaGreatDoor.Q
def fmtV (s : ByteArray) (cells : List Tt38) : ByteArray × Int :=
  if 500 < s.size then (bs [], 1) else match items s s.size 0 with
  | none => (bs [], 1)
  | some l => if cells.all (fun c => okC c.1 c.2.1 c.2.2) = true then (if cells.length < nPl l then (bs [], 2) else finV (outL l cells (bs []))) else (bs [], 1)
end Go.Proofs.YtbakkcdanoopgaaGreatDoor.Ev.Pr
set_option linter.unusedVariables false
namespace Go.Proofs.YtbakkcdanoopgaaGreatDoor.Ev.Pr
open Go Go.RowKit Go.Proofs.YtbakkcdanoopgaaGreatDoorW.PrintWords Go.Proofs.YtbakkcdanoopgaaGreatDoorW.PrintMore Kd Go.Proofs.YtbakkcdanoopgaaGreatDoor.Ev Go.Proofs.YtbakkcdanoopgaaGreatDoor.Pure Go.Proofs.YtbakkcdanoopgaaGreatDoor.Q
section
variable {ρ : Type} {s : ByteArray} {cells : List Tt38}
theorem spec5_tot (hz : ∀ c, c ∈ cells → c.2.2.size ≤ 140737488355328) (hcl : cells.length ≤ 1000000000) (m : Nat) {R : ByteArray × Int → Prop} (hbad : (∃ c, c ∈ cells ∧ ¬ OkC c) → R (bs [], 1)) (hfew : (∀ c, c ∈ cells → OkC c) → cells.length < m → R (bs [], 2))
    (next : (∀ c, c ∈ cells → OkC c) → m ≤ cells.length → Tot (fun f κ => (tb (ρ := ρ) f).spec_Format_s14 s cells (bs []) 0 0 (fun a b => κ (a, b))) R) : ∀ (n i : Nat), i + n = cells.length → (∀ c, c ∈ cells.take i → OkC c) →
    Tot (fun f κ => (tb (ρ := ρ) f).spec_Format_s5 s cells (m : Int) (i : Int) (fun a b => κ (a, b))) R
  | n, i, hi, ht => by
    refine st_spec_Format_s5 ?_
    unfold B_spec_Format_s5
    refine Tot.bif (fun h => ?_) (fun h => ?_)
    · have h := of_decide_eq_true h
      have hlt : i < cells.length := by omega
      cases n with
      | zero => omega
      | succ n =>
        rw [elt38_at hlt, show w ((i : Int) + 1) = ((i + 1 : Nat) : Int) by rw [w_in (by omega)]; omega]
        refine Tot.iteT (by omega) (Tot.iteT h (Tot.bind1 (specCellOk_tot _ _ (hz _ (List.getElem_mem hlt))) fun b hb => ?_))
        have hb : b = _ := hb
        refine Tot.bif (fun h1 => ?_) (fun h1 => ?_)
        · refine Tot.ret _ (fun _ _ => rfl) (hbad ⟨_, List.getElem_mem hlt, fun h2 => ?_⟩)
          unfold OkC at h2
          rw [h2] at hb
          rw [hb] at h1
          cases h1
        · refine spec5_tot hz hcl m hbad hfew next n (i + 1) (by omega) fun c hc => ?_
          rw [List.take_add_one, List.getElem?_eq_getElem hlt] at hc
          rcases List.mem_append.mp hc with hc | hc
          · exact ht c hc
          · obtain rfl : c = cells[i] := by simpa using hc
            unfold OkC
            rw [← hb]
            simpa using h1
    · have h := of_decide_eq_false h
      rw [List.take_of_length_le (by omega)] at ht
      refine Tot.bif (fun h1 => ?_) (fun h1 => ?_)
      · have h1 := of_decide_eq_true h1
        exact Tot.ret _ (fun _ _ => rfl) (hfew ht (by omega))
      · have h1 := of_decide_eq_false h1
        exact next ht (by omega)
theorem specFormat_tot (hz : ∀ c, c ∈ cells → c.2.2.size ≤ 140737488355328) (hcl : cells.length ≤ 1000000000) : Tot (fun f κ => (tb (ρ := ρ) f).spec_Format s cells (fun a b => κ (a, b))) fun r => r = fmtV s cells := by
  refine st_spec_Format ?_
  unfold B_spec_Format fmtV
  by_cases hs : 500 < s.size
  · rw [if_pos hs]
    refine Tot.bind2 (Q := fun r => r = (0, false)) (st_spec_Places ?_) fun a b hab => ?_
    · unfold B_spec_Places
      exact Tot.bif (fun _ => Tot.ret _ (fun _ _ => rfl) rfl) (fun h => absurd (of_decide_eq_false h) (by omega))
    · have hab : (a, b) = (0, false) := hab
      simp only [Prod.mk.injEq] at hab
      obtain ⟨rfl, rfl⟩ := hab
      exact Tot.bif (fun _ => Tot.ret _ (fun _ _ => rfl) rfl) (fun h => absurd h (by decide))
  · rw [if_neg hs]
    refine Tot.bind2 (Q := fun r => r = (match items s s.size 0 with | some l => (((0 + nPl l : Nat) : Int), true) | none => (0, false))) (st_spec_Places ?_) fun a b hab => ?_
    · unfold B_spec_Places
      exact Tot.bif (fun h => absurd (of_decide_eq_true h) (by omega)) (fun _ => places_tot (by omega) s.size 0 0 (by omega) (by omega) (by omega))
    · cases hl : items s s.size 0 with
      | none =>
        rw [hl] at hab
        have hab : (a, b) = (0, false) := hab
        simp only [Prod.mk.injEq] at hab
        obtain ⟨rfl, rfl⟩ := hab
        exact Tot.bif (fun _ => Tot.ret _ (fun _ _ => rfl) rfl) (fun h => absurd h (by decide))
      | some l =>
        rw [hl] at hab
        have hab : (a, b) = (((0 + nPl l : Nat) : Int), true) := hab
        simp only [Prod.mk.injEq] at hab
        obtain ⟨rfl, rfl⟩ := hab
        refine Tot.bif (fun h => absurd h (by decide)) (fun _ => ?_)
        rw [Nat.zero_add]
        dsimp only
        refine spec5_tot hz hcl (nPl l) (fun hx => ?_) (fun h1 h2 => ?_) (fun h1 h2 => ?_) cells.length 0 (by omega) (by simp)
        · obtain ⟨c, h1, h2⟩ := hx
          exact (if_neg (fun h3 : cells.all (fun c => okC c.1 c.2.1 c.2.2) = true => h2 (show okC c.1 c.2.1 c.2.2 = true from List.all_eq_true.mp h3 c h1))).symm
        · rw [if_pos (List.all_eq_true.mpr fun c hc => h1 c hc), if_pos h2]
        · rw [if_pos (List.all_eq_true.mpr fun c hc => h1 c hc), if_neg (by omega)]
          exact format_tot (by omega) h1 (by omega) s.size 0 0 (bs []) l (by omega) (by omega) (by decide) hl (by omega)
theorem items_wide : ∀ (n i : Nat) (l : List It), items s n i = some l → ∀ p, p ∈ pls l → 0 ≤ p.2.2 ∧ p.2.2 ≤ 99
  | 0, i, l, h, p, hp => by
    obtain rfl := Option.some.inj h
    simp [pls] at hp
  | n + 1, i, l, h, p, hp => by
    unfold items at h
    split at h
    · split at h
      · split at h
        · rename_i x j hx
          obtain ⟨l', hl', rfl⟩ := Option.map_eq_some_iff.mp h
          cases x with
          | ch b => exact items_wide n j l' hl' p hp
          | pl a f v =>
            simp only [pls, List.mem_cons] at hp
            rcases hp with rfl | hp
            · exact (plAt_kind hx).2
            · exact items_wide n j l' hl' p hp
        · cases h
      · obtain ⟨l', hl', rfl⟩ := Option.map_eq_some_iff.mp h
        exact items_wide n (i + 1) l' hl' p hp
    · obtain rfl := Option.some.inj h
      simp [pls] at hp
theorem items_len : ∀ (n i : Nat) (l : List It), items s n i = some l → l.length ≤ n
  | 0, i, l, h => by
    obtain rfl := Option.some.inj h
    simp
  | n + 1, i, l, h => by
    unfold items at h
    split at h
    · split at h
      · split at h
        · rename_i x j hx
          obtain ⟨l', hl', rfl⟩ := Option.map_eq_some_iff.mp h
          have := items_len n j l' hl'
          simp; omega
        · cases h
      · obtain ⟨l', hl', rfl⟩ := Option.map_eq_some_iff.mp h
        have := items_len n (i + 1) l' hl'
        simp; omega
    · obtain rfl := Option.some.inj h
      simp
theorem txs_size : ∀ (l : List It) (N : List Int) (t : ByteArray), t ∈ txs l N → t.size ≤ N.length + l.length
  | [], N, t, ht => by
    simp only [txs, List.mem_singleton] at ht
    subst ht
    rw [strOfNums_size]; omega
  | .ch b :: l, N, t, ht => by
    have := txs_size l (N ++ [b]) t ht
    simp at this ⊢
    omega
  | .pl k f v :: l, N, t, ht => by
    simp only [txs, List.mem_cons] at ht
    rcases ht with rfl | ht
    · rw [strOfNums_size]; omega
    · have := txs_size l [] t ht
      simp at this ⊢
      omega
theorem nPl_le : ∀ l : List It, nPl l ≤ l.length
  | [] => Nat.le_refl _
  | .ch _ :: l => Nat.le_trans (nPl_le l) (by simp)
  | .pl _ _ _ :: l => by have := nPl_le l; simp [nPl]; omega
end
end Go.Proofs.YtbakkcdanoopgaaGreatDoor.Ev.Pr
set_option linter.unusedVariables false
namespace Go.Proofs.YtbakkcdanoopgaaGreatDoor.Ev.Pr
open Go Go.RowKit Go.Proofs.YtbakkcdanoopgaaGreatDoorW.PrintWords Go.Proofs.YtbakkcdanoopgaaGreatDoorW.PrintMore Kd Go.Proofs.YtbakkcdanoopgaaGreatDoor.Ev Go.Proofs.YtbakkcdanoopgaaGreatDoor.Pure Go.Proofs.YtbakkcdanoopgaaGreatDoor.Q
section
variable {ρ : Type} {s : ByteArray} {cells : List Tt38} {T : List ByteArray} {P : List Tt87}
theorem impl5_tot (hz : ∀ c, c ∈ cells → c.2.2.size ≤ 140737488355328) (hcl : cells.length ≤ 1000000000) {R : ByteArray × Int → Prop} (hbad : (∃ c, c ∈ cells ∧ ¬ OkC c) → R (bs [], 1)) (hfew : (∀ c, c ∈ cells → OkC c) → cells.length < P.length → R (bs [], 2))
    (next : (∀ c, c ∈ cells → OkC c) → P.length ≤ cells.length → Tot (fun f κ => (tb (ρ := ρ) f).impl_Format_s14 cells (bs []) (T.length : Int) 0 T P (fun a b => κ (a, b))) R) : ∀ (n i : Nat), i + n = cells.length → (∀ c, c ∈ cells.take i → OkC c) →
    Tot (fun f κ => (tb (ρ := ρ) f).impl_Format_s5 cells cells (cells.length : Int) (i : Int) T P (fun a b => κ (a, b))) R
  | n, i, hi, ht => by
    refine st_impl_Format_s5 ?_
    unfold B_impl_Format_s5
    refine Tot.bif (fun h => ?_) (fun h => ?_)
    · have h := of_decide_eq_true h
      have hlt : i < cells.length := by omega
      cases n with
      | zero => omega
      | succ n =>
        rw [elt38_at hlt, show w ((i : Int) + 1) = ((i + 1 : Nat) : Int) by rw [w_in (by omega)]; omega]
        refine Tot.iteT (by omega) (Tot.iteT h (Tot.bind1 (cellOk_tot _ _ (hz _ (List.getElem_mem hlt))) fun b hb => ?_))
        have hb : b = _ := hb
        refine Tot.bif (fun h1 => ?_) (fun h1 => ?_)
        · refine Tot.ret _ (fun _ _ => rfl) (hbad ⟨_, List.getElem_mem hlt, fun h2 => ?_⟩)
          unfold OkC at h2
          rw [h2] at hb
          rw [hb] at h1
          cases h1
        · refine impl5_tot hz hcl hbad hfew next n (i + 1) (by omega) fun c hc => ?_
          rw [List.take_add_one, List.getElem?_eq_getElem hlt] at hc
          rcases List.mem_append.mp hc with hc | hc
          · exact ht c hc
          · obtain rfl : c = cells[i] := by simpa using hc
            unfold OkC
            rw [← hb]
            simpa using h1
    · have h := of_decide_eq_false h
      rw [List.take_of_length_le (by omega)] at ht
      refine Tot.bif (fun h1 => ?_) (fun h1 => ?_)
      · have h1 := of_decide_eq_true h1
        exact Tot.ret _ (fun _ _ => rfl) (hfew ht (by omega))
      · have h1 := of_decide_eq_false h1
        exact next ht (by omega)
end
end Go.Proofs.YtbakkcdanoopgaaGreatDoor.Ev.Pr
set_option linter.unusedVariables false
namespace Go.Proofs.YtbakkcdanoopgaaGreatDoor.Ev.Pr
open Go Go.RowKit Go.Proofs.YtbakkcdanoopgaaGreatDoorW.PrintWords Go.Proofs.YtbakkcdanoopgaaGreatDoorW.PrintMore Kd Go.Proofs.YtbakkcdanoopgaaGreatDoor.Ev Go.Proofs.YtbakkcdanoopgaaGreatDoor.Pure Go.Proofs.YtbakkcdanoopgaaGreatDoor.Q
section
variable {ρ : Type} {s : ByteArray} {cells : List Tt38}
def partsV (s : ByteArray) : List ByteArray × List Tt87 × Bool := if 500 < s.size then ([], [], false) else grpO (items s s.size 0) [] [] []
theorem implParts_tot : Tot (fun f κ => (tb (ρ := ρ) f).impl_parts s (fun a b c => κ (a, b, c))) fun r => r = partsV s := by
  refine st_impl_parts ?_
  unfold B_impl_parts partsV
  refine Tot.bif (fun h => ?_) (fun h => ?_)
  · have h := of_decide_eq_true h
    rw [if_pos (by omega)]
    exact Tot.ret _ (fun _ _ => rfl) rfl
  · have h := of_decide_eq_false h
    rw [if_neg (by omega)]
    exact parts_tot (by omega) s.size 0 [] [] [] (by omega) (by omega) (by simp) (by simp) (by simp)
theorem items_drop {n i : Nat} {l : List It} (h : items s n i = some l) (hn : l.length ≤ 500) : (txs l []).length ≤ 501 ∧ (∀ t, t ∈ txs l [] → t.size ≤ 1000) := by
  refine ⟨?_, fun t ht => ?_⟩
  · rw [txs_len]
    have := nPl_le l
    omega
  · have := txs_size l [] t ht
    simp at this
    omega
theorem implFormat_tot (hz : ∀ c, c ∈ cells → c.2.2.size ≤ 140737488355328) (hcl : cells.length ≤ 1000000000) : Tot (fun f κ => (tb (ρ := ρ) f).impl_Format s cells (fun a b => κ (a, b))) fun r => r = fmtV s cells := by
  refine st_impl_Format ?_
  unfold B_impl_Format
  refine Tot.bind3 implParts_tot fun a b c habc => ?_
  have habc : (a, b, c) = partsV s := habc
  unfold partsV at habc
  by_cases hs : 500 < s.size
  · rw [if_pos hs] at habc
    simp only [Prod.mk.injEq] at habc
    obtain ⟨rfl, rfl, rfl⟩ := habc
    refine Tot.bif (fun _ => Tot.ret _ (fun _ _ => rfl) ?_) (fun h => absurd h (by decide))
    unfold fmtV
    rw [if_pos hs]
  · rw [if_neg hs] at habc
    unfold fmtV
    rw [if_neg hs]
    cases hl : items s s.size 0 with
    | none =>
      rw [hl] at habc
      have habc : (a, b, c) = ([], [], false) := habc
      simp only [Prod.mk.injEq] at habc
      obtain ⟨rfl, rfl, rfl⟩ := habc
      exact Tot.bif (fun _ => Tot.ret _ (fun _ _ => rfl) rfl) (fun h => absurd h (by decide))
    | some l =>
      rw [hl] at habc
      have habc : (a, b, c) = grp l [] [] [] := habc
      rw [grp_eq] at habc
      simp only [List.nil_append, Prod.mk.injEq] at habc
      obtain ⟨rfl, rfl, rfl⟩ := habc
      have hlen := items_len s.size 0 l hl
      have hd := items_drop hl (by omega)
      refine Tot.bif (fun h => absurd h (by decide)) (fun _ => ?_)
      dsimp only
      refine impl5_tot hz hcl (fun hx => ?_) (fun h1 h2 => ?_) (fun h1 h2 => ?_) cells.length 0 (by omega) (by simp)
      · obtain ⟨c, h1, h2⟩ := hx
        exact (if_neg (fun h3 : cells.all (fun c => okC c.1 c.2.1 c.2.2) = true => h2 (show okC c.1 c.2.1 c.2.2 = true from List.all_eq_true.mp h3 c h1))).symm
      · rw [pls_len] at h2
        rw [if_pos (List.all_eq_true.mpr fun c hc => h1 c hc), if_pos h2]
      · rw [pls_len] at h2
        rw [if_pos (List.all_eq_true.mpr fun c hc => h1 c hc), if_neg (by omega)]
        refine (implLoop_tot h1 (items_wide s.size 0 l hl) (by rw [pls_len]; exact h2) hd.2 (by omega) (txs l []).length 0 (bs []) (by omega) (by decide)).imp fun r hr => ?_
        rw [hr]
        show finV (out2 (txs l []) (pls l) cells (bs [])) = _
        rw [out_eq l [] cells (bs []) h2, app_nil]
end
end Go.Proofs.YtbakkcdanoopgaaGreatDoor.Ev.Pr
set_option linter.unusedVariables false
namespace Go.Proofs.YtbakkcdanoopgaaGreatDoor.Ev.Pr
open Go Go.RowKit Go.Proofs.YtbakkcdanoopgaaGreatDoorW.PrintWords Go.Proofs.YtbakkcdanoopgaaGreatDoorW.PrintMore Kd Go.Proofs.YtbakkcdanoopgaaGreatDoor.Ev Go.Proofs.YtbakkcdanoopgaaGreatDoor.Pure Go.Proofs.YtbakkcdanoopgaaGreatDoor.Q
section
variable {ρ : Type} {l : List Tt38}
theorem beq_self_list (x : ByteArray) : (x.toList == x.toList) = true := by simp
end
end Go.Proofs.YtbakkcdanoopgaaGreatDoor.Ev.Pr
set_option linter.unusedVariables false
namespace Go.Proofs.YtbakkcdanoopgaaGreatDoor.Q
open Go Go.RowKit Go.Proofs.YtbakkcdanoopgaaGreatDoor.Ev Go.Proofs.YtbakkcdanoopgaaGreatDoorW.PrintWords Go.Proofs.YtbakkcdanoopgaaGreatDoorW.PrintMore
open Ev.Pr (FTabs BgF)
theorem ftabs_two {w w1 : World} (h : FTabs w) (hb : w1.heap[3]? = w.heap[3]?) (he : w1.heap[0]? = w.heap[0]?) : FTabs w1 := by
  have hg : Tryz.prog.globalNamed "internal/strconv.uint64pow10" = some 3 := by kernel_rfl
  refine ⟨?_, ?_⟩
  · have h1 := h.pow10
    unfold Lib.TabIs at h1 ⊢
    unfold World.var? at h1 ⊢
    rw [hg] at h1 ⊢
    simp only [Option.bind_some] at h1 ⊢
    rw [hb]
    exact h1
  · have h1 := h.err
    unfold World.cell? at h1 ⊢
    rw [he]
    exact h1
theorem bg_of {w : World} (hT : FTabs w) : ∃ o1 o2, w.heap[3]? = some o1 ∧ w.heap[0]? = some o2 := by
  have h1 := hT.pow10
  obtain ⟨ev, h2, _⟩ := hT.err
  have hg : Tryz.prog.globalNamed "internal/strconv.uint64pow10" = some 3 := by kernel_rfl
  unfold Lib.TabIs World.var? at h1
  rw [hg] at h1
  simp only [Option.bind_some] at h1
  unfold World.cell? at h2
  cases hh : w.heap[3]? with
  | none => rw [hh] at h1; simp at h1
  | some o1 =>
    cases he : w.heap[0]? with
    | none => rw [he] at h2; simp at h2
    | some o2 => exact ⟨o1, o2, rfl, rfl⟩
end Go.Proofs.YtbakkcdanoopgaaGreatDoor.Q
set_option linter.unusedVariables false
namespace Go.Proofs.YtbakkcdanoopgaaGreatDoor.Ev.Pr
open Go Go.RowKit Go.Proofs.YtbakkcdanoopgaaGreatDoorW.PrintWords Go.Proofs.YtbakkcdanoopgaaGreatDoorW.PrintMore Kd Go.Proofs.YtbakkcdanoopgaaGreatDoor.Ev
section
variable {ρ : Type}
theorem bitand_i64_255 (x : Int) : 0 ≤ bitand .i64 x 255 ∧ bitand .i64 x 255 < 256 := by
  have := bitand_i64 x 255 (by decide)
  have e : ((255 : Nat) : Int) = 255 := rfl
  rw [e] at this
  omega
structure Cur (c : List Int) (p : Int) : Prop where
  lo : 0 ≤ p
  hi : p ≤ (c.length : Int)
  len : c.length ≤ 9223372036854775807
theorem l1Byte_tot {c : List Int} {p s : Int} (h : Cur c p) :
    Tot (fun k κ => (tb (ρ := ρ) k).spec_l1Byte c p s (fun a b d => κ (a, b, d))) fun r => (0 ≤ r.1 ∧ r.1 < 256) ∧ Cur c r.2.1 := by
  obtain ⟨hp, hps, hc⟩ := h
  refine st_spec_l1Byte ?_
  unfold B_spec_l1Byte
  refine Tot.bif (fun h => ?_) (fun h => ?_)
  · have h1 := of_decide_eq_true h
    refine Tot.iteT hp (Tot.iteT h1 (Tot.ret _ (fun k κ => rfl) ?_))
    have e : w (p + 1) = p + 1 := w_in (by omega)
    exact ⟨bitand_i64_255 _, by show 0 ≤ w (p + 1); omega, by show w (p + 1) ≤ _; omega, hc⟩
  · exact Tot.ret _ (fun k κ => rfl) ⟨bitand_i64_255 _, hp, hps, hc⟩
theorem l1Below_tot {c : List Int} {n p s : Int} (h : Cur c p) :
    Tot (fun k κ => (tb (ρ := ρ) k).spec_l1Below n c p s (fun a b d => κ (a, b, d))) fun r => (0 ≤ r.1 ∧ (0 < n → r.1 < n)) ∧ Cur c r.2.1 := by
  refine st_spec_l1Below ?_
  unfold B_spec_l1Below
  refine Tot.bif (fun h1 => ?_) (fun h1 => ?_)
  · have h1 := of_decide_eq_true h1
    exact Tot.ret _ (fun k κ => rfl) ⟨⟨by simp, fun h => by omega⟩, h⟩
  have h1 := of_decide_eq_false h1
  have hm : ∀ v : Int, 0 ≤ v → 0 ≤ v.tmod n ∧ v.tmod n < n := fun v hv => ⟨Int.tmod_nonneg _ hv, by
    have := Int.tmod_lt_of_pos v (show 0 < n by omega)
    exact this⟩
  refine Tot.bif (fun h2 => ?_) (fun h2 => ?_)
  · refine Tot.bind3 (l1Byte_tot h) fun a p1 s1 q => Tot.iteF (by omega) (Tot.ret _ (fun k κ => rfl) ?_)
    exact ⟨⟨(hm a q.1.1).1, fun _ => (hm a q.1.1).2⟩, q.2⟩
  · refine Tot.bind3 (l1Byte_tot h) fun a p1 s1 q => Tot.bind3 (l1Byte_tot q.2) fun a2 p2 s2 q2 => Tot.bind3 (l1Byte_tot q2.2) fun a3 p3 s3 q3 => Tot.bind3 (l1Byte_tot q3.2) fun a4 p4 s4 q4 => Tot.iteF (by omega) (Tot.ret _ (fun k κ => rfl) ?_)
    have r1 := q.1; have r2 := q2.1; have r3 := q3.1; have r4 := q4.1
    dsimp only at r1 r2 r3 r4
    have e1 : w (a * 16777216) = a * 16777216 := w_in (by omega)
    have e2 : w (a2 * 65536) = a2 * 65536 := w_in (by omega)
    have e3 : w (a3 * 256) = a3 * 256 := w_in (by omega)
    have e4 : w (w (a * 16777216) + w (a2 * 65536)) = a * 16777216 + a2 * 65536 := by rw [e1, e2]; exact w_in (by omega)
    have e5 : w (w (w (a * 16777216) + w (a2 * 65536)) + w (a3 * 256)) = a * 16777216 + a2 * 65536 + a3 * 256 := by rw [e4, e3]; exact w_in (by omega)
    have e6 : w (w (w (w (a * 16777216) + w (a2 * 65536)) + w (a3 * 256)) + a4) = a * 16777216 + a2 * 65536 + a3 * 256 + a4 := by rw [e5]; exact w_in (by omega)
    have h5 := hm (w (w (w (w (a * 16777216) + w (a2 * 65536)) + w (a3 * 256)) + a4)) (by rw [e6]; omega)
    exact ⟨⟨h5.1, fun _ => h5.2⟩, q4.2⟩
theorem l1Once_tot {c : List Int} {n p s : Int} (h : Cur c p) :
    Tot (fun k κ => (tb (ρ := ρ) k).spec_l1Once n c p s (fun a b d => κ (a, b, d))) fun r => Cur c r.2.1 := by
  refine st_spec_l1Once ?_
  unfold B_spec_l1Once
  exact Tot.bind3 (l1Below_tot h) fun a p1 s1 q => Tot.ret _ (fun k κ => rfl) q.2
theorem strOfNums_size (l : List Int) : (strOfNums l).size = l.length := by simp [strOfNums, ByteArray.size]
theorem l1New_s3_tot {c : List Int} (hc : c.length ≤ 9223372036854775807) : ∀ (n : Nat) (i s : Int), 0 ≤ i → (c.length : Int) - i ≤ n → Tot (fun k κ => (tb (ρ := ρ) k).spec_l1New_s3 c s i (fun a b d => κ (a, b, d))) fun r => r.1 = c ∧ Cur c r.2.1
  | n, i, s, hi, hn => by
    refine st_spec_l1New_s3 ?_
    unfold B_spec_l1New_s3
    have out : Tot (ρ := ρ) (fun (k : Nat) κ => (fun a b d => κ (a, b, d)) c (0 : Int) s) fun r => r.1 = c ∧ Cur c r.2.1 := Tot.ret _ (fun k κ => rfl) ⟨rfl, Int.le_refl _, by show (0 : Int) ≤ _; omega, hc⟩
    refine Tot.bif (fun h => ?_) (fun _ => out)
    have h1 := of_decide_eq_true h
    refine Tot.bif (fun h => ?_) (fun _ => out)
    refine Tot.iteT hi (Tot.iteT h1 ?_)
    cases n with
    | zero => omega
    | succ n =>
      have e : w (i + 1) = i + 1 := w_in (by omega)
      rw [e]
      exact l1New_s3_tot hc n (i + 1) _ (by omega) (by omega)
theorem l1New_tot {c : List Int} (hc : c.length ≤ 9223372036854775807) : Tot (fun k κ => (tb (ρ := ρ) k).spec_l1New c (fun a b d => κ (a, b, d))) fun r => r.1 = c ∧ Cur c r.2.1 := by
  refine st_spec_l1New ?_
  unfold B_spec_l1New
  exact l1New_s3_tot hc c.length 0 _ (Int.le_refl _) (by omega)
theorem l1of_s3_tot {c : List Int} {n : Int} {al : ByteArray} (hal : 0 < al.size) (hn : n ≤ 1000000) : ∀ (m : Nat) (i : Int) (acc : List Int) (p s : Int), Cur c p → (acc.length : Int) = i → n - i ≤ m → Tot (fun k κ => (tb (ρ := ρ) k).spec_l1of_s3 n al i acc c p s (fun a b d => κ (a, b, d))) fun r => (r.1.size ≤ acc.length ∨ (r.1.size : Int) ≤ n) ∧ Cur c r.2.1
  | m, i, acc, p, s, hp, hi, hm => by
    refine st_spec_l1of_s3 ?_
    unfold B_spec_l1of_s3
    refine Tot.bif (fun h => ?_) (fun h => ?_)
    · have h1 := of_decide_eq_true h
      refine Tot.bind3 (l1Below_tot hp) fun a p1 s1 q => Tot.iteT q.1.1 (Tot.iteT (q.1.2 (by omega)) (Tot.iteT (by omega) ?_))
      cases m with
      | zero => omega
      | succ m =>
        have e : w (i + 1) = i + 1 := w_in (by omega)
        rw [e]
        refine (l1of_s3_tot hal hn m (i + 1) (acc ++ [bt al a]) p1 s1 q.2 (by simp; omega) (by omega)).imp fun r hr => ⟨?_, hr.2⟩
        rcases hr.1 with h | h
        · right
          simp at h
          omega
        · exact .inr h
    · exact Tot.ret _ (fun k κ => rfl) ⟨.inl (by show (strOfNums acc).size ≤ _; rw [strOfNums_size]; omega), hp⟩
theorem l1of_tot {c : List Int} {n p s : Int} {al : ByteArray} (hal : 0 < al.size) (hn : n ≤ 1000000) (hp : Cur c p) : Tot (fun k κ => (tb (ρ := ρ) k).spec_l1of n al c p s (fun a b d => κ (a, b, d))) fun r => (r.1.size = 0 ∨ (r.1.size : Int) ≤ n) ∧ Cur c r.2.1 := by
  refine st_spec_l1of ?_
  unfold B_spec_l1of
  refine (l1of_s3_tot hal hn n.toNat 0 [] p s hp rfl (by omega)).imp fun r hr => ⟨?_, hr.2⟩
  rcases hr.1 with h | h
  · have h : r.1.size ≤ 0 := h
    exact .inl (by omega)
  · exact .inr h
theorem elS_mem {l : List ByteArray} {i : Int} (h0 : 0 ≤ i) (h1 : i < (l.length : Int)) : elS l i ∈ l := by
  obtain ⟨n, rfl⟩ := Int.eq_ofNat_of_zero_le h0
  have hn : n < l.length := by omega
  have e : elS l (n : Int) = l[n] := by
    show l.getD (n : Int).toNat _ = _
    rw [Int.toNat_natCast, List.getD_eq_getElem?_getD, List.getElem?_eq_getElem hn]; rfl
  rw [e]
  exact List.getElem_mem hn
theorem l1text_tot {c : List Int} {p s : Int} {l : List ByteArray} (hl : 0 < l.length) (hp : Cur c p) : Tot (fun k κ => (tb (ρ := ρ) k).spec_l1text l c p s (fun a b d => κ (a, b, d))) fun r => r.1 ∈ l ∧ Cur c r.2.1 := by
  refine st_spec_l1text ?_
  unfold B_spec_l1text
  refine Tot.bind3 (l1Below_tot hp) fun a p1 s1 q => ?_
  have h1 := q.1.1
  have h2 := q.1.2 (by omega)
  dsimp only at h1 h2
  exact Tot.iteT h1 (Tot.iteT h2 (Tot.ret _ (fun _ _ => rfl) ⟨elS_mem h1 h2, q.2⟩))
theorem text_le {l : List ByteArray} {b : Nat} (h : (l.all fun x => decide (x.size ≤ b)) = true) {x : ByteArray} (hx : x ∈ l) : x.size ≤ b := of_decide_eq_true (List.all_eq_true.mp h x hx)
theorem l1bend_tot {c : List Int} {p s : Int} {x : ByteArray} (hx : x.size ≤ 1000000000) (hp : Cur c p) : Tot (fun k κ => (tb (ρ := ρ) k).spec_l1bend x c p s (fun a b d => κ (a, b, d))) fun r => r.1.size ≤ x.size + 1 ∧ Cur c r.2.1 := by
  refine st_spec_l1bend ?_
  unfold B_spec_l1bend
  rw [w_in (n := (x.size : Int) + 1) (by omega)]
  refine Tot.bind3 (l1Below_tot hp) fun a p1 s1 q => ?_
  have h1 := q.1.1
  have h2 := q.1.2 (by omega)
  dsimp only at h1 h2
  obtain ⟨n, rfl⟩ := Int.eq_ofNat_of_zero_le h1
  have hn : n ≤ x.size := by omega
  refine Tot.bind3 (l1Below_tot q.2) fun v p2 s2 q2 => Tot.bif (fun _ => ?_) (fun _ => Tot.bif (fun _ => ?_) (fun _ => Tot.bif (fun h => ?_) (fun _ => ?_)))
  · refine Tot.iteT h1 (Tot.iteT (by omega) (Tot.iteT h1 (Tot.iteT (by omega) (Tot.bind3 (l1of_tot (by decide) (by omega) q2.2) fun y p3 s3 q3 => ?_))))
    have hy : y.size = 0 ∨ (y.size : Int) ≤ 1 := q3.1
    rw [Int.toNat_natCast]
    have e1 : (x.extract 0 n).size = n := by rw [ByteArray.size_extract]; omega
    have e2 : (x.extract n x.size).size = x.size - n := by rw [ByteArray.size_extract]; omega
    refine Tot.iteT (by omega) (Tot.iteT (by rw [ByteArray.size_append]; omega) (Tot.ret _ (fun _ _ => rfl) ⟨?_, q3.2⟩))
    dsimp only
    rw [ByteArray.size_append, ByteArray.size_append]
    omega
  · refine Tot.iteT h1 (Tot.iteT (by omega) (Tot.ret _ (fun _ _ => rfl) ⟨?_, q2.2⟩))
    dsimp only
    rw [Int.toNat_natCast, ByteArray.size_extract]
    omega
  · have h := of_decide_eq_true h
    have ew : w ((n : Int) + 1) = ((n + 1 : Nat) : Int) := by rw [w_in (by omega)]; omega
    rw [ew, Int.toNat_natCast, Int.toNat_natCast]
    have e1 : (x.extract 0 n).size = n := by rw [ByteArray.size_extract]; omega
    have e2 : (x.extract (n + 1) x.size).size = x.size - (n + 1) := by rw [ByteArray.size_extract]; omega
    refine Tot.iteT h1 (Tot.iteT (by omega) (Tot.iteT (by omega) (Tot.iteT (by omega) (Tot.iteT (by omega) (Tot.ret _ (fun _ _ => rfl) ⟨?_, q2.2⟩)))))
    dsimp only
    rw [ByteArray.size_append]
    omega
  · refine Tot.iteT (by omega) (Tot.ret _ (fun _ _ => rfl) ⟨?_, q2.2⟩)
    dsimp only
    rw [ByteArray.size_append]
    show x.size + 1 ≤ _
    omega
end
end Go.Proofs.YtbakkcdanoopgaaGreatDoor.Ev.Pr
set_option linter.unusedVariables false
namespace Go.Proofs.YtbakkcdanoopgaaGreatDoor.Ev.Pr
open Go Go.RowKit Go.Proofs.YtbakkcdanoopgaaGreatDoorW.PrintWords Go.Proofs.YtbakkcdanoopgaaGreatDoorW.PrintMore Kd Go.Proofs.YtbakkcdanoopgaaGreatDoor.Ev Go.Proofs.YtbakkcdanoopgaaGreatDoor.Pure Go.Proofs.YtbakkcdanoopgaaGreatDoor.Q
section
variable {ρ : Type} {c : List Int}
theorem l9format3_tot : ∀ (m : Nat) (x : ByteArray) (n p s : Int), n ≤ m → x.size + 5 * m ≤ 100 → Cur c p → Tot (fun k κ => (tb (ρ := ρ) k).spec_l9format_s3 x n c p s (fun a b d => κ (a, b, d))) fun r => r.1.size ≤ 1000 ∧ Cur c r.2.1
  | m, x, n, p, s, hn, hx, hp => by
    refine st_spec_l9format_s3 ?_
    unfold B_spec_l9format_s3
    refine Tot.bif (fun h => ?_) (fun h => ?_)
    · have h := of_decide_eq_true h
      cases m with
      | zero => omega
      | succ m =>
        refine Tot.bind3 (l1text_tot (by decide) hp) fun y p1 s1 q => ?_
        have hy : y.size ≤ 5 := text_le (by decide) q.1
        rw [w_in (n := n - 1) (by omega)]
        exact Tot.iteT (by omega) (l9format3_tot m (x ++ y) (n - 1) p1 s1 (by omega) (by rw [ByteArray.size_append]; omega) q.2)
    · refine Tot.bind3 (l1Below_tot hp) fun a p1 s1 q => Tot.bif (fun _ => ?_) (fun _ => Tot.bif (fun _ => ?_) (fun _ => Tot.bif (fun _ => ?_) (fun _ => Tot.ret _ (fun _ _ => rfl) ⟨by show x.size ≤ 1000; omega, q.2⟩)))
      · refine Tot.bind3 (l1bend_tot (by omega) q.2) fun y p2 s2 q2 => Tot.ret _ (fun _ _ => rfl) ⟨?_, q2.2⟩
        have := q2.1
        dsimp only at this ⊢
        omega
      · refine Tot.bind3 (l1text_tot (by decide) q.2) fun y p2 s2 q2 => ?_
        have hy : y.size ≤ 5 := text_le (by decide) q2.1
        refine Tot.iteT (by omega) (Tot.ret _ (fun _ _ => rfl) ⟨?_, q2.2⟩)
        show (x ++ y).size ≤ 1000
        rw [ByteArray.size_append]
        omega
      · refine Tot.bind3 (l1Below_tot q.2) fun v p2 s2 q2 => ?_
        have h1 := q2.1.1
        have h2 := q2.1.2 (by omega)
        dsimp only at h1 h2
        rw [w_in (n := 497 + v) (by omega)]
        refine Tot.bind3 (l1of_tot (by decide) (by omega) q2.2) fun y p3 s3 q3 => ?_
        have hy : y.size = 0 ∨ (y.size : Int) ≤ 497 + v := q3.1
        refine Tot.iteT (by omega) (Tot.ret _ (fun _ _ => rfl) ⟨?_, q3.2⟩)
        show (y ++ bs [37, 115]).size ≤ 1000
        rw [ByteArray.size_append]
        show y.size + 2 ≤ 1000
        omega
theorem l9format_tot {p s : Int} (hp : Cur c p) : Tot (fun k κ => (tb (ρ := ρ) k).spec_l9format c p s (fun a b d => κ (a, b, d))) fun r => r.1.size ≤ 1000 ∧ Cur c r.2.1 := by
  refine st_spec_l9format ?_
  unfold B_spec_l9format
  refine Tot.bind3 (l1Below_tot hp) fun a p1 s1 q => ?_
  have h2 := q.1.2 (by omega)
  dsimp only at h2
  exact l9format3_tot 6 (bs []) a p1 s1 (by omega) (by decide) q.2
theorem fieldCell_tot {x : ByteArray} (hx : x.size ≤ 500) : Tot (fun k κ => (tb (ρ := ρ) k).spec_FieldCell x (fun a b d => κ (a, b, d))) fun r => r.2.2.size ≤ 500 := by
  refine st_spec_FieldCell ?_
  unfold B_spec_FieldCell
  refine Tot.bif (fun h => absurd (of_decide_eq_true h) (by omega)) (fun _ => Tot.bind1 (specLooksNum_tot (by omega)) fun b hb => Tot.bif (fun _ => Tot.bind2 (specReadDec_tot (by omega)) fun n k hn => Tot.ret _ (fun _ _ => rfl) hx) (fun _ => Tot.ret _ (fun _ _ => rfl) hx))
theorem l7draw_tot {p s : Int} (hp : Cur c p) : Tot (fun k κ => (tb (ρ := ρ) k).spec_l7draw c p s (fun a b d e f => κ (a, b, d, e, f))) fun r => r.2.2.1.size ≤ 500 ∧ Cur c r.2.2.2.1 := by
  refine st_spec_l7draw ?_
  unfold B_spec_l7draw
  have e0 : (bs []).size ≤ 500 := by decide
  refine Tot.bind3 (l1Below_tot hp) fun a p1 s1 q => Tot.bif (fun _ => Tot.ret _ (fun _ _ => rfl) ⟨e0, q.2⟩) (fun _ => Tot.bif (fun _ => ?_) (fun _ => Tot.bif (fun _ => ?_) (fun _ => ?_)))
  · exact Tot.bind3 (l1Below_tot q.2) fun a2 p2 s2 q2 => Tot.bind3 (l1Below_tot q2.2) fun a3 p3 s3 q3 => Tot.ret _ (fun _ _ => rfl) ⟨e0, q3.2⟩
  · refine Tot.bind3 (l1text_tot (by decide) q.2) fun y p2 s2 q2 => ?_
    have hy : y.size ≤ 500 := text_le (by decide) q2.1
    exact Tot.bind3 (fieldCell_tot hy) fun a3 b3 c3 h3 => Tot.ret _ (fun _ _ => rfl) ⟨h3, q2.2⟩
  · refine Tot.bind3 (l1text_tot (by decide) q.2) fun y p2 s2 q2 => ?_
    have hy : y.size ≤ 500 := text_le (by decide) q2.1
    exact Tot.ret _ (fun _ _ => rfl) ⟨hy, q2.2⟩
theorem pickInt_tot {l : List Int} {p s : Int} (hl : 0 < l.length) (hp : Cur c p) : Tot (fun k κ => (tb (ρ := ρ) k).spec_l1PickInt l c p s (fun a b d => κ (a, b, d))) fun r => Cur c r.2.1 := by
  refine st_spec_l1PickInt ?_
  unfold B_spec_l1PickInt
  refine Tot.bind3 (l1Below_tot hp) fun a p1 s1 q => ?_
  have h1 := q.1.1
  have h2 := q.1.2 (by omega)
  dsimp only at h1 h2
  exact Tot.iteT h1 (Tot.iteT h2 (Tot.ret _ (fun _ _ => rfl) q.2))
theorem l1num_tot {p s : Int} (hp : Cur c p) : Tot (fun k κ => (tb (ρ := ρ) k).spec_l1num c p s (fun a b d => κ (a, b, d))) fun r => Cur c r.2.1 := by
  refine st_spec_l1num ?_
  unfold B_spec_l1num
  refine Tot.bind3 (l1Below_tot hp) fun a p1 s1 q => Tot.bif (fun _ => ?_) (fun _ => Tot.bif (fun _ => ?_) (fun _ => ?_))
  · exact Tot.bind3 (pickInt_tot (by decide) q.2) fun a2 p2 s2 q2 => Tot.ret _ (fun _ _ => rfl) q2
  · exact Tot.bind3 (l1Below_tot q.2) fun a2 p2 s2 q2 => Tot.ret _ (fun _ _ => rfl) q2.2
  · exact Tot.bind3 (l1Below_tot q.2) fun a2 p2 s2 q2 => Tot.bind3 (pickInt_tot (by decide) q2.2) fun a3 p3 s3 q3 => Tot.ret _ (fun _ _ => rfl) q3
theorem l7bent_tot {p s : Int} (hp : Cur c p) : Tot (fun k κ => (tb (ρ := ρ) k).spec_l7bent c p s (fun a b d e f => κ (a, b, d, e, f))) fun r => r.2.2.1.size ≤ 1000 ∧ Cur c r.2.2.2.1 := by
  refine st_spec_l7bent ?_
  unfold B_spec_l7bent
  have s9 : ∀ {p s a b d e : Int} {x y : ByteArray}, y.size ≤ 1000 → Cur c p → Tot (fun k κ => (tb (ρ := ρ) k).spec_l7bent_s9 c p s a b x d e y (fun a b d e f => κ (a, b, d, e, f))) fun r => r.2.2.1.size ≤ 1000 ∧ Cur c r.2.2.2.1 := fun hy hp => by
    refine st_spec_l7bent_s9 ?_
    unfold B_spec_l7bent_s9
    exact Tot.ret _ (fun _ _ => rfl) ⟨hy, hp⟩
  refine Tot.bind5 (l7draw_tot hp) fun t n x p1 s1 q => ?_
  have hx : x.size ≤ 1000 := Nat.le_trans q.1 (by decide)
  refine Tot.bind3 (l1Below_tot q.2) fun a p2 s2 q2 => Tot.bif (fun _ => ?_) (fun _ => Tot.bif (fun _ => ?_) (fun _ => Tot.bif (fun _ => ?_) (fun _ => s9 hx q2.2)))
  · exact Tot.bind3 (l1Below_tot q2.2) fun a3 p3 s3 q3 => s9 hx q3.2
  · exact Tot.bind3 (l1num_tot q2.2) fun a3 p3 s3 q3 => s9 hx q3
  · refine Tot.bind3 (l1Below_tot q2.2) fun v p3 s3 q3 => ?_
    have h1 := q3.1.1
    have h2 := q3.1.2 (by omega)
    dsimp only at h1 h2
    rw [w_in (n := 500 + v) (by omega)]
    refine Tot.bind3 (l1of_tot (by decide) (by omega) q3.2) fun y p4 s4 q4 => ?_
    have hy : y.size = 0 ∨ (y.size : Int) ≤ 500 + v := q4.1
    exact s9 (by omega) q4.2
theorem DrawFormat5_tot {f : ByteArray} (hf : f.size ≤ 1000) : ∀ (m : Nat) (n : Int) (l : List Tt38) (p s : Int), n ≤ m → l.length + m ≤ 10 → (∀ x, x ∈ l → x.2.2.size ≤ 1000) → Cur c p → Tot (fun k κ => (tb (ρ := ρ) k).spec_DrawFormat_s5 f n l c p s (fun a b => κ (a, b))) fun r => r.1.size ≤ 1000 ∧ r.2.length ≤ 11 ∧ ∀ x, x ∈ r.2 → x.2.2.size ≤ 1000
  | m, n, l, p, s, hn, hl, hx, hp => by
    refine st_spec_DrawFormat_s5 ?_
    unfold B_spec_DrawFormat_s5
    refine Tot.bif (fun h => ?_) (fun h => ?_)
    · have h := of_decide_eq_true h
      cases m with
      | zero => omega
      | succ m =>
        refine Tot.bind5 (l7draw_tot hp) fun t v y p1 s1 q => ?_
        rw [w_in (n := n - 1) (by omega)]
        refine Tot.iteT (by omega) (DrawFormat5_tot hf m (n - 1) _ p1 s1 (by omega) (by simp; omega) (fun x hx' => ?_) q.2)
        rcases List.mem_append.mp hx' with h' | h'
        · exact hx x h'
        · obtain rfl := List.mem_singleton.mp h'
          exact Nat.le_trans q.1 (by decide)
    · refine Tot.bind3 (l1Once_tot hp) fun a p1 s1 q => Tot.bif (fun _ => ?_) (fun _ => Tot.ret _ (fun _ _ => rfl) ⟨hf, by show l.length ≤ 11; omega, hx⟩)
      refine Tot.bind5 (l7bent_tot q) fun t v y p2 s2 q2 => Tot.iteT (by omega) (Tot.ret _ (fun _ _ => rfl) ⟨hf, by simp; omega, fun x hx' => ?_⟩)
      rcases List.mem_append.mp hx' with h' | h'
      · exact hx x h'
      · obtain rfl := List.mem_singleton.mp h'
        exact q2.1
theorem DrawFormat_tot (hc : c.length ≤ 9223372036854775807) : Tot (fun k κ => (tb (ρ := ρ) k).spec_DrawFormat c (fun a b => κ (a, b))) fun r => r.1.size ≤ 1000 ∧ r.2.length ≤ 11 ∧ ∀ x, x ∈ r.2 → x.2.2.size ≤ 1000 := by
  refine st_spec_DrawFormat ?_
  unfold B_spec_DrawFormat
  refine Tot.bind3 (l1New_tot hc) fun c' p s q => ?_
  obtain ⟨e, q⟩ := q
  have e : c' = c := e
  subst e
  refine Tot.bind3 (l9format_tot q) fun f p1 s1 q1 => Tot.bind3 (l1Below_tot q1.2) fun a p2 s2 q2 => ?_
  have h2 := q2.1.2 (by omega)
  dsimp only at h2
  exact DrawFormat5_tot q1.1 7 a [] p2 s2 (by omega) (by decide) (fun x hx => by cases hx) q2.2
end
end Go.Proofs.YtbakkcdanoopgaaGreatDoor.Ev.Pr
set_option linter.unusedVariables false
namespace Go.Proofs.YtbakkcdanoopgaaGreatDoor.Ev.Pr
open Go Go.RowKit Go.Proofs.YtbakkcdanoopgaaGreatDoorW.PrintWords Go.Proofs.YtbakkcdanoopgaaGreatDoorW.PrintMore Kd Go.Proofs.YtbakkcdanoopgaaGreatDoor.Ev Go.Proofs.YtbakkcdanoopgaaGreatDoor.Pure Go.Proofs.YtbakkcdanoopgaaGreatDoor.Q
theorem outL_more : ∀ (l : List It) (cs ds : List Tt38) (acc : ByteArray), nPl l ≤ cs.length → outL l (cs ++ ds) acc = outL l cs acc
  | [], _, _, _, _ => rfl
  | .ch b :: l, cs, ds, acc, h => outL_more l cs ds _ h
  | .pl k f v :: l, [], ds, acc, h => by simp [nPl] at h
  | .pl k f v :: l, c :: cs, ds, acc, h => outL_more l cs ds _ (by simpa [nPl] using h)
theorem finV_code (x : ByteArray) : (finV x = (bs [], 3)) ∨ (finV x = (x, 0) ∧ x.size ≤ 500) := by
  unfold finV
  by_cases h : 500 < x.size
  · exact .inl (if_pos h)
  · exact .inr ⟨if_neg h, by omega⟩
theorem zero_ok : okC 0 0 (bs []) = true := by decide
theorem fmtV_cases (s : ByteArray) (cells : List Tt38) :
    ((partsV s).2.2 = false ∧ fmtV s cells = (bs [], 1)) ∨ ((partsV s).2.2 = true ∧ (∃ e, e ≠ 0 ∧ fmtV s cells = (bs [], e))) ∨
    ((partsV s).2.2 = true ∧ ∃ x, fmtV s cells = (x, 0) ∧ x.size ≤ 500 ∧ (partsV s).2.1.length ≤ cells.length ∧ fmtV s (cells ++ [(0, 0, bs [])]) = (x, 0)) := by
  unfold partsV fmtV
  by_cases hs : 500 < s.size
  · rw [if_pos hs, if_pos hs]
    exact .inl ⟨rfl, rfl⟩
  · rw [if_neg hs, if_neg hs, if_neg hs]
    cases hl : items s s.size 0 with
    | none => exact .inl ⟨rfl, rfl⟩
    | some l =>
      right
      have eg : grpO (some l) [] [] [] = (txs l [], pls l, true) := by
        show grp l [] [] [] = _
        rw [grp_eq]; rfl
      rw [eg]
      dsimp only
      by_cases hok : cells.all (fun c => okC c.1 c.2.1 c.2.2) = true
      · rw [if_pos hok]
        by_cases hn : cells.length < nPl l
        · rw [if_pos hn]
          exact .inl ⟨rfl, 2, by decide, rfl⟩
        · rw [if_neg hn]
          have hok2 : (cells ++ [((0 : Int), (0 : Int), bs [])]).all (fun c => okC c.1 c.2.1 c.2.2) = true := by
            rw [List.all_append, hok]
            simp [zero_ok]
          rw [if_pos hok2, if_neg (by rw [List.length_append]; omega), outL_more l cells _ _ (by omega)]
          rcases finV_code (outL l cells (bs [])) with h | ⟨h, h2⟩
          · rw [h]
            exact .inl ⟨rfl, 3, by decide, rfl⟩
          · rw [h]
            exact .inr ⟨rfl, _, rfl, h2, by rw [pls_len]; omega, rfl⟩
      · rw [if_neg hok]
        exact .inl ⟨rfl, 1, by decide, rfl⟩
end Go.Proofs.YtbakkcdanoopgaaGreatDoor.Ev.Pr
set_option linter.unusedVariables false
namespace Go.Proofs.YtbakkcdanoopgaaGreatDoor.Ev.Pr
open Go Go.RowKit Go.Proofs.YtbakkcdanoopgaaGreatDoorW.PrintWords Go.Proofs.YtbakkcdanoopgaaGreatDoorW.PrintMore Kd Go.Proofs.YtbakkcdanoopgaaGreatDoor.Ev Go.Proofs.YtbakkcdanoopgaaGreatDoor.Pure Go.Proofs.YtbakkcdanoopgaaGreatDoor.Q
section
variable {ρ : Type} {s : ByteArray} {cells : List Tt38}
theorem implPlaces_tot : Tot (fun f κ => (tb (ρ := ρ) f).impl_Places s (fun a b => κ (a, b))) fun r => r = (((partsV s).2.1.length : Int), (partsV s).2.2) := by
  refine st_impl_Places ?_
  unfold B_impl_Places
  refine Tot.bind3 implParts_tot fun a b c h => Tot.ret _ (fun _ _ => rfl) ?_
  have h : (a, b, c) = partsV s := h
  rw [← h]
theorem kinds4_tot {P : List Tt87} (hP : P.length ≤ 1000) : ∀ (n i : Nat) (acc : List Int), i + n = P.length → acc.length = i → Tot (fun f κ => (tb (ρ := ρ) f).impl_PlaceKinds_s4 (P.length : Int) (i : Int) P acc (fun a => κ a)) fun r => r.size = P.length
  | n, i, acc, hi, ha => by
    refine st_impl_PlaceKinds_s4 ?_
    unfold B_impl_PlaceKinds_s4
    refine Tot.bif (fun h => ?_) (fun h => ?_)
    · have h := of_decide_eq_true h
      cases n with
      | zero => omega
      | succ n =>
        rw [show w ((i : Int) + 1) = ((i + 1 : Nat) : Int) by rw [w_in (by omega)]; omega]
        exact Tot.iteT (by omega) (Tot.iteT h (Tot.iteT (by omega) (kinds4_tot hP n (i + 1) _ (by omega) (by simp; omega))))
    · have h := of_decide_eq_false h
      refine Tot.ret _ (fun _ _ => rfl) ?_
      rw [strOfNums_size]
      omega
theorem parts_len (s : ByteArray) : (partsV s).2.1.length ≤ 1000 := by
  unfold partsV
  by_cases hs : 500 < s.size
  · rw [if_pos hs]; simp
  · rw [if_neg hs]
    cases hl : items s s.size 0 with
    | none => simp [grpO]
    | some l =>
      have eg : grpO (some l) [] [] [] = (txs l [], pls l, true) := by
        show grp l [] [] [] = _
        rw [grp_eq]; rfl
      rw [eg]
      have := items_len s.size 0 l hl
      have := nPl_le l
      show (pls l).length ≤ 1000
      rw [pls_len]
      omega
theorem kinds_tot : Tot (fun f κ => (tb (ρ := ρ) f).impl_PlaceKinds s (fun a => κ a)) fun r => r.size = (partsV s).2.1.length := by
  refine st_impl_PlaceKinds ?_
  unfold B_impl_PlaceKinds
  refine Tot.bind3 implParts_tot fun a b c h => ?_
  have h : (a, b, c) = partsV s := h
  have hb : b = (partsV s).2.1 := by rw [← h]
  subst hb
  exact kinds4_tot (parts_len s) (partsV s).2.1.length 0 [] (by omega) rfl
theorem forms_tot : Tot (fun f κ => (tb (ρ := ρ) f).laws_forms (fun a => κ a)) fun r => r = true :=
  ⟨60, true, rfl, fun k hk κ => by
    obtain ⟨j, rfl⟩ : ∃ j, k = j + 60 := ⟨k - 60, by omega⟩
    kernel_rfl⟩
end
end Go.Proofs.YtbakkcdanoopgaaGreatDoor.Ev.Pr
set_option linter.unusedVariables false
namespace Go.Proofs.YtbakkcdanoopgaaGreatDoor.Ev.Pr
open Go Go.RowKit Go.Proofs.YtbakkcdanoopgaaGreatDoorW.PrintWords Go.Proofs.YtbakkcdanoopgaaGreatDoorW.PrintMore Kd Go.Proofs.YtbakkcdanoopgaaGreatDoor.Ev Go.Proofs.YtbakkcdanoopgaaGreatDoor.Pure Go.Proofs.YtbakkcdanoopgaaGreatDoor.Q
section
variable {ρ : Type}
theorem FnFormats_tot {c : List Int} (hc : c.length ≤ 9223372036854775807) : Tot (fun k κ => (tb (ρ := ρ) k).laws_FnFormats c (fun a => κ a)) fun r => r = true := by
  refine st_laws_FnFormats ?_
  unfold B_laws_FnFormats
  refine Tot.bind2 (DrawFormat_tot hc) fun s l hd => ?_
  obtain ⟨hs, hl, hz⟩ := hd
  dsimp only at hs hl hz
  have hz' : ∀ c, c ∈ l → c.2.2.size ≤ 140737488355328 := fun c hc => Nat.le_trans (hz c hc) (by decide)
  refine Tot.bind2 (implFormat_tot hz' (by omega)) fun x e hx => Tot.bind2 (specFormat_tot hz' (by omega)) fun y d hy => Tot.bind2 implPlaces_tot fun n ok hn => ?_
  have hx : (x, e) = fmtV s l := hx
  have hy : (y, d) = fmtV s l := hy
  have hn : (n, ok) = (((partsV s).2.1.length : Int), (partsV s).2.2) := hn
  have exy : (y, d) = (x, e) := hy.trans hx.symm
  simp only [Prod.mk.injEq] at exy hn
  obtain ⟨rfl, rfl⟩ := exy
  obtain ⟨rfl, rfl⟩ := hn
  refine Tot.bif (fun h => absurd rfl (bne_iff_ne.mp h)) (fun _ => Tot.bind1 kinds_tot fun ks hk => ?_)
  have hk : ks.size = (partsV s).2.1.length := hk
  refine Tot.bif (fun h => absurd (by rw [hk]) (bne_iff_ne.mp h)) (fun _ => ?_)
  rcases fmtV_cases s l with ⟨h1, h2⟩ | ⟨h1, e', h3, h2⟩ | ⟨h1, x', h2, h3, h4, h5⟩
  · rw [h2] at hx
    simp only [Prod.mk.injEq] at hx
    obtain ⟨rfl, rfl⟩ := hx
    refine Tot.bif (fun _ => Tot.bif (fun _ => ?_) (fun h => absurd h (by rw [beq_self_list]; decide))) (fun h => absurd h (by decide))
    exact Tot.bif (fun _ => forms_tot) (fun _ => Tot.bif (fun _ => forms_tot) (fun h => absurd h (by decide)))
  · rw [h2] at hx
    simp only [Prod.mk.injEq] at hx
    obtain ⟨rfl, rfl⟩ := hx
    refine Tot.bif (fun _ => Tot.bif (fun _ => ?_) (fun h => absurd h (by rw [beq_self_list]; decide))) (fun h => absurd (by simpa using h) h3)
    exact Tot.bif (fun _ => forms_tot) (fun h => by rw [h1] at h; cases h)
  · rw [h2] at hx
    simp only [Prod.mk.injEq] at hx
    obtain ⟨rfl, rfl⟩ := hx
    refine Tot.bif (fun h => absurd h (by decide)) (fun _ => Tot.iteT (by omega) (Tot.iteT (by rw [List.nil_append]; omega) ?_))
    rw [List.nil_append]
    refine Tot.bind2 (implFormat_tot (fun c hc => ?_) (by rw [List.length_append]; simp; omega)) fun z g hg => ?_
    · rcases List.mem_append.mp hc with hc | hc
      · exact hz' c hc
      · rw [List.mem_singleton.mp hc]; decide
    have hg : (z, g) = fmtV s (l ++ [(0, 0, bs [])]) := hg
    rw [h5] at hg
    simp only [Prod.mk.injEq] at hg
    obtain ⟨rfl, rfl⟩ := hg
    refine Tot.bif (fun _ => Tot.bif (fun _ => Tot.bif (fun _ => Tot.bif (fun _ => forms_tot) (fun h => ?_)) (fun h => ?_)) (fun h => ?_)) (fun h => absurd h (by decide))
    · exact absurd (of_decide_eq_false h) (by omega)
    · exact absurd (of_decide_eq_false h) (by omega)
    · rw [beq_self_list] at h; cases h
end
end Go.Proofs.YtbakkcdanoopgaaGreatDoor.Ev.Pr
set_option linter.unusedVariables false
namespace Go.Proofs.YtbakkcdanoopgaaGreatDoor.Q
open Go Go.RowKit Go.Proofs.YtbakkcdanoopgaaGreatDoor.Ev Go.Proofs.YtbakkcdanoopgaaGreatDoorW.PrintWords Go.Proofs.YtbakkcdanoopgaaGreatDoorW.PrintMore
open Ev.Pr (FTabs BgF)
noncomputable def laws_FnFormats.f (k : Nat) (l0 : List Int) : Option Bool := (Ev.Pr.tb k).laws_FnFormats l0 (fun a => some a)
theorem laws_FnFormats.calls (k : Nat) (A0 : Option Addr) (c0 : Nat) (l0 : List Int) (r : Bool) (w : World) (hr0 : Kd.C (Kd.int .u8) w A0 l0.length l0) (hc0 : l0.length ≤ c0) (h : laws_FnFormats.f k l0 = some r) (hT : FTabs w) :
    Calls Tryz.prog 4 #[.slice A0 l0.length c0] w fun e w' => e = .returned (.bool r) ∧ Below w.heap.size w w' := by
  obtain ⟨o1, o2, h1, h2⟩ := bg_of hT
  letI : Bgs := ⟨[(3, o1), (0, o2)]⟩
  haveI : BgF := ⟨fun {E W} hB => ftabs_two hT ((hB _ List.mem_cons_self).1.trans h1.symm) ((hB _ (List.mem_cons_of_mem _ List.mem_cons_self)).1.trans h2.symm)⟩
  have hs := (Ev.Pr.sound (ρ := Bool) k).1 4 0 [⟨.sl 5 (.int .u8), l0⟩] outB r h
  exact law_calls hs (ps := [.sl 5 (.int .u8)]) (args := [.sl none 5 (.int .u8) l0]) (by kernel_rfl) (by simp [Pt.builds, Pt.build]) (vals := [.slice A0 l0.length c0]) ⟨lent_row (t := .int .u8) (e := 5) (Kd.heap_int .u8) hr0 hc0 0, trivial⟩ fun x hx => by
    rcases List.mem_cons.mp hx with rfl | hx
    · exact ⟨h1, .inl rfl⟩
    · rw [List.mem_singleton.mp hx]
      exact ⟨h2, .inl rfl⟩
end Go.Proofs.YtbakkcdanoopgaaGreatDoor.Q
set_option linter.unusedVariables false
namespace Go.Proofs.YtbakkcdanoopgaaGreatDoor.Pure
open Go Go.RowKit
theorem FnFormats (l0 : List Int) (hm : l0.length ≤ maxLen) (_ : l0.length * 1 ≤ 140737488351232) (_ : ∀ n ∈ l0, (Lit.int IntKind.u8 n).wf = true) : ∃ k, Q.laws_FnFormats.f k l0 = some true := by
  obtain ⟨K, a, ha, h⟩ := Ev.Pr.FnFormats_tot (ρ := Bool) (c := l0) (Nat.le_trans hm (by decide))
  have ha : a = true := ha
  subst ha
  exact ⟨K, h K (Nat.le_refl _) some⟩
end Go.Proofs.YtbakkcdanoopgaaGreatDoor.Pure
namespace Go.Proofs.YtbakkcdanoopgaaGreatDoor.fnFormats
open Go.ChangeShapes Go.WideShapes Go.ChangeAt Go.RowKit
open Go.ChangeMaps (open_string shut_string)
open Go.Lib
open Go.Proofs.YtbakkcdanoopgaaGreatDoorW.PrintWords
set_option linter.unusedVariables false
theorem own : ownKnob Tryz.prog.godebug = none := by kernel_rfl
theorem laidOut : laidOutB Tryz.prog = true := by kernel_rfl
def IsRow (k : IntKind) (w : World) (a : Option Addr) (len cap : Nat) (zs : List Int) : Prop :=
  (a = none ∧ len = 0 ∧ cap = 0 ∧ zs = []) ∨
  ∃ x, a = some x ∧ len ≤ cap ∧ cap ≤ maxLen ∧ zs.length = cap ∧ (∀ i, i < zs.length → w.cell? (x.add i) = some (.int k (zs.getD i 0))) ∧ ∀ n ∈ zs, (Lit.int k n).wf = true
set_option maxRecDepth 100000 in
theorem lifted (os : Os) (started : os.Started) (H : Type) (enc : TypeId × Value → H) :
    ReturnsInHanded {} Tryz.checked os 4 .any (fun w args => (Rows.fnFormatsSpec.pre enc Tryz.prog Tryz.f4 [] false w args ∧ laidMetH Tryz.prog Rows.fnFormatsRow.laid w) ∧ sizedMet enc Tryz.prog Tryz.f4 (OpenSpec.ofChange Rows.fnFormatsSpec) false w args)
      (Rows.fnFormatsSpec.post enc Tryz.prog Tryz.f4 false true false false) := by
  refine returnsInHanded_of_change_and_shaped_ytbakkcdanoopgaagreatdoor (C := Tryz.checked) (X := fun w _ => laidMetH Tryz.prog Rows.fnFormatsRow.laid w) (fun _ _ _ hh h => h.of_heap hh) own started (by kernel_rfl) Tryz.func4
    (ChangeSpec.witness_shaped (enc := enc) (C := Tryz.checked) (os := os) (X := fun w _ => laidMetH Tryz.prog Rows.fnFormatsRow.laid w) false (World.laidAll Tryz.prog os Rows.fnFormatsRow.laid) #[.slice none 0 0] 8 (World.laidAll_os _ _ _)
      (World.shaped_of_ZipB (by kernel_rfl) (by kernel_rfl)) (by kernel_rfl) (by kernel_rfl) (by kernel_rfl)
      (by rw [MakeChecks.laidMetH_plain _ _ _ (by kernel_rfl)]; exact laidMet_laidAll _ (by kernel_rfl) (by kernel_rfl))) ?_
  intro W base args ds gs before hval0 hW hcnd hsz0 hL hS _
  have hsz : (DataW.weightsEach Tryz.prog (Tryz.f4.params.toList ++ Rows.fnFormatsSpec.plain.varTypes Tryz.prog) (ds ++ gs)).all (· ≤ reachBytes) = true := hsz0
  have hval : ∀ (j : Nat) t v, Tryz.f4.params[j]? = some t → args[j]? = some v → Value.okWide Tryz.prog W .any base t v := hval0
  have hW' := hW
  obtain ⟨p, q, hA0, hV, rfl, hfz, hnd⟩ := hW
  have hA : DataW.TrodAll enc Tryz.prog W 0 (fun _ => true) true Tryz.f4.params.toList args.toList ds p := hA0
  rw [Tryz.params4] at hA hval hsz
  obtain ⟨v0, vs0, d0, ds0, p0, q0, hargs, rfl, rfl, h0, r0⟩ := trodAll_cons hA
  obtain ⟨rfl, rfl, rfl⟩ := trodAll_nil r0
  obtain rfl : args = #[v0] := by cases args; simp_all
  obtain ⟨rfl, rfl⟩ := trodVars_none hV
  have k0 := h0
  have lt0 : ∀ x ∈ p0, x.block < W.heap.size := by obtain ⟨m, hm⟩ := k0; exact DataW.trod_lt m _ _ _ hm
  obtain ⟨a0, len0, cap0, rfl⟩ := okWide_slice Tryz.underlying30 (hval 0 30 v0 rfl rfl)
  obtain ⟨z0, w0⟩ : ∃ zs, IsRow .u8 W a0 len0 cap0 zs := by
    obtain ⟨fuel, hf⟩ := h0
    rcases open_ints Tryz.underlying30 Tryz.underlying5 (by kernel_rfl) hf with ⟨hcs, _⟩ | ⟨x, l, c, zs, hcs, _, hl, hm, hz, _, hcell, hwz⟩
    · simp [Value.cells] at hcs
      obtain ⟨rfl, rfl, rfl⟩ := hcs
      exact ⟨[], .inl ⟨rfl, rfl, rfl, rfl⟩⟩
    · simp [Value.cells] at hcs
      obtain ⟨rfl, rfl, rfl⟩ := hcs
      exact ⟨zs, .inr ⟨_, rfl, hl, hm, by simpa using hz, hcell, hwz⟩⟩
  have y0 : len0 * 1 ≤ 140737488351232 := Go.Proofs.YtbakkcdanoopgaaGreatDoorW.PrintWords.sized_ints hsz (j := 0) (t := 30) rfl rfl Tryz.underlying30 Tryz.underlying5 (by kernel_rfl) (by kernel_rfl) h0
  obtain ⟨l0, rfl, hr0, hm0, hw0, hc0⟩ := ReadsInt.ofRowC w0
  clear hA0 hval0 hsz0 hsz
  rw [MakeChecks.laidMetH_plain _ _ _ (by kernel_rfl)] at hL
  have hTabs := Q.ftabs_of_laid hL (.tail _ (.tail _ (.head _))) (.tail _ (.tail _ (.tail _ (.tail _ (.tail _ (.head _))))))
  obtain ⟨k, hk⟩ := Pure.FnFormats l0 hm0 y0 hw0
  refine (Q.laws_FnFormats.calls k _ _ l0 true W (Kd.C_of_reads (d := (0 : Int)) (h1 := fun _ => rfl) hr0) hc0 hk hTabs).mono fun e W' ⟨he, bel⟩ => ?_
  subst he
  exact ⟨_, rfl, _, _, _, [], _, [], hW', trodAll_mk1 (shut_bool Tryz.underlying4 _), (trodAll_cons_mk (Below.trod laidOut (by kernel_rfl) (of_decide_eq_true (by kernel_rfl)) k0 bel lt0) trodAll_mk0), rfl, bel.frame _, fun h => by cases h⟩
set_option maxHeartbeats 4000000 in
theorem joined : joinedFacts Tryz.checked.prog 4 Tryz.f4 Rows.fnFormatsSpec Rows.fnFormatsRow = true := by
  unfold joinedFacts
  simp only [Bool.and_eq_true, beq_iff_eq]
  repeat' apply And.intro
  all_goals (as_aux_lemma => kernel_rfl)
set_option maxHeartbeats 4000000 in
theorem over : Rows.fnFormatsRow.holds Tryz.pinned (OpenSpec.ofChange Rows.fnFormatsSpec) :=
  OpenClaim.holds_of_wide 4 Tryz.f4 rfl rfl rfl rfl rfl rfl rfl ⟨rfl, rfl, rfl, rfl, rfl⟩ rfl rfl rfl rfl rfl (by as_aux_lemma => kernel_rfl) Tryz.func4 joined
    (of_decide_eq_true (by kernel_rfl)) (by unfold Func.isWrapper; first | (rw [if_pos (by decide +kernel)]; kernel_rfl) | (rw [if_neg (by decide +kernel)]; exact ⟨rfl, rfl⟩))
    (fun os started H enc _ => lifted os started H enc)
set_option maxHeartbeats 4000000 in
theorem proved : Rows.FnFormatsCardSaid :=
  Claim7.holds_tied_plain_at .later [] [.data, .data, .data, .data, .sentinel, .sentinel, .pinned] true (true, "a8e1b05b35f3381f1a29ee5fcd8df613f50827c93e85d9167fbbd478a0455204") true over (fun _ h => by cases h) (by as_aux_lemma => kernel_rfl) (fun _ h => by cases h) fnFormats_row_tie rfl ⟨rfl, rfl⟩ (by as_aux_lemma => kernel_rfl) rfl
    (fun f fn hf hfn => by
      obtain rfl : f = 4 := Option.some.inj ((show Tryz.prog.funcNamed Rows.fnFormatsRow.func = some 4 by as_aux_lemma => kernel_rfl).symm.trans hf) |>.symm
      obtain rfl : fn = Tryz.f4 := (Option.some.inj (Tryz.func4.symm.trans hfn)).symm
      exact ⟨by as_aux_lemma => kernel_rfl, fun j t ht => by
        rw [Tryz.params4] at ht
        have hm : t ∈ [30] := by simpa using Array.mem_of_getElem? ht
        have hall : ([30].all fun u => !Tryz.prog.wantsStandIn u) = true := by as_aux_lemma => kernel_rfl
        exact (show Tryz.prog.wantsStandIn t = false by simpa using List.all_eq_true.1 hall t hm)⟩)
    (by as_aux_lemma => kernel_rfl)
#print axioms proved
end Go.Proofs.YtbakkcdanoopgaaGreatDoor.fnFormats
namespace Go.Proofs.YtbakkcdanoopgaaGreatDoor
theorem fnFormats_holds : Rows.FnFormatsCardSaid := fnFormats.proved
end Go.Proofs.YtbakkcdanoopgaaGreatDoor
