/- The contract of the reference's MarksIn: it tells whether each mark of the first list is in the second; conditions: what the two slices hold. -/
import Derived.Test.YtdmganhmgbkliaaQx0
import Derived.Test.YtdmganhmgbkliaaLex
namespace Go.Proofs.Ytdmganhmgbkliaa.Q
open Go.RowKit Go.Proofs.YtdmganhmgbkliaaW.PrintWords Go.Proofs.YtdmganhmgbkliaaW.PrintLast Go.Proofs.YtdmganhmgbkliaaW.PrintMore

/-- The reference's test of two marks. -/
def fits33 (x y : S33) : Bool := x.f0.toList == y.f0.toList && (x.f1.toList == y.f1.toList && (x.f2 == y.f2 && (decide (0 ≤ x.f3) && (decide (x.f3 ≤ 15) && (decide (0 ≤ y.f3) && (decide (y.f3 ≤ 15) && (Go.bits .or .i64 x.f3 y.f3 == y.f3)))))))

def spec_MarksIn.f (l0 l1 : List S33) : Option Bool := some (l0.all fun x => l1.any (fits33 x))

/-- A mark's cells at an address. -/
structure CellsAt (w : World) (ad : Addr) (x : S33) : Prop where
  h0 : w.cell? ad = some (.string x.f0)
  h1 : w.cell? ⟨ad.block, ad.off + 1, none⟩ = some (.string x.f1)
  h2 : w.cell? ⟨ad.block, ad.off + 2, none⟩ = some (.int .i64 x.f2)
  h3 : w.cell? ⟨ad.block, ad.off + 3, none⟩ = some (.int .i64 x.f3)

theorem cellsAt {w : World} {A : Option Addr} {l : List S33} (h : Kd.C k33 w A l.length l) (i : Nat) (hi : i < l.length) : ∃ ad, A = some ad ∧ CellsAt w (ad.add (i * 4)) l[i] := by
  obtain ⟨ad, e, h0, h1, h2, h3⟩ := at_T33 h (i : Int) (by omega) (by omega)
  have hx : rd_T33 l (i : Int) = l[i] := by simp [rd_T33, List.getD_eq_getElem?_getD, List.getElem?_eq_getElem hi]
  rw [hx] at h0 h1 h2 h3
  simp only [Int.toNat_natCast] at h0 h1 h2 h3
  exact ⟨ad, e, h0, h1, h2, h3⟩

theorem lex8 : Region.lexB .any (opsOf Try.f6 8) = true := lexB_of_quick (by kernel_rfl) (by kernel_rfl)

set_option maxHeartbeats 4000000 in
set_option maxRecDepth 100000 in
theorem spec_MarksIn.calls (A0 : Option Addr) (c0 : Nat) (l0 : List (S33)) (A1 : Option Addr) (c1 : Nat) (l1 : List (S33)) (r : Bool) (w : World) (hr0 : Kd.C k33 w A0 l0.length l0) (_hc0 : l0.length ≤ c0) (hr1 : Kd.C k33 w A1 l1.length l1) (_hc1 : l1.length ≤ c1) (h : spec_MarksIn.f l0 l1 = some r) :
    Calls Try.prog 6 #[.slice A0 l0.length c0, .slice A1 l1.length c1] w fun e w' => e = .returned (.bool r) ∧ Drawn0 w w' := by
  obtain rfl := Option.some.inj h
  clear h
  have n0 : l0.length ≤ 9223372036854775807 := hr0.2.1
  have n1 : l1.length ≤ 9223372036854775807 := hr1.2.1
  have C0 := Aside0.mk (cellsAt hr0)
  have C1 := Aside0.mk (cellsAt hr1)
  clear hr0 hr1
  go_enter Try.func6, Try.ntmps6
  go_wp2
  repeat (go_quiet (fail); try go_wp2)
  go_loopg [5] l0.length (fun gg v5 w' => ∃ kk : Nat, v5 = .int .i64 kk ∧ kk ≤ l0.length ∧ l0.length - kk ≤ gg ∧ Aside0 ((l0.take kk).all (fun x => l1.any (fits33 x)) = true) ∧ Drawn0 w w')
  case atStart => exact ⟨0, rfl, by omega, by omega, ⟨rfl⟩, by repeat (first | exact Drawn0.refl _ | apply Drawn0.step)⟩
  case round =>
    obtain ⟨kk, rfl, hkk, hg, HI, ⟨m1, rfl⟩⟩ := hrel
    by_cases hlt : kk < l0.length
    · have hlt0 : (kk : Int) < (l0.length : Int) := by omega
      obtain ⟨ad0, e0, cx⟩ := C0.out kk hlt
      cases e0
      obtain ⟨x0, x1, x2, x3⟩ := cx
      obtain ⟨x, hx⟩ : ∃ x, x = l0[kk] := ⟨_, rfl⟩
      have HX : Aside0 ((l1.any (fits33 l0[kk])) = l1.any (fits33 x)) := ⟨by rw [hx]⟩
      rw [← hx] at x0 x1 x2 x3
      clear hx
      go_wp2
      repeat (go_quiet (fail); try go_wp2)
      go_loopg [6, 7] l1.length (fun g2 v6 v7 w' => ∃ (b : Bool) (jj : Nat), v6 = .bool b ∧ v7 = .int .i64 jj ∧ jj ≤ l1.length ∧ l1.length - jj ≤ g2 ∧ Aside0 (b = (l1.take jj).any (fits33 x)) ∧ Drawn0 w w')
      case atStart => exact ⟨false, 0, rfl, rfl, by omega, by omega, ⟨rfl⟩, by repeat (first | exact Drawn0.refl _ | apply Drawn0.step)⟩
      case round =>
        obtain ⟨b, jj, rfl, rfl, hjj, hg2, HJ, ⟨m2, rfl⟩⟩ := hrel
        by_cases hlt2 : jj < l1.length
        · have hlt20 : (jj : Int) < (l1.length : Int) := by omega
          have hsn : Aside0 ((l1.take (jj + 1)).any (fits33 x) = (b || fits33 x l1[jj])) := ⟨by rw [List.take_succ_eq_append_getElem hlt2, List.any_append, HJ.out]; simp⟩
          obtain ⟨ad1, e1, cy⟩ := C1.out jj hlt2
          cases e1
          obtain ⟨y0, y1, y2, y3⟩ := cy
          generalize l1[jj] = y at hsn y0 y1 y2 y3
          cases b with
          | true =>
            go_wp2
            (refine wp_region_quiet_lit (by kernel_rfl) (by first | exact lex8) ?_; simp only [List.append_eq, List.cons_append, List.nil_append]; repeat (go_big_quiet_step (fail)))
            refine wpQuiet_nil ?_
            intro _ hw'
            obtain ⟨nq, hw''⟩ := hw'
            subst hw''
            go_wp2
            go_roundg (l1.length - (jj + 1))
            case measure => omega
            case rel => exact ⟨_, jj + 1, rfl, by go_num, by omega, by omega, ⟨by rw [hsn.out] <;> rfl⟩, by repeat (first | exact Drawn0.refl _ | apply Drawn0.step)⟩
          | false =>
            by_cases c0 : x.f0.toList = y.f0.toList
            · have c0b : (x.f0.toList == y.f0.toList) = true := beq_iff_eq.mpr c0
              by_cases c1 : x.f1.toList = y.f1.toList
              · have c1b : (x.f1.toList == y.f1.toList) = true := beq_iff_eq.mpr c1
                by_cases c2 : x.f2 = y.f2
                · have c2b : (x.f2 == y.f2) = true := beq_iff_eq.mpr c2
                  by_cases c3 : 0 ≤ x.f3
                  · have c3b : decide (0 ≤ x.f3) = true := decide_eq_true c3
                    by_cases c4 : x.f3 ≤ 15
                    · have c4b : decide (x.f3 ≤ 15) = true := decide_eq_true c4
                      by_cases c5 : 0 ≤ y.f3
                      · have c5b : decide (0 ≤ y.f3) = true := decide_eq_true c5
                        by_cases c6 : y.f3 ≤ 15
                        · have c6b : decide (y.f3 ≤ 15) = true := decide_eq_true c6
                          by_cases c7 : Go.bits .or .i64 x.f3 y.f3 = y.f3
                          · have c7b : (Go.bits .or .i64 x.f3 y.f3 == y.f3) = true := beq_iff_eq.mpr c7
                            have hfin : fits33 x y = true := by simp [fits33, c0b, c1b, c2b, c3, c4, c5, c6, c7b]
                            have HF := Aside0.mk hfin
                            clear hfin c0 c1 c2 c3 c4 c5 c6 c7
                            go_wp2
                            (refine wp_region_quiet_lit (by kernel_rfl) (by first | exact lex8) ?_; simp only [List.append_eq, List.cons_append, List.nil_append]; repeat (go_big_quiet_step (fail)))
                            refine wpQuiet_nil ?_
                            intro _ hw'
                            obtain ⟨nq, hw''⟩ := hw'
                            subst hw''
                            go_wp2
                            go_roundg (l1.length - (jj + 1))
                            case measure => omega
                            case rel => exact ⟨_, jj + 1, rfl, by go_num, by omega, by omega, ⟨by rw [hsn.out, HF.out] <;> rfl⟩, by repeat (first | exact Drawn0.refl _ | apply Drawn0.step)⟩
                          · have c7b : (Go.bits .or .i64 x.f3 y.f3 == y.f3) = false := beq_eq_false_iff_ne.mpr c7
                            have hfin : fits33 x y = false := by simp [fits33, c0b, c1b, c2b, c3, c4, c5, c6, c7b]
                            have HF := Aside0.mk hfin
                            clear hfin c0 c1 c2 c3 c4 c5 c6 c7
                            go_wp2
                            (refine wp_region_quiet_lit (by kernel_rfl) (by first | exact lex8) ?_; simp only [List.append_eq, List.cons_append, List.nil_append]; repeat (go_big_quiet_step (fail)))
                            refine wpQuiet_nil ?_
                            intro _ hw'
                            obtain ⟨nq, hw''⟩ := hw'
                            subst hw''
                            go_wp2
                            go_roundg (l1.length - (jj + 1))
                            case measure => omega
                            case rel => exact ⟨_, jj + 1, rfl, by go_num, by omega, by omega, ⟨by rw [hsn.out, HF.out] <;> rfl⟩, by repeat (first | exact Drawn0.refl _ | apply Drawn0.step)⟩
                        · have c6b : decide (y.f3 ≤ 15) = false := decide_eq_false c6
                          have hfin : fits33 x y = false := by simp [fits33, c0b, c1b, c2b, c3, c4, c5, c6]
                          have HF := Aside0.mk hfin
                          clear hfin c0 c1 c2 c3 c4 c5 c6
                          go_wp2
                          (refine wp_region_quiet_lit (by kernel_rfl) (by first | exact lex8) ?_; simp only [List.append_eq, List.cons_append, List.nil_append]; repeat (go_big_quiet_step (fail)))
                          refine wpQuiet_nil ?_
                          intro _ hw'
                          obtain ⟨nq, hw''⟩ := hw'
                          subst hw''
                          go_wp2
                          go_roundg (l1.length - (jj + 1))
                          case measure => omega
                          case rel => exact ⟨_, jj + 1, rfl, by go_num, by omega, by omega, ⟨by rw [hsn.out, HF.out] <;> rfl⟩, by repeat (first | exact Drawn0.refl _ | apply Drawn0.step)⟩
                      · have c5b : decide (0 ≤ y.f3) = false := decide_eq_false c5
                        have hfin : fits33 x y = false := by simp [fits33, c0b, c1b, c2b, c3, c4, c5]
                        have HF := Aside0.mk hfin
                        clear hfin c0 c1 c2 c3 c4 c5
                        go_wp2
                        (refine wp_region_quiet_lit (by kernel_rfl) (by first | exact lex8) ?_; simp only [List.append_eq, List.cons_append, List.nil_append]; repeat (go_big_quiet_step (fail)))
                        refine wpQuiet_nil ?_
                        intro _ hw'
                        obtain ⟨nq, hw''⟩ := hw'
                        subst hw''
                        go_wp2
                        go_roundg (l1.length - (jj + 1))
                        case measure => omega
                        case rel => exact ⟨_, jj + 1, rfl, by go_num, by omega, by omega, ⟨by rw [hsn.out, HF.out] <;> rfl⟩, by repeat (first | exact Drawn0.refl _ | apply Drawn0.step)⟩
                    · have c4b : decide (x.f3 ≤ 15) = false := decide_eq_false c4
                      have hfin : fits33 x y = false := by simp [fits33, c0b, c1b, c2b, c3, c4]
                      have HF := Aside0.mk hfin
                      clear hfin c0 c1 c2 c3 c4
                      go_wp2
                      (refine wp_region_quiet_lit (by kernel_rfl) (by first | exact lex8) ?_; simp only [List.append_eq, List.cons_append, List.nil_append]; repeat (go_big_quiet_step (fail)))
                      refine wpQuiet_nil ?_
                      intro _ hw'
                      obtain ⟨nq, hw''⟩ := hw'
                      subst hw''
                      go_wp2
                      go_roundg (l1.length - (jj + 1))
                      case measure => omega
                      case rel => exact ⟨_, jj + 1, rfl, by go_num, by omega, by omega, ⟨by rw [hsn.out, HF.out] <;> rfl⟩, by repeat (first | exact Drawn0.refl _ | apply Drawn0.step)⟩
                  · have c3b : decide (0 ≤ x.f3) = false := decide_eq_false c3
                    have hfin : fits33 x y = false := by simp [fits33, c0b, c1b, c2b, c3]
                    have HF := Aside0.mk hfin
                    clear hfin c0 c1 c2 c3
                    go_wp2
                    (refine wp_region_quiet_lit (by kernel_rfl) (by first | exact lex8) ?_; simp only [List.append_eq, List.cons_append, List.nil_append]; repeat (go_big_quiet_step (fail)))
                    refine wpQuiet_nil ?_
                    intro _ hw'
                    obtain ⟨nq, hw''⟩ := hw'
                    subst hw''
                    go_wp2
                    go_roundg (l1.length - (jj + 1))
                    case measure => omega
                    case rel => exact ⟨_, jj + 1, rfl, by go_num, by omega, by omega, ⟨by rw [hsn.out, HF.out] <;> rfl⟩, by repeat (first | exact Drawn0.refl _ | apply Drawn0.step)⟩
                · have c2b : (x.f2 == y.f2) = false := beq_eq_false_iff_ne.mpr c2
                  have hfin : fits33 x y = false := by simp [fits33, c0b, c1b, c2b]
                  have HF := Aside0.mk hfin
                  clear hfin c0 c1 c2
                  go_wp2
                  (refine wp_region_quiet_lit (by kernel_rfl) (by first | exact lex8) ?_; simp only [List.append_eq, List.cons_append, List.nil_append]; repeat (go_big_quiet_step (fail)))
                  refine wpQuiet_nil ?_
                  intro _ hw'
                  obtain ⟨nq, hw''⟩ := hw'
                  subst hw''
                  go_wp2
                  go_roundg (l1.length - (jj + 1))
                  case measure => omega
                  case rel => exact ⟨_, jj + 1, rfl, by go_num, by omega, by omega, ⟨by rw [hsn.out, HF.out] <;> rfl⟩, by repeat (first | exact Drawn0.refl _ | apply Drawn0.step)⟩
              · have c1b : (x.f1.toList == y.f1.toList) = false := beq_eq_false_iff_ne.mpr c1
                have hfin : fits33 x y = false := by simp [fits33, c0b, c1b]
                have HF := Aside0.mk hfin
                clear hfin c0 c1
                go_wp2
                (refine wp_region_quiet_lit (by kernel_rfl) (by first | exact lex8) ?_; simp only [List.append_eq, List.cons_append, List.nil_append]; repeat (go_big_quiet_step (fail)))
                refine wpQuiet_nil ?_
                intro _ hw'
                obtain ⟨nq, hw''⟩ := hw'
                subst hw''
                go_wp2
                go_roundg (l1.length - (jj + 1))
                case measure => omega
                case rel => exact ⟨_, jj + 1, rfl, by go_num, by omega, by omega, ⟨by rw [hsn.out, HF.out] <;> rfl⟩, by repeat (first | exact Drawn0.refl _ | apply Drawn0.step)⟩
            · have c0b : (x.f0.toList == y.f0.toList) = false := beq_eq_false_iff_ne.mpr c0
              have hfin : fits33 x y = false := by simp [fits33, c0b]
              have HF := Aside0.mk hfin
              clear hfin c0
              go_wp2
              (refine wp_region_quiet_lit (by kernel_rfl) (by first | exact lex8) ?_; simp only [List.append_eq, List.cons_append, List.nil_append]; repeat (go_big_quiet_step (fail)))
              refine wpQuiet_nil ?_
              intro _ hw'
              obtain ⟨nq, hw''⟩ := hw'
              subst hw''
              go_wp2
              go_roundg (l1.length - (jj + 1))
              case measure => omega
              case rel => exact ⟨_, jj + 1, rfl, by go_num, by omega, by omega, ⟨by rw [hsn.out, HF.out] <;> rfl⟩, by repeat (first | exact Drawn0.refl _ | apply Drawn0.step)⟩
        · have hlt20 : ¬ (jj : Int) < (l1.length : Int) := by omega
          obtain rfl : jj = l1.length := by omega
          cases b with
          | true =>
            have hok : Aside0 ((l0.take (kk + 1)).all (fun x => l1.any (fits33 x)) = true) := ⟨by
              have h := HJ.out
              rw [List.take_of_length_le (Nat.le_refl _), ← HX.out] at h
              rw [List.take_succ_eq_append_getElem hlt, List.all_append, HI.out]
              simp only [List.all_cons, List.all_nil, ← h]; rfl⟩
            go_wp2
            go_roundg (l0.length - (kk + 1))
            case measure => omega
            case rel => exact ⟨kk + 1, by go_num, by omega, by omega, hok, by repeat (first | exact Drawn0.refl _ | apply Drawn0.step)⟩
          | false =>
            have hno : Aside0 ((l0.all fun x => l1.any (fits33 x)) = false) := ⟨by
              have h := HJ.out
              rw [List.take_of_length_le (Nat.le_refl _), ← HX.out] at h
              rw [List.all_eq_false]
              exact ⟨l0[kk], List.getElem_mem hlt, by rw [← h]; simp⟩⟩
            go_wp2
            go_ret
            exact ⟨by rw [hno.out] <;> rfl, by repeat (first | exact Drawn0.refl _ | apply Drawn0.step)⟩
    · have hlt0 : ¬ (kk : Int) < (l0.length : Int) := by omega
      obtain rfl : kk = l0.length := by omega
      go_wp2
      go_ret
      have h := HI.out
      rw [List.take_of_length_le (Nat.le_refl _)] at h
      exact ⟨by rw [h] <;> rfl, by repeat (first | exact Drawn0.refl _ | apply Drawn0.step)⟩

end Go.Proofs.Ytdmganhmgbkliaa.Q
