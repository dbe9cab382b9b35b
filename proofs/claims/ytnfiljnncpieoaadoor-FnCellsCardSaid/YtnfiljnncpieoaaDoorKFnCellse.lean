/- What the row of FnCells rests on, and the row: for every input that can be read the call returns true and the input reads as it did; condition: what the row lists of the library reads as the program lays it. -/
import Derived.Test.YtnfiljnncpieoaaDoorKFnCellsd
import Derived.Test.YtnfiljnncpieoaaDoorCards
import Derived.Test.YtnfiljnncpieoaaDoorRows
import Derived.Test.YtnfiljnncpieoaaDoorTie
set_option linter.unusedVariables false
set_option linter.unusedSimpArgs false
namespace Go.Proofs.YtnfiljnncpieoaaDoor.Q
open Go.RowKit Go.Proofs.YtnfiljnncpieoaaDoorW.PrintWords Go.Proofs.YtnfiljnncpieoaaDoorW.PrintLast Go.Proofs.YtnfiljnncpieoaaDoorW.PrintMore
attribute [local go_sem] max2_int min2_int max_two min_two max_three min_three max_four min_four   -- for this text's walks alone
set_option linter.unusedVariables false
set_option linter.unusedSimpArgs false
attribute [local go_sem high] eqA26
set_option maxHeartbeats 8000000 in
set_option maxRecDepth 100000 in
theorem laws_FnCells.calls (k : Nat) (A0 : Option Addr) (c0 : Nat) (l0 : List Int) (r : Bool) (w : World) (hr0 : Kd.C (Kd.int .u8) w A0 l0.length l0) (hc0 : l0.length ≤ c0) (h : laws_FnCells.f k l0 = some r) (hT : Tabs w := by first | assumption | (refine Aside0.out (p := Tabs _) ?_; assumption) | (refine Tabs.below (w := ?ww) (Aside0.out ?ha) ?hb; (case ha => assumption); (case hb => repeat (first | (with_reducible first | exact Below.refl _ _ | (refine Aside0.out ?_; assumption) | apply below_alloc | apply pw_below_drewN | apply below_drew1 | (refine below_set ?_ (Aside0.out ?_); (rotate_left; assumption))) | (refine Aside0.out ?_; assumption)))) | (refine Tabs.drewN (w := ?ww) (Aside0.out ?ha) _; (case ha => assumption))) (hr : r = true := by first | assumption | rfl | (refine Aside0.out ?_; assumption)) :
    Calls Tryd.prog 5 #[.slice A0 l0.length c0] w fun e w' => e = .returned (.bool r) ∧ Below w.heap.size w w' := by
  have HT_ := Aside0.mk hT
  clear hT
  subst hr
  have hu26 := Tryd.underlying26
  have HR0 := Aside0.mk hr0
  have HC0 := Aside0.mk hc0
  clear hr0 hc0
  have HB := Aside0.mk (Below.refl w.heap.size w)
  have H : ((spec_DrawFieldCell.f k l0).bind fun t399 => ((impl_FieldCell.f t399).bind fun bt400 => (if (t399.size : Int) > 500 then (if (bt400.1 == 0 && (bt400.2.1 == 0 && (bt400.2.2.toList == ([] : List UInt8)))) = true then ((laws_cells.f k).bind fun t404 => (some t404)) else (some false)) else ((spec_ReadDec.f k t399).bind fun bt405 => ((spec_DecText.f k bt405.1).bind fun t407 => ((impl_FieldCell.f t407).bind fun bt408 => ((impl_CellOk.f bt400.1 bt400.2.1 bt400.2.2).bind fun t412 => (if t412 = true then ((impl_ToStr.f k bt400.1 bt400.2.1 bt400.2.2).bind fun t413 => (if t413.toList = t399.toList then ((impl_ToNum.f bt400.1 bt400.2.1 bt400.2.2).bind fun t414 => (if t414 = bt405.1 then ((spec_LooksNum.f k t399).bind fun t415 => (if ((bt400.1 == 3) == t415) = true then (if bt408.1 = 3 then ((impl_ToNum.f bt408.1 bt408.2.1 bt408.2.2).bind fun t416 => (if t416 = bt405.1 then ((laws_cells.f k).bind fun t417 => (some t417)) else (some false))) else (some false)) else (some false))) else (some false))) else (some false))) else (some false))))))))) = some true := h
  clear h
  replace H := Option.bind_eq_some_iff.mp H
  obtain ⟨t399, A20, H⟩ := H
  replace H : ((impl_FieldCell.f t399).bind fun bt400 => (if (t399.size : Int) > 500 then (if (bt400.1 == 0 && (bt400.2.1 == 0 && (bt400.2.2.toList == ([] : List UInt8)))) = true then ((laws_cells.f k).bind fun t404 => (some t404)) else (some false)) else ((spec_ReadDec.f k t399).bind fun bt405 => ((spec_DecText.f k bt405.1).bind fun t407 => ((impl_FieldCell.f t407).bind fun bt408 => ((impl_CellOk.f bt400.1 bt400.2.1 bt400.2.2).bind fun t412 => (if t412 = true then ((impl_ToStr.f k bt400.1 bt400.2.1 bt400.2.2).bind fun t413 => (if t413.toList = t399.toList then ((impl_ToNum.f bt400.1 bt400.2.1 bt400.2.2).bind fun t414 => (if t414 = bt405.1 then ((spec_LooksNum.f k t399).bind fun t415 => (if ((bt400.1 == 3) == t415) = true then (if bt408.1 = 3 then ((impl_ToNum.f bt408.1 bt408.2.1 bt408.2.2).bind fun t416 => (if t416 = bt405.1 then ((laws_cells.f k).bind fun t417 => (some t417)) else (some false))) else (some false)) else (some false))) else (some false))) else (some false))) else (some false)))))))) = some true := H
  have A2 := Aside0.mk A20
  clear A20
  replace H := Option.bind_eq_some_iff.mp H
  obtain ⟨⟨t400, t401, t402⟩, A30, H⟩ := H
  replace H : (if (t399.size : Int) > 500 then (if (t400 == 0 && (t401 == 0 && (t402.toList == ([] : List UInt8)))) = true then ((laws_cells.f k).bind fun t404 => (some t404)) else (some false)) else ((spec_ReadDec.f k t399).bind fun bt405 => ((spec_DecText.f k bt405.1).bind fun t407 => ((impl_FieldCell.f t407).bind fun bt408 => ((impl_CellOk.f t400 t401 t402).bind fun t412 => (if t412 = true then ((impl_ToStr.f k t400 t401 t402).bind fun t413 => (if t413.toList = t399.toList then ((impl_ToNum.f t400 t401 t402).bind fun t414 => (if t414 = bt405.1 then ((spec_LooksNum.f k t399).bind fun t415 => (if ((t400 == 3) == t415) = true then (if bt408.1 = 3 then ((impl_ToNum.f bt408.1 bt408.2.1 bt408.2.2).bind fun t416 => (if t416 = bt405.1 then ((laws_cells.f k).bind fun t417 => (some t417)) else (some false))) else (some false)) else (some false))) else (some false))) else (some false))) else (some false))))))) = some true := H
  have A3 := Aside0.mk A30
  clear A30
  by_cases c4 : (t399.size : Int) > 500
  · rw [if_pos c4] at H
    have c4b0 : decide (500 < (t399.size : Int)) = true := decide_eq_true c4
    have c4b1 : decide (500 < t399.size) = true := decide_eq_true (by omega)
    clear c4
    by_cases c5 : (t400 == 0 && (t401 == 0 && (t402.toList == ([] : List UInt8)))) = true
    · rw [if_pos c5] at H
      have c5b0 : (t400 == 0 && (t401 == 0 && (t402.toList == ([] : List UInt8)))) = true := c5
      (try (have c5b1 : decide (t400 = 0 && (t401 == 0 && (t402.toList == ([] : List UInt8)))) = true := by simpa using c5))
      (try (have c5b2 : (t400 == 0 && (t401 == 0 && (t402.toList == ([] : List UInt8)))) = true := by simpa using c5))
      (try (have c5b9 : (t400 == 0 && (t401 == 0 && t402.toList.isEmpty)) = true := by simpa using c5))
      clear c5
      replace H := Option.bind_eq_some_iff.mp H
      obtain ⟨t404, A60, H⟩ := H
      replace H : (some t404) = some true := H
      have A6 := Aside0.mk A60
      clear A60
      have HOR_ := Aside0.mk (Option.some.inj H)
      clear H
      go_enter Tryd.func5, Tryd.ntmps5
      go_wp2_with (first | ((with_reducible refine gate_callee (f := 16) rfl ?_); refine goesL_ (some 9) rfl rfl Tryd.func16 (by kernel_rfl) rfl #[.slice A0 l0.length c0] rfl (by (try simp only [List.map_toArray, List.map_cons, List.map_nil]); first | done | rfl | (simp only [List.length_drop, List.length_take]; rfl)) ?_; (with_reducible refine (spec_DrawFieldCell.calls k _ _ l0 t399 _ ?side1 ?side2 A2.out).mono ?_); (case side1 => repeat (first | exact HR0.out | (with_reducible refine Kd.C_alloc ?_ _) | (with_reducible refine Kd.C_drewN ?_ _) | (with_reducible refine Kd.C_drew ?_))); (case side2 => exact HC0.out); rintro e w7 ⟨rfl, hb⟩; refine ⟨_, rfl, ?_⟩; have n0_ := Aside0.mk (below_step (by repeat (first | (with_reducible first | exact HB.out | apply below_alloc | apply pw_below_drewN | apply below_drew1) | exact HB.out)) hb); clear HB; have HB := n0_; clear n0_; (try clear hb); (try clear hb2); (try clear hk); (try clear hi)) | ((with_reducible refine gate_callee (f := 17) rfl ?_); refine goesL_ (some 11) rfl rfl Tryd.func17 (by kernel_rfl) rfl #[.string t399] rfl (by (try simp only [List.map_toArray, List.map_cons, List.map_nil]); first | done | rfl | (simp only [List.length_drop, List.length_take]; rfl)) ?_; (with_reducible refine (impl_FieldCell.calls t399 t400 t401 t402 _ A3.out).mono ?_); rintro e w8 ⟨rfl, hb⟩; refine ⟨_, rfl, ?_⟩; have n0_ := Aside0.mk (below_step (by repeat (first | (with_reducible first | exact HB.out | apply below_alloc | apply pw_below_drewN | apply below_drew1) | exact HB.out)) hb); clear HB; have HB := n0_; clear n0_; (try clear hb); (try clear hb2); (try clear hk); (try clear hi)) | ((with_reducible refine gate_dst (N := 4) rfl ?_); refine box_event ?hg (N := 4) ?hd (cs := #[.int .i64 0, .int .i64 0, .string (⟨#[]⟩ : ByteArray)]) (t := 26) ?hr ?_; (case hd => rfl); (case hg => rfl); (case hr => first | (go_simp; done) | (go_simp; rfl)); intro gb403 hg w9 hbox hb; have n0_ := Aside0.mk (below_step (by repeat (first | (with_reducible first | exact HB.out | apply below_alloc | apply pw_below_drewN | apply below_drew1) | exact HB.out)) hb); have n1_ := Aside0.mk (hbox); have n2_ := Aside0.mk ((by rw [hg]; exact (below_size (by repeat (first | (with_reducible first | exact HB.out | apply below_alloc | apply pw_below_drewN | apply below_drew1) | exact HB.out))) : w.heap.size ≤ gb403)); have n3_ := Aside0.mk ((by rw [hg]; exact (below_size (by repeat (first | (with_reducible first | exact HB.out | apply below_alloc | apply pw_below_drewN | apply below_drew1) | exact HB.out))) : w.heap.size ≤ gb403)); clear HB; have HB := n0_; have BK403 := n1_; have GW403 := n2_; have GE403 := n3_; clear n0_ n1_ n2_ n3_; clear hb hbox hg; have hcz10_0 : w9.cell? ⟨gb403, 0, none⟩ = some (.int .i64 0) := (blk_cell BK403.out 0).trans rfl; have hcz10_1 : w9.cell? ⟨gb403, 1, none⟩ = some (.int .i64 0) := (blk_cell BK403.out 1).trans rfl; have hcz10_2 : w9.cell? ⟨gb403, 2, none⟩ = some (.string (⟨#[]⟩ : ByteArray)) := (blk_cell BK403.out 2).trans rfl; have hfz10_0 := blk_frozen BK403.out 0; have hfz10_1 := blk_frozen BK403.out 1; have hfz10_2 := blk_frozen BK403.out 2) | (go_at_call 18; (with_reducible refine (laws_cells.calls k  t404 _ A6.out).mono ?_); rintro e w11 ⟨rfl, hb⟩; have n0_ := Aside0.mk (blk_below (g := gb403) (o := .cells #[.int .i64 t400, .int .i64 t401, .string t402] 26 (0, 0)) (by (with_reducible repeat (first | refine blk_drewN ?_ _ | refine blk_drew ?_ | refine blk_alloc ?_ _)); refine blk_put (cs := #[.int .i64 t400, .int .i64 t401, .string (⟨#[]⟩ : ByteArray)]) ?_ 2 _ rfl; (with_reducible repeat (first | refine blk_drewN ?_ _ | refine blk_drew ?_ | refine blk_alloc ?_ _)); refine blk_put (cs := #[.int .i64 t400, .int .i64 0, .string (⟨#[]⟩ : ByteArray)]) ?_ 1 _ rfl; (with_reducible repeat (first | refine blk_drewN ?_ _ | refine blk_drew ?_ | refine blk_alloc ?_ _)); refine blk_put (cs := #[.int .i64 0, .int .i64 0, .string (⟨#[]⟩ : ByteArray)]) ?_ 0 _ rfl; (with_reducible repeat (first | refine blk_drewN ?_ _ | refine blk_drew ?_ | refine blk_alloc ?_ _)); exact BK403.out) hb); have n1_ := Aside0.mk (below_step (by repeat (first | (with_reducible first | exact HB.out | apply below_alloc | apply pw_below_drewN | apply below_drew1 | refine below_set ?_ GE403.out) | exact HB.out)) hb); clear BK403; clear HB; have BK403 := n0_; have HB := n1_; clear n0_ n1_; (try clear hb); (try clear hb2); (try clear hk); (try clear hi)))
      go_ret
      exact ⟨by first | rfl | (rw [HOR_.out]; done) | (rw [HOR_.out]; rfl) | (simp [HOR_.out]; done) | (have h_ := HOR_.out; simp at h_; subst h_; first | rfl | (simp; done)) | (have h_ := HOR_.out; simp at h_ ⊢; exact h_) | (simp [errW_none, errW_some] <;> rfl) | (simp [*, errW_none, errW_some] <;> rfl), by repeat (first | (with_reducible first | exact HB.out | apply below_alloc | apply pw_below_drewN | apply below_drew1 | refine below_set ?_ GE403.out) | exact HB.out)⟩
    · rw [if_neg c5] at H
      have c5b0 : (t400 == 0 && (t401 == 0 && (t402.toList == ([] : List UInt8)))) = false := by simpa using c5
      (try (have c5b1 : decide (t400 = 0 && (t401 == 0 && (t402.toList == ([] : List UInt8)))) = false := by simpa using c5))
      (try (have c5b2 : (t400 == 0 && (t401 == 0 && (t402.toList == ([] : List UInt8)))) = false := by simpa using c5))
      (try (have c5b3 : ¬ (t400 = 0 && (t401 == 0 && (t402.toList == ([] : List UInt8)))) := by simpa using c5))
      (try (have c5b9 : (t400 == 0 && (t401 == 0 && t402.toList.isEmpty)) = false := by simpa using c5))
      clear c5
      exact absurd H (by simp)
  · rw [if_neg c4] at H
    have c4b0 : decide (500 < (t399.size : Int)) = false := decide_eq_false c4
    have c4b1 : decide (500 < t399.size) = false := decide_eq_false (by omega)
    clear c4
    replace H := Option.bind_eq_some_iff.mp H
    obtain ⟨⟨t405, t406⟩, A120, H⟩ := H
    replace H : ((spec_DecText.f k t405).bind fun t407 => ((impl_FieldCell.f t407).bind fun bt408 => ((impl_CellOk.f t400 t401 t402).bind fun t412 => (if t412 = true then ((impl_ToStr.f k t400 t401 t402).bind fun t413 => (if t413.toList = t399.toList then ((impl_ToNum.f t400 t401 t402).bind fun t414 => (if t414 = t405 then ((spec_LooksNum.f k t399).bind fun t415 => (if ((t400 == 3) == t415) = true then (if bt408.1 = 3 then ((impl_ToNum.f bt408.1 bt408.2.1 bt408.2.2).bind fun t416 => (if t416 = t405 then ((laws_cells.f k).bind fun t417 => (some t417)) else (some false))) else (some false)) else (some false))) else (some false))) else (some false))) else (some false))))) = some true := H
    have A12 := Aside0.mk A120
    clear A120
    replace H := Option.bind_eq_some_iff.mp H
    obtain ⟨t407, A130, H⟩ := H
    replace H : ((impl_FieldCell.f t407).bind fun bt408 => ((impl_CellOk.f t400 t401 t402).bind fun t412 => (if t412 = true then ((impl_ToStr.f k t400 t401 t402).bind fun t413 => (if t413.toList = t399.toList then ((impl_ToNum.f t400 t401 t402).bind fun t414 => (if t414 = t405 then ((spec_LooksNum.f k t399).bind fun t415 => (if ((t400 == 3) == t415) = true then (if bt408.1 = 3 then ((impl_ToNum.f bt408.1 bt408.2.1 bt408.2.2).bind fun t416 => (if t416 = t405 then ((laws_cells.f k).bind fun t417 => (some t417)) else (some false))) else (some false)) else (some false))) else (some false))) else (some false))) else (some false)))) = some true := H
    have A13 := Aside0.mk A130
    clear A130
    replace H := Option.bind_eq_some_iff.mp H
    obtain ⟨⟨t408, t409, t410⟩, A140, H⟩ := H
    replace H : ((impl_CellOk.f t400 t401 t402).bind fun t412 => (if t412 = true then ((impl_ToStr.f k t400 t401 t402).bind fun t413 => (if t413.toList = t399.toList then ((impl_ToNum.f t400 t401 t402).bind fun t414 => (if t414 = t405 then ((spec_LooksNum.f k t399).bind fun t415 => (if ((t400 == 3) == t415) = true then (if t408 = 3 then ((impl_ToNum.f t408 t409 t410).bind fun t416 => (if t416 = t405 then ((laws_cells.f k).bind fun t417 => (some t417)) else (some false))) else (some false)) else (some false))) else (some false))) else (some false))) else (some false))) = some true := H
    have A14 := Aside0.mk A140
    clear A140
    replace H := Option.bind_eq_some_iff.mp H
    obtain ⟨t412, A150, H⟩ := H
    replace H : (if t412 = true then ((impl_ToStr.f k t400 t401 t402).bind fun t413 => (if t413.toList = t399.toList then ((impl_ToNum.f t400 t401 t402).bind fun t414 => (if t414 = t405 then ((spec_LooksNum.f k t399).bind fun t415 => (if ((t400 == 3) == t415) = true then (if t408 = 3 then ((impl_ToNum.f t408 t409 t410).bind fun t416 => (if t416 = t405 then ((laws_cells.f k).bind fun t417 => (some t417)) else (some false))) else (some false)) else (some false))) else (some false))) else (some false))) else (some false)) = some true := H
    have A15 := Aside0.mk A150
    clear A150
    by_cases c16 : t412 = true
    · subst c16
      have H1 : ((impl_ToStr.f k t400 t401 t402).bind fun t413 => (if t413.toList = t399.toList then ((impl_ToNum.f t400 t401 t402).bind fun t414 => (if t414 = t405 then ((spec_LooksNum.f k t399).bind fun t415 => (if ((t400 == 3) == t415) = true then (if t408 = 3 then ((impl_ToNum.f t408 t409 t410).bind fun t416 => (if t416 = t405 then ((laws_cells.f k).bind fun t417 => (some t417)) else (some false))) else (some false)) else (some false))) else (some false))) else (some false))) = some true := by rw [if_pos rfl] at H; exact H
      clear H
      have H := H1
      clear H1
      replace H := Option.bind_eq_some_iff.mp H
      obtain ⟨t413, A170, H⟩ := H
      replace H : (if t413.toList = t399.toList then ((impl_ToNum.f t400 t401 t402).bind fun t414 => (if t414 = t405 then ((spec_LooksNum.f k t399).bind fun t415 => (if ((t400 == 3) == t415) = true then (if t408 = 3 then ((impl_ToNum.f t408 t409 t410).bind fun t416 => (if t416 = t405 then ((laws_cells.f k).bind fun t417 => (some t417)) else (some false))) else (some false)) else (some false))) else (some false))) else (some false)) = some true := H
      have A17 := Aside0.mk A170
      clear A170
      by_cases c18 : t413.toList = t399.toList
      · rw [if_pos c18] at H
        have c18b0 : (t413.toList == t399.toList) = true := beq_iff_eq.mpr c18
        have c18b1 : (t413.toList != t399.toList) = false := bne_eq_false_iff_eq.mpr c18
        clear c18
        replace H := Option.bind_eq_some_iff.mp H
        obtain ⟨t414, A190, H⟩ := H
        replace H : (if t414 = t405 then ((spec_LooksNum.f k t399).bind fun t415 => (if ((t400 == 3) == t415) = true then (if t408 = 3 then ((impl_ToNum.f t408 t409 t410).bind fun t416 => (if t416 = t405 then ((laws_cells.f k).bind fun t417 => (some t417)) else (some false))) else (some false)) else (some false))) else (some false)) = some true := H
        have A19 := Aside0.mk A190
        clear A190
        by_cases c20 : t414 = t405
        · rw [if_pos c20] at H
          have c20b0 : (t414 == t405) = true := beq_iff_eq.mpr c20
          have c20b1 : (t414 != t405) = false := bne_eq_false_iff_eq.mpr c20
          clear c20
          replace H := Option.bind_eq_some_iff.mp H
          obtain ⟨t415, A210, H⟩ := H
          replace H : (if ((t400 == 3) == t415) = true then (if t408 = 3 then ((impl_ToNum.f t408 t409 t410).bind fun t416 => (if t416 = t405 then ((laws_cells.f k).bind fun t417 => (some t417)) else (some false))) else (some false)) else (some false)) = some true := H
          have A21 := Aside0.mk A210
          clear A210
          by_cases c22 : ((t400 == 3) == t415) = true
          · rw [if_pos c22] at H
            have c22b0 : ((t400 == 3) == t415) = true := c22
            (try (have c22b1 : decide ((t400 == 3) = t415) = true := by simpa using c22))
            (try (have c22b2 : ((t400 == 3) == t415) = true := by simpa using c22))
            clear c22
            by_cases c23 : t408 = 3
            · rw [if_pos c23] at H
              have c23b0 : (t408 == 3) = true := beq_iff_eq.mpr c23
              have c23b1 : (t408 != 3) = false := bne_eq_false_iff_eq.mpr c23
              clear c23
              replace H := Option.bind_eq_some_iff.mp H
              obtain ⟨t416, A240, H⟩ := H
              replace H : (if t416 = t405 then ((laws_cells.f k).bind fun t417 => (some t417)) else (some false)) = some true := H
              have A24 := Aside0.mk A240
              clear A240
              by_cases c25 : t416 = t405
              · rw [if_pos c25] at H
                have c25b0 : (t416 == t405) = true := beq_iff_eq.mpr c25
                have c25b1 : (t416 != t405) = false := bne_eq_false_iff_eq.mpr c25
                clear c25
                replace H := Option.bind_eq_some_iff.mp H
                obtain ⟨t417, A260, H⟩ := H
                replace H : (some t417) = some true := H
                have A26 := Aside0.mk A260
                clear A260
                have HOR_ := Aside0.mk (Option.some.inj H)
                clear H
                go_enter Tryd.func5, Tryd.ntmps5
                try go_wp2_with (first | ((with_reducible refine gate_callee (f := 16) rfl ?_); refine goesL_ (some 9) rfl rfl Tryd.func16 (by kernel_rfl) rfl #[.slice A0 l0.length c0] rfl (by (try simp only [List.map_toArray, List.map_cons, List.map_nil]); first | done | rfl | (simp only [List.length_drop, List.length_take]; rfl)) ?_; (with_reducible refine (spec_DrawFieldCell.calls k _ _ l0 t399 _ ?side1 ?side2 A2.out).mono ?_); (case side1 => repeat (first | exact HR0.out | (with_reducible refine Kd.C_alloc ?_ _) | (with_reducible refine Kd.C_drewN ?_ _) | (with_reducible refine Kd.C_drew ?_))); (case side2 => exact HC0.out); rintro e w27 ⟨rfl, hb⟩; refine ⟨_, rfl, ?_⟩; have n0_ := Aside0.mk (below_step (by repeat (first | (with_reducible first | exact HB.out | apply below_alloc | apply pw_below_drewN | apply below_drew1) | exact HB.out)) hb); clear HB; have HB := n0_; clear n0_; (try clear hb); (try clear hb2); (try clear hk); (try clear hi)) | ((with_reducible refine gate_callee (f := 17) rfl ?_); refine goesL_ (some 11) rfl rfl Tryd.func17 (by kernel_rfl) rfl #[.string t399] rfl (by (try simp only [List.map_toArray, List.map_cons, List.map_nil]); first | done | rfl | (simp only [List.length_drop, List.length_take]; rfl)) ?_; (with_reducible refine (impl_FieldCell.calls t399 t400 t401 t402 _ A3.out).mono ?_); rintro e w28 ⟨rfl, hb⟩; refine ⟨_, rfl, ?_⟩; have n0_ := Aside0.mk (below_step (by repeat (first | (with_reducible first | exact HB.out | apply below_alloc | apply pw_below_drewN | apply below_drew1) | exact HB.out)) hb); clear HB; have HB := n0_; clear n0_; (try clear hb); (try clear hb2); (try clear hk); (try clear hi)) | ((with_reducible refine gate_dst (N := 4) rfl ?_); refine box_event ?hg (N := 4) ?hd (cs := #[.int .i64 0, .int .i64 0, .string (⟨#[]⟩ : ByteArray)]) (t := 26) ?hr ?_; (case hd => rfl); (case hg => rfl); (case hr => first | (go_simp; done) | (go_simp; rfl)); intro gb403 hg w29 hbox hb; have n0_ := Aside0.mk (below_step (by repeat (first | (with_reducible first | exact HB.out | apply below_alloc | apply pw_below_drewN | apply below_drew1) | exact HB.out)) hb); have n1_ := Aside0.mk (hbox); have n2_ := Aside0.mk ((by rw [hg]; exact (below_size (by repeat (first | (with_reducible first | exact HB.out | apply below_alloc | apply pw_below_drewN | apply below_drew1) | exact HB.out))) : w.heap.size ≤ gb403)); have n3_ := Aside0.mk ((by rw [hg]; exact (below_size (by repeat (first | (with_reducible first | exact HB.out | apply below_alloc | apply pw_below_drewN | apply below_drew1) | exact HB.out))) : w.heap.size ≤ gb403)); clear HB; have HB := n0_; have BK403 := n1_; have GW403 := n2_; have GE403 := n3_; clear n0_ n1_ n2_ n3_; clear hb hbox hg; have hcz30_0 : w29.cell? ⟨gb403, 0, none⟩ = some (.int .i64 0) := (blk_cell BK403.out 0).trans rfl; have hcz30_1 : w29.cell? ⟨gb403, 1, none⟩ = some (.int .i64 0) := (blk_cell BK403.out 1).trans rfl; have hcz30_2 : w29.cell? ⟨gb403, 2, none⟩ = some (.string (⟨#[]⟩ : ByteArray)) := (blk_cell BK403.out 2).trans rfl; have hfz30_0 := blk_frozen BK403.out 0; have hfz30_1 := blk_frozen BK403.out 1; have hfz30_2 := blk_frozen BK403.out 2) | ((with_reducible refine gate_callee (f := 19) rfl ?_); refine goesL_ (some 23) rfl rfl Tryd.func19 (by kernel_rfl) rfl #[.string t399] rfl (by (try simp only [List.map_toArray, List.map_cons, List.map_nil]); first | done | rfl | (simp only [List.length_drop, List.length_take]; rfl)) ?_; (with_reducible refine (spec_ReadDec.calls k t399 t405 t406 _ A12.out).mono ?_); rintro e w' ⟨rfl, ⟨nd, rfl⟩⟩; refine ⟨_, rfl, ?_⟩) | ((with_reducible refine gate_callee (f := 20) rfl ?_); refine goesL_ (some 27) rfl rfl Tryd.func20 (by kernel_rfl) rfl #[.int .i64 t405] rfl (by (try simp only [List.map_toArray, List.map_cons, List.map_nil]); first | done | rfl | (simp only [List.length_drop, List.length_take]; rfl)) ?_; (with_reducible refine (spec_DecText.calls k t405 t407 _ A13.out).mono ?_); rintro e w31 ⟨rfl, hb⟩; refine ⟨_, rfl, ?_⟩; have n0_ := Aside0.mk (blk_below (g := gb403) (o := .cells #[.int .i64 t400, .int .i64 t401, .string t402] 26 (0, 0)) (by (with_reducible repeat (first | refine blk_drewN ?_ _ | refine blk_drew ?_ | refine blk_alloc ?_ _)); refine blk_put (cs := #[.int .i64 t400, .int .i64 t401, .string (⟨#[]⟩ : ByteArray)]) ?_ 2 _ rfl; (with_reducible repeat (first | refine blk_drewN ?_ _ | refine blk_drew ?_ | refine blk_alloc ?_ _)); refine blk_put (cs := #[.int .i64 t400, .int .i64 0, .string (⟨#[]⟩ : ByteArray)]) ?_ 1 _ rfl; (with_reducible repeat (first | refine blk_drewN ?_ _ | refine blk_drew ?_ | refine blk_alloc ?_ _)); refine blk_put (cs := #[.int .i64 0, .int .i64 0, .string (⟨#[]⟩ : ByteArray)]) ?_ 0 _ rfl; (with_reducible repeat (first | refine blk_drewN ?_ _ | refine blk_drew ?_ | refine blk_alloc ?_ _)); exact BK403.out) hb); have n1_ := Aside0.mk (below_step (by repeat (first | (with_reducible first | exact HB.out | apply below_alloc | apply pw_below_drewN | apply below_drew1 | refine below_set ?_ GE403.out) | exact HB.out)) hb); clear BK403; clear HB; have BK403 := n0_; have HB := n1_; clear n0_ n1_; (try clear hb); (try clear hb2); (try clear hk); (try clear hi)) | ((with_reducible refine gate_callee (f := 17) rfl ?_); refine goesL_ (some 28) rfl rfl Tryd.func17 (by kernel_rfl) rfl #[.string t407] rfl (by (try simp only [List.map_toArray, List.map_cons, List.map_nil]); first | done | rfl | (simp only [List.length_drop, List.length_take]; rfl)) ?_; (with_reducible refine (impl_FieldCell.calls t407 t408 t409 t410 _ A14.out).mono ?_); rintro e w32 ⟨rfl, hb⟩; refine ⟨_, rfl, ?_⟩; have n0_ := Aside0.mk (blk_below (g := gb403) (o := .cells #[.int .i64 t400, .int .i64 t401, .string t402] 26 (0, 0)) (by (with_reducible repeat (first | refine blk_drewN ?_ _ | refine blk_drew ?_ | refine blk_alloc ?_ _)); exact BK403.out) hb); have n1_ := Aside0.mk (below_step (by repeat (first | (with_reducible first | exact HB.out | apply below_alloc | apply pw_below_drewN | apply below_drew1 | refine below_set ?_ GE403.out) | exact HB.out)) hb); clear BK403; clear HB; have BK403 := n0_; have HB := n1_; clear n0_ n1_; (try clear hb); (try clear hb2); (try clear hk); (try clear hi)) | ((with_reducible refine gate_dst (N := 7) rfl ?_); refine box_event ?hg (N := 7) ?hd (cs := #[.int .i64 0, .int .i64 0, .string (⟨#[]⟩ : ByteArray)]) (t := 26) ?hr ?_; (case hd => rfl); (case hg => rfl); (case hr => first | (go_simp; done) | (go_simp; rfl)); intro gb411 hg w33 hbox hb; have n0_ := Aside0.mk (blk_below (g := gb403) (o := .cells #[.int .i64 t400, .int .i64 t401, .string t402] 26 (0, 0)) (by (with_reducible repeat (first | refine blk_drewN ?_ _ | refine blk_drew ?_ | refine blk_alloc ?_ _)); exact BK403.out) hb); have n1_ := Aside0.mk (below_step (by repeat (first | (with_reducible first | exact HB.out | apply below_alloc | apply pw_below_drewN | apply below_drew1 | refine below_set ?_ GE403.out) | exact HB.out)) hb); have n2_ := Aside0.mk (hbox); have n3_ := Aside0.mk ((by rw [hg]; exact (below_size (by repeat (first | (with_reducible first | exact HB.out | apply below_alloc | apply pw_below_drewN | apply below_drew1 | refine below_set ?_ GE403.out) | exact HB.out))) : w.heap.size ≤ gb411)); have n4_ := Aside0.mk ((by rw [hg]; exact (below_size (by repeat (first | (with_reducible first | exact HB.out | apply below_alloc | apply pw_below_drewN | apply below_drew1 | refine below_set ?_ GE403.out) | exact HB.out))) : w.heap.size ≤ gb411)); have n5_ := Aside0.mk ((by rw [hg]; exact Nat.ne_of_lt (blk_lt (g := gb403) (o := .cells #[.int .i64 t400, .int .i64 t401, .string t402] 26 (0, 0)) (by (with_reducible repeat (first | refine blk_drewN ?_ _ | refine blk_drew ?_ | refine blk_alloc ?_ _)); exact BK403.out)) : gb403 ≠ gb411)); have n6_ := Aside0.mk ((by rw [hg]; exact Nat.ne_of_gt (blk_lt (g := gb403) (o := .cells #[.int .i64 t400, .int .i64 t401, .string t402] 26 (0, 0)) (by (with_reducible repeat (first | refine blk_drewN ?_ _ | refine blk_drew ?_ | refine blk_alloc ?_ _)); exact BK403.out)) : gb411 ≠ gb403)); clear BK403; clear HB; have BK403 := n0_; have HB := n1_; have BK411 := n2_; have GW411 := n3_; have GE411 := n4_; have NB403_411 := n5_; have NB411_403 := n6_; clear n0_ n1_ n2_ n3_ n4_ n5_ n6_; clear hb hbox hg; have hnb34 := NB411_403.out; have hnc34 := NB403_411.out; have hcz35_0 : w33.cell? ⟨gb411, 0, none⟩ = some (.int .i64 0) := (blk_cell BK411.out 0).trans rfl; have hcz35_1 : w33.cell? ⟨gb411, 1, none⟩ = some (.int .i64 0) := (blk_cell BK411.out 1).trans rfl; have hcz35_2 : w33.cell? ⟨gb411, 2, none⟩ = some (.string (⟨#[]⟩ : ByteArray)) := (blk_cell BK411.out 2).trans rfl; have hfz35_0 := blk_frozen BK411.out 0; have hfz35_1 := blk_frozen BK411.out 1; have hfz35_2 := blk_frozen BK411.out 2))
                have n0_ : Aside0 ((((w33.setCell ⟨gb411, 0, none⟩ (.int .i64 t408)).setCell ⟨gb411, 1, none⟩ (.int .i64 t409)).setCell ⟨gb411, 2, none⟩ (.string t410)).heap[gb403]? = some (.cells #[.int .i64 t400, .int .i64 t401, .string t402] 26 (0, 0))) := ⟨by (with_reducible repeat (first | refine blk_drewN ?_ _ | refine blk_drew ?_ | refine blk_alloc ?_ _)); refine blk_far ?_ NB403_411.out _; (with_reducible repeat (first | refine blk_drewN ?_ _ | refine blk_drew ?_ | refine blk_alloc ?_ _)); refine blk_far ?_ NB403_411.out _; (with_reducible repeat (first | refine blk_drewN ?_ _ | refine blk_drew ?_ | refine blk_alloc ?_ _)); refine blk_far ?_ NB403_411.out _; (with_reducible repeat (first | refine blk_drewN ?_ _ | refine blk_drew ?_ | refine blk_alloc ?_ _)); exact BK403.out⟩
                have n1_ : Aside0 ((((w33.setCell ⟨gb411, 0, none⟩ (.int .i64 t408)).setCell ⟨gb411, 1, none⟩ (.int .i64 t409)).setCell ⟨gb411, 2, none⟩ (.string t410)).heap[gb411]? = some (.cells #[.int .i64 t408, .int .i64 t409, .string t410] 26 (0, 0))) := ⟨by (with_reducible repeat (first | refine blk_drewN ?_ _ | refine blk_drew ?_ | refine blk_alloc ?_ _)); refine blk_put (cs := #[.int .i64 t408, .int .i64 t409, .string (⟨#[]⟩ : ByteArray)]) ?_ 2 _ rfl; (with_reducible repeat (first | refine blk_drewN ?_ _ | refine blk_drew ?_ | refine blk_alloc ?_ _)); refine blk_put (cs := #[.int .i64 t408, .int .i64 0, .string (⟨#[]⟩ : ByteArray)]) ?_ 1 _ rfl; (with_reducible repeat (first | refine blk_drewN ?_ _ | refine blk_drew ?_ | refine blk_alloc ?_ _)); refine blk_put (cs := #[.int .i64 0, .int .i64 0, .string (⟨#[]⟩ : ByteArray)]) ?_ 0 _ rfl; (with_reducible repeat (first | refine blk_drewN ?_ _ | refine blk_drew ?_ | refine blk_alloc ?_ _)); exact BK411.out⟩
                have n2_ : Aside0 (Below w.heap.size w (((w33.setCell ⟨gb411, 0, none⟩ (.int .i64 t408)).setCell ⟨gb411, 1, none⟩ (.int .i64 t409)).setCell ⟨gb411, 2, none⟩ (.string t410))) := ⟨by repeat (first | (with_reducible first | exact HB.out | apply below_alloc | apply pw_below_drewN | apply below_drew1 | refine below_set ?_ GE403.out | refine below_set ?_ GE411.out) | exact HB.out)⟩
                (try clear BK403)
                (try clear BK411)
                (try clear HB)
                generalize (((w33.setCell ⟨gb411, 0, none⟩ (.int .i64 t408)).setCell ⟨gb411, 1, none⟩ (.int .i64 t409)).setCell ⟨gb411, 2, none⟩ (.string t410)) = w36 at n0_ n1_ n2_ ⊢
                have BK403 := n0_
                have BK411 := n1_
                have HB := n2_
                clear n0_ n1_ n2_
                have n0_ := Aside0.mk (blk_drew BK403.out)
                have n1_ := Aside0.mk (blk_drew BK411.out)
                have n2_ := Aside0.mk (below_drew1 HB.out)
                clear BK403
                clear BK411
                clear HB
                have BK403 := n0_
                have BK411 := n1_
                have HB := n2_
                clear n0_ n1_ n2_
                refine start_ (n := 37) (S := fun w' => w'.cell? ⟨gb403, 0, none⟩ = some (.int .i64 t400) ∧ w'.cell? ⟨gb403, 1, none⟩ = some (.int .i64 t401) ∧ w'.cell? ⟨gb403, 2, none⟩ = some (.string t402) ∧ w'.cell? ⟨gb411, 0, none⟩ = some (.int .i64 t408) ∧ w'.cell? ⟨gb411, 1, none⟩ = some (.int .i64 t409) ∧ w'.cell? ⟨gb411, 2, none⟩ = some (.string t410)) (ds := []) #[false, false, false, false, false, false, false, false, false, false, false, false, false, false, false, false, false, false, false, false, false, false, false, false, false, false, false, false, false, false, false, false, false, false, false, false, false] (by kernel_rfl) rfl rfl ⟨(blk_cell BK403.out 0).trans rfl, (blk_cell BK403.out 1).trans rfl, (blk_cell BK403.out 2).trans rfl, (blk_cell BK411.out 0).trans rfl, (blk_cell BK411.out 1).trans rfl, (blk_cell BK411.out 2).trans rfl⟩ (fun hHeld => ?_); refine with_tabW laws_FnCells.tab7 laws_FnCells.bits7 (fun HT_ HW_ => ?_)
                generalize w36.drew = w37 at BK403 BK411 HB hHeld ⊢
                refine take_ (i := 0) (N := some 29) (v := ?_) (a' := ?_) #[true, false, false, false, false, false, false, false, false, false, false, false, false, false, false, false, false, false, false, false, false, false, false, false, false, false, false, false, false, false, false, false, false, false, false, false, false] rfl rfl (take_ofW HT_.out HW_.out (by kernel_rfl)) (fun _ _ _ h => h) (Or.inl ⟨by rfl, ?_⟩) hHeld ?_ ?_
                rotate_left
                · rintro w' ⟨s0, s1, s2, s3, s4, s5⟩
                  go_simp
                  first | with_reducible rfl | (rw [if_neg (by simp only [ByteArray.size_append, ByteArray.size_extract, eq_iff_iff, iff_true, iff_false] at *; omega)]; try with_reducible rfl)
                rotate_left
                · simp only [Act.put, List.setIfInBounds_toArray, List.set_cons_zero, List.set_cons_succ, i64_w, i32_w]
                  rfl
                refine one_ (i := 1) (N := some 30) #[true, true, false, false, false, false, false, false, false, false, false, false, false, false, false, false, false, false, false, false, false, false, false, false, false, false, false, false, false, false, false, false, false, false, false, false, false] rfl rfl (one_of HT_.out (by kernel_rfl)) (by decide) (fun K hK => ?_)
                refine goes_ Tryd.func21 (by kernel_rfl) rfl #[.agg #[.int .i64 t400, .int .i64 t401, .string t402]] (by rfl) rfl rfl (by (try simp only [List.map_toArray, List.map_cons, List.map_nil]); first | done | rfl | (simp only [List.length_drop, List.length_take]; rfl)) ?_
                with_reducible refine (impl_CellOk.calls t400 t401 t402 true _ A15.out).mono ?_
                rintro e w38 ⟨rfl, hb⟩
                refine ⟨_, rfl, ?_⟩
                have n0_ := Aside0.mk (blk_below (g := gb403) (o := .cells #[.int .i64 t400, .int .i64 t401, .string t402] 26 (0, 0)) (by (with_reducible repeat (first | refine blk_drewN ?_ _ | refine blk_drew ?_ | refine blk_alloc ?_ _)); exact BK403.out) hb)
                have n1_ := Aside0.mk (blk_below (g := gb411) (o := .cells #[.int .i64 t408, .int .i64 t409, .string t410] 26 (0, 0)) (by (with_reducible repeat (first | refine blk_drewN ?_ _ | refine blk_drew ?_ | refine blk_alloc ?_ _)); exact BK411.out) hb)
                have n2_ := Aside0.mk (below_step (by repeat (first | (with_reducible first | exact HB.out | apply below_alloc | apply pw_below_drewN | apply below_drew1 | refine below_set ?_ GE403.out | refine below_set ?_ GE411.out) | exact HB.out)) hb)
                clear BK403
                clear BK411
                clear HB
                have BK403 := n0_
                have BK411 := n1_
                have HB := n2_
                clear n0_ n1_ n2_
                (try clear hb)
                (try clear hb2)
                (try clear hk)
                (try clear hi)
                refine hK.out _ _ ⟨(blk_cell BK403.out 0).trans rfl, (blk_cell BK403.out 1).trans rfl, (blk_cell BK403.out 2).trans rfl, (blk_cell BK411.out 0).trans rfl, (blk_cell BK411.out 1).trans rfl, (blk_cell BK411.out 2).trans rfl⟩ (fun hHeld => ?_)
                clear hK K
                refine norm_ (a' := ?_) ?_ ?_
                rotate_left
                · show Act.put _ (some 30) _ = _
                  simp only [Act.put, List.setIfInBounds_toArray, List.set_cons_zero, List.set_cons_succ, i64_w, i32_w]
                  rfl
                refine pure_ (i := 2) (N := some 31) (v := ?_) (a' := ?_) #[true, true, true, false, false, false, false, false, false, false, false, false, false, false, false, false, false, false, false, false, false, false, false, false, false, false, false, false, false, false, false, false, false, false, false, false, false] rfl rfl (any_of HT_.out (by kernel_rfl)) (fun _ _ _ h => h) (Or.inl ⟨by rfl, ?_⟩) ?_ ?_
                rotate_left
                · intro w'
                  go_simp
                  first | with_reducible rfl | (rw [if_neg (by simp only [ByteArray.size_append, ByteArray.size_extract, eq_iff_iff, iff_true, iff_false] at *; omega)]; try with_reducible rfl)
                rotate_left
                · simp only [Act.put, List.setIfInBounds_toArray, List.set_cons_zero, List.set_cons_succ, i64_w, i32_w]
                  rfl
                refine pure_ (i := 5) (N := some 34) (v := ?_) (a' := ?_) #[true, true, true, false, false, true, false, false, false, false, false, false, false, false, false, false, false, false, false, false, false, false, false, false, false, false, false, false, false, false, false, false, false, false, false, false, false] rfl rfl (any_of HT_.out (by kernel_rfl)) (fun _ _ _ h => h) (Or.inl ⟨by rfl, ?_⟩) ?_ ?_
                rotate_left
                · intro w'
                  go_simp
                  first | with_reducible rfl | (rw [if_neg (by simp only [ByteArray.size_append, ByteArray.size_extract, eq_iff_iff, iff_true, iff_false] at *; omega)]; try with_reducible rfl)
                rotate_left
                · simp only [Act.put, List.setIfInBounds_toArray, List.set_cons_zero, List.set_cons_succ, i64_w, i32_w]
                  rfl
                refine take_ (i := 3) (N := some 32) (v := ?_) (a' := ?_) #[true, true, true, true, false, true, false, false, false, false, false, false, false, false, false, false, false, false, false, false, false, false, false, false, false, false, false, false, false, false, false, false, false, false, false, false, false] rfl rfl (take_ofW HT_.out HW_.out (by kernel_rfl)) (fun _ _ _ h => h) (Or.inl ⟨by rfl, ?_⟩) hHeld ?_ ?_
                rotate_left
                · rintro w' ⟨s0, s1, s2, s3, s4, s5⟩
                  go_simp
                  first | with_reducible rfl | (rw [if_neg (by simp only [ByteArray.size_append, ByteArray.size_extract, eq_iff_iff, iff_true, iff_false] at *; omega)]; try with_reducible rfl)
                rotate_left
                · simp only [Act.put, List.setIfInBounds_toArray, List.set_cons_zero, List.set_cons_succ, i64_w, i32_w]
                  rfl
                refine one_ (i := 4) (N := some 33) #[true, true, true, true, true, true, false, false, false, false, false, false, false, false, false, false, false, false, false, false, false, false, false, false, false, false, false, false, false, false, false, false, false, false, false, false, false] rfl rfl (one_of HT_.out (by kernel_rfl)) (by decide) (fun K hK => ?_)
                refine goes_ Tryd.func22 (by kernel_rfl) rfl #[.agg #[.int .i64 t400, .int .i64 t401, .string t402]] (by rfl) rfl rfl (by (try simp only [List.map_toArray, List.map_cons, List.map_nil]); first | done | rfl | (simp only [List.length_drop, List.length_take]; rfl)) ?_
                with_reducible refine (impl_ToStr.calls k t400 t401 t402 t413 _ A17.out).mono ?_
                rintro e w39 ⟨rfl, hb⟩
                refine ⟨_, rfl, ?_⟩
                have n0_ := Aside0.mk (blk_below (g := gb403) (o := .cells #[.int .i64 t400, .int .i64 t401, .string t402] 26 (0, 0)) (by (with_reducible repeat (first | refine blk_drewN ?_ _ | refine blk_drew ?_ | refine blk_alloc ?_ _)); exact BK403.out) hb)
                have n1_ := Aside0.mk (blk_below (g := gb411) (o := .cells #[.int .i64 t408, .int .i64 t409, .string t410] 26 (0, 0)) (by (with_reducible repeat (first | refine blk_drewN ?_ _ | refine blk_drew ?_ | refine blk_alloc ?_ _)); exact BK411.out) hb)
                have n2_ := Aside0.mk (below_step (by repeat (first | (with_reducible first | exact HB.out | apply below_alloc | apply pw_below_drewN | apply below_drew1 | refine below_set ?_ GE403.out | refine below_set ?_ GE411.out) | exact HB.out)) hb)
                clear BK403
                clear BK411
                clear HB
                have BK403 := n0_
                have BK411 := n1_
                have HB := n2_
                clear n0_ n1_ n2_
                (try clear hb)
                (try clear hb2)
                (try clear hk)
                (try clear hi)
                refine hK.out _ _ ⟨(blk_cell BK403.out 0).trans rfl, (blk_cell BK403.out 1).trans rfl, (blk_cell BK403.out 2).trans rfl, (blk_cell BK411.out 0).trans rfl, (blk_cell BK411.out 1).trans rfl, (blk_cell BK411.out 2).trans rfl⟩ (fun hHeld => ?_)
                clear hK K
                refine norm_ (a' := ?_) ?_ ?_
                rotate_left
                · show Act.put _ (some 33) _ = _
                  simp only [Act.put, List.setIfInBounds_toArray, List.set_cons_zero, List.set_cons_succ, i64_w, i32_w]
                  rfl
                refine pure_ (i := 6) (N := some 35) (v := ?_) (a' := ?_) #[true, true, true, true, true, true, true, false, false, false, false, false, false, false, false, false, false, false, false, false, false, false, false, false, false, false, false, false, false, false, false, false, false, false, false, false, false] rfl rfl (any_of HT_.out (by kernel_rfl)) (fun _ _ _ h => h) (Or.inl ⟨by rfl, ?_⟩) ?_ ?_
                rotate_left
                · intro w'
                  go_simp
                  first | with_reducible rfl | (rw [if_neg (by simp only [ByteArray.size_append, ByteArray.size_extract, eq_iff_iff, iff_true, iff_false] at *; omega)]; try with_reducible rfl)
                rotate_left
                · simp only [Act.put, List.setIfInBounds_toArray, List.set_cons_zero, List.set_cons_succ, i64_w, i32_w]
                  rfl
                refine pure_ (i := 7) (N := some 36) (v := ?_) (a' := ?_) #[true, true, true, true, true, true, true, true, false, false, false, false, false, false, false, false, false, false, false, false, false, false, false, false, false, false, false, false, false, false, false, false, false, false, false, false, false] rfl rfl (any_of HT_.out (by kernel_rfl)) (fun _ _ _ h => h) (Or.inl ⟨by rfl, ?_⟩) ?_ ?_
                rotate_left
                · intro w'
                  go_simp
                  first | with_reducible rfl | (rw [if_neg (by simp only [ByteArray.size_append, ByteArray.size_extract, eq_iff_iff, iff_true, iff_false] at *; omega)]; try with_reducible rfl)
                rotate_left
                · simp only [Act.put, List.setIfInBounds_toArray, List.set_cons_zero, List.set_cons_succ, i64_w, i32_w]
                  rfl
                refine pure_ (i := 8) (N := some 37) (v := ?_) (a' := ?_) #[true, true, true, true, true, true, true, true, true, false, false, false, false, false, false, false, false, false, false, false, false, false, false, false, false, false, false, false, false, false, false, false, false, false, false, false, false] rfl rfl (any_of HT_.out (by kernel_rfl)) (fun _ _ _ h => h) (Or.inl ⟨by rfl, ?_⟩) ?_ ?_
                rotate_left
                · intro w'
                  go_simp
                  first | with_reducible rfl | (rw [if_neg (by simp only [ByteArray.size_append, ByteArray.size_extract, eq_iff_iff, iff_true, iff_false] at *; omega)]; try with_reducible rfl)
                rotate_left
                · simp only [Act.put, List.setIfInBounds_toArray, List.set_cons_zero, List.set_cons_succ, i64_w, i32_w]
                  rfl
                refine pure_ (i := 11) (N := some 40) (v := ?_) (a' := ?_) #[true, true, true, true, true, true, true, true, true, false, false, true, false, false, false, false, false, false, false, false, false, false, false, false, false, false, false, false, false, false, false, false, false, false, false, false, false] rfl rfl (any_of HT_.out (by kernel_rfl)) (fun _ _ _ h => h) (Or.inl ⟨by rfl, ?_⟩) ?_ ?_
                rotate_left
                · intro w'
                  go_simp
                  first | with_reducible rfl | (rw [if_neg (by simp only [ByteArray.size_append, ByteArray.size_extract, eq_iff_iff, iff_true, iff_false] at *; omega)]; try with_reducible rfl)
                rotate_left
                · simp only [Act.put, List.setIfInBounds_toArray, List.set_cons_zero, List.set_cons_succ, i64_w, i32_w]
                  rfl
                refine take_ (i := 9) (N := some 38) (v := ?_) (a' := ?_) #[true, true, true, true, true, true, true, true, true, true, false, true, false, false, false, false, false, false, false, false, false, false, false, false, false, false, false, false, false, false, false, false, false, false, false, false, false] rfl rfl (take_ofW HT_.out HW_.out (by kernel_rfl)) (fun _ _ _ h => h) (Or.inl ⟨by rfl, ?_⟩) hHeld ?_ ?_
                rotate_left
                · rintro w' ⟨s0, s1, s2, s3, s4, s5⟩
                  go_simp
                  first | with_reducible rfl | (rw [if_neg (by simp only [ByteArray.size_append, ByteArray.size_extract, eq_iff_iff, iff_true, iff_false] at *; omega)]; try with_reducible rfl)
                rotate_left
                · simp only [Act.put, List.setIfInBounds_toArray, List.set_cons_zero, List.set_cons_succ, i64_w, i32_w]
                  rfl
                refine one_ (i := 10) (N := some 39) #[true, true, true, true, true, true, true, true, true, true, true, true, false, false, false, false, false, false, false, false, false, false, false, false, false, false, false, false, false, false, false, false, false, false, false, false, false] rfl rfl (one_of HT_.out (by kernel_rfl)) (by decide) (fun K hK => ?_)
                refine goes_ Tryd.func23 (by kernel_rfl) rfl #[.agg #[.int .i64 t400, .int .i64 t401, .string t402]] (by rfl) rfl rfl (by (try simp only [List.map_toArray, List.map_cons, List.map_nil]); first | done | rfl | (simp only [List.length_drop, List.length_take]; rfl)) ?_
                with_reducible refine (impl_ToNum.calls t400 t401 t402 t414 _ A19.out).mono ?_
                rintro e w40 ⟨rfl, hb⟩
                refine ⟨_, rfl, ?_⟩
                have n0_ := Aside0.mk (blk_below (g := gb403) (o := .cells #[.int .i64 t400, .int .i64 t401, .string t402] 26 (0, 0)) (by (with_reducible repeat (first | refine blk_drewN ?_ _ | refine blk_drew ?_ | refine blk_alloc ?_ _)); exact BK403.out) hb)
                have n1_ := Aside0.mk (blk_below (g := gb411) (o := .cells #[.int .i64 t408, .int .i64 t409, .string t410] 26 (0, 0)) (by (with_reducible repeat (first | refine blk_drewN ?_ _ | refine blk_drew ?_ | refine blk_alloc ?_ _)); exact BK411.out) hb)
                have n2_ := Aside0.mk (below_step (by repeat (first | (with_reducible first | exact HB.out | apply below_alloc | apply pw_below_drewN | apply below_drew1 | refine below_set ?_ GE403.out | refine below_set ?_ GE411.out) | exact HB.out)) hb)
                clear BK403
                clear BK411
                clear HB
                have BK403 := n0_
                have BK411 := n1_
                have HB := n2_
                clear n0_ n1_ n2_
                (try clear hb)
                (try clear hb2)
                (try clear hk)
                (try clear hi)
                refine hK.out _ _ ⟨(blk_cell BK403.out 0).trans rfl, (blk_cell BK403.out 1).trans rfl, (blk_cell BK403.out 2).trans rfl, (blk_cell BK411.out 0).trans rfl, (blk_cell BK411.out 1).trans rfl, (blk_cell BK411.out 2).trans rfl⟩ (fun hHeld => ?_)
                clear hK K
                refine norm_ (a' := ?_) ?_ ?_
                rotate_left
                · show Act.put _ (some 39) _ = _
                  simp only [Act.put, List.setIfInBounds_toArray, List.set_cons_zero, List.set_cons_succ, i64_w, i32_w]
                  rfl
                refine pure_ (i := 12) (N := some 41) (v := ?_) (a' := ?_) #[true, true, true, true, true, true, true, true, true, true, true, true, true, false, false, false, false, false, false, false, false, false, false, false, false, false, false, false, false, false, false, false, false, false, false, false, false] rfl rfl (any_of HT_.out (by kernel_rfl)) (fun _ _ _ h => h) (Or.inl ⟨by rfl, ?_⟩) ?_ ?_
                rotate_left
                · intro w'
                  go_simp
                  first | with_reducible rfl | (rw [if_neg (by simp only [ByteArray.size_append, ByteArray.size_extract, eq_iff_iff, iff_true, iff_false] at *; omega)]; try with_reducible rfl)
                rotate_left
                · simp only [Act.put, List.setIfInBounds_toArray, List.set_cons_zero, List.set_cons_succ, i64_w, i32_w]
                  rfl
                refine pure_ (i := 13) (N := some 42) (v := ?_) (a' := ?_) #[true, true, true, true, true, true, true, true, true, true, true, true, true, true, false, false, false, false, false, false, false, false, false, false, false, false, false, false, false, false, false, false, false, false, false, false, false] rfl rfl (any_of HT_.out (by kernel_rfl)) (fun _ _ _ h => h) (Or.inl ⟨by rfl, ?_⟩) ?_ ?_
                rotate_left
                · intro w'
                  go_simp
                  first | with_reducible rfl | (rw [if_neg (by simp only [ByteArray.size_append, ByteArray.size_extract, eq_iff_iff, iff_true, iff_false] at *; omega)]; try with_reducible rfl)
                rotate_left
                · simp only [Act.put, List.setIfInBounds_toArray, List.set_cons_zero, List.set_cons_succ, i64_w, i32_w]
                  rfl
                refine pure_ (i := 14) (N := some 43) (v := ?_) (a' := ?_) #[true, true, true, true, true, true, true, true, true, true, true, true, true, true, true, false, false, false, false, false, false, false, false, false, false, false, false, false, false, false, false, false, false, false, false, false, false] rfl rfl (any_of HT_.out (by kernel_rfl)) (fun _ _ _ h => h) (Or.inl ⟨by rfl, ?_⟩) ?_ ?_
                rotate_left
                · intro w'
                  go_simp
                  first | with_reducible rfl | (rw [if_neg (by simp only [ByteArray.size_append, ByteArray.size_extract, eq_iff_iff, iff_true, iff_false] at *; omega)]; try with_reducible rfl)
                rotate_left
                · simp only [Act.put, List.setIfInBounds_toArray, List.set_cons_zero, List.set_cons_succ, i64_w, i32_w]
                  rfl
                refine pure_ (i := 15) (N := some 44) (v := ?_) (a' := ?_) #[true, true, true, true, true, true, true, true, true, true, true, true, true, true, true, true, false, false, false, false, false, false, false, false, false, false, false, false, false, false, false, false, false, false, false, false, false] rfl rfl (any_of HT_.out (by kernel_rfl)) (fun _ _ _ h => h) (Or.inl ⟨by rfl, ?_⟩) ?_ ?_
                rotate_left
                · intro w'
                  go_simp
                  first | with_reducible rfl | (rw [if_neg (by simp only [ByteArray.size_append, ByteArray.size_extract, eq_iff_iff, iff_true, iff_false] at *; omega)]; try with_reducible rfl)
                rotate_left
                · simp only [Act.put, List.setIfInBounds_toArray, List.set_cons_zero, List.set_cons_succ, i64_w, i32_w]
                  rfl
                refine pure_ (i := 18) (N := some 47) (v := ?_) (a' := ?_) #[true, true, true, true, true, true, true, true, true, true, true, true, true, true, true, true, false, false, true, false, false, false, false, false, false, false, false, false, false, false, false, false, false, false, false, false, false] rfl rfl (any_of HT_.out (by kernel_rfl)) (fun _ _ _ h => h) (Or.inl ⟨by rfl, ?_⟩) ?_ ?_
                rotate_left
                · intro w'
                  go_simp
                  first | with_reducible rfl | (rw [if_neg (by simp only [ByteArray.size_append, ByteArray.size_extract, eq_iff_iff, iff_true, iff_false] at *; omega)]; try with_reducible rfl)
                rotate_left
                · simp only [Act.put, List.setIfInBounds_toArray, List.set_cons_zero, List.set_cons_succ, i64_w, i32_w]
                  rfl
                refine take_ (i := 16) (N := some 45) (v := ?_) (a' := ?_) #[true, true, true, true, true, true, true, true, true, true, true, true, true, true, true, true, true, false, true, false, false, false, false, false, false, false, false, false, false, false, false, false, false, false, false, false, false] rfl rfl (take_ofW HT_.out HW_.out (by kernel_rfl)) (fun _ _ _ h => h) (Or.inl ⟨by rfl, ?_⟩) hHeld ?_ ?_
                rotate_left
                · rintro w' ⟨s0, s1, s2, s3, s4, s5⟩
                  go_simp
                  first | with_reducible rfl | (rw [if_neg (by simp only [ByteArray.size_append, ByteArray.size_extract, eq_iff_iff, iff_true, iff_false] at *; omega)]; try with_reducible rfl)
                rotate_left
                · simp only [Act.put, List.setIfInBounds_toArray, List.set_cons_zero, List.set_cons_succ, i64_w, i32_w]
                  rfl
                refine pure_ (i := 17) (N := some 46) (v := ?_) (a' := ?_) #[true, true, true, true, true, true, true, true, true, true, true, true, true, true, true, true, true, true, true, false, false, false, false, false, false, false, false, false, false, false, false, false, false, false, false, false, false] rfl rfl (any_of HT_.out (by kernel_rfl)) (fun _ _ _ h => h) (Or.inl ⟨by rfl, ?_⟩) ?_ ?_
                rotate_left
                · intro w'
                  go_simp
                  first | with_reducible rfl | (rw [if_neg (by simp only [ByteArray.size_append, ByteArray.size_extract, eq_iff_iff, iff_true, iff_false] at *; omega)]; try with_reducible rfl)
                rotate_left
                · simp only [Act.put, List.setIfInBounds_toArray, List.set_cons_zero, List.set_cons_succ, i64_w, i32_w]
                  rfl
                refine one_ (i := 19) (N := some 48) #[true, true, true, true, true, true, true, true, true, true, true, true, true, true, true, true, true, true, true, true, false, false, false, false, false, false, false, false, false, false, false, false, false, false, false, false, false] rfl rfl (one_of HT_.out (by kernel_rfl)) (by decide) (fun K hK => ?_)
                refine goes_ Tryd.func24 (by kernel_rfl) rfl #[.string t399] (by rfl) rfl rfl (by (try simp only [List.map_toArray, List.map_cons, List.map_nil]); first | done | rfl | (simp only [List.length_drop, List.length_take]; rfl)) ?_
                with_reducible refine (spec_LooksNum.calls k t399 t415 _ A21.out).mono ?_
                rintro e w' ⟨rfl, ⟨nd, rfl⟩⟩
                refine ⟨_, rfl, ?_⟩
                refine hK.out _ _ ⟨(blk_cell BK403.out 0).trans rfl, (blk_cell BK403.out 1).trans rfl, (blk_cell BK403.out 2).trans rfl, (blk_cell BK411.out 0).trans rfl, (blk_cell BK411.out 1).trans rfl, (blk_cell BK411.out 2).trans rfl⟩ (fun hHeld => ?_)
                clear hK K
                refine norm_ (a' := ?_) ?_ ?_
                rotate_left
                · show Act.put _ (some 48) _ = _
                  simp only [Act.put, List.setIfInBounds_toArray, List.set_cons_zero, List.set_cons_succ, i64_w, i32_w]
                  rfl
                refine pure_ (i := 20) (N := some 49) (v := ?_) (a' := ?_) #[true, true, true, true, true, true, true, true, true, true, true, true, true, true, true, true, true, true, true, true, true, false, false, false, false, false, false, false, false, false, false, false, false, false, false, false, false] rfl rfl (any_of HT_.out (by kernel_rfl)) (fun _ _ _ h => h) (Or.inl ⟨by rfl, ?_⟩) ?_ ?_
                rotate_left
                · intro w'
                  go_simp
                  first | with_reducible rfl | (rw [if_neg (by simp only [ByteArray.size_append, ByteArray.size_extract, eq_iff_iff, iff_true, iff_false] at *; omega)]; try with_reducible rfl)
                rotate_left
                · simp only [Act.put, List.setIfInBounds_toArray, List.set_cons_zero, List.set_cons_succ, i64_w, i32_w]
                  rfl
                refine pure_ (i := 21) (N := some 50) (v := ?_) (a' := ?_) #[true, true, true, true, true, true, true, true, true, true, true, true, true, true, true, true, true, true, true, true, true, true, false, false, false, false, false, false, false, false, false, false, false, false, false, false, false] rfl rfl (any_of HT_.out (by kernel_rfl)) (fun _ _ _ h => h) (Or.inl ⟨by rfl, ?_⟩) ?_ ?_
                rotate_left
                · intro w'
                  go_simp
                  first | with_reducible rfl | (rw [if_neg (by simp only [ByteArray.size_append, ByteArray.size_extract, eq_iff_iff, iff_true, iff_false] at *; omega)]; try with_reducible rfl)
                rotate_left
                · simp only [Act.put, List.setIfInBounds_toArray, List.set_cons_zero, List.set_cons_succ, i64_w, i32_w]
                  rfl
                refine pure_ (i := 22) (N := some 51) (v := ?_) (a' := ?_) #[true, true, true, true, true, true, true, true, true, true, true, true, true, true, true, true, true, true, true, true, true, true, true, false, false, false, false, false, false, false, false, false, false, false, false, false, false] rfl rfl (any_of HT_.out (by kernel_rfl)) (fun _ _ _ h => h) (Or.inl ⟨by rfl, ?_⟩) ?_ ?_
                rotate_left
                · intro w'
                  go_simp
                  first | with_reducible rfl | (rw [if_neg (by simp only [ByteArray.size_append, ByteArray.size_extract, eq_iff_iff, iff_true, iff_false] at *; omega)]; try with_reducible rfl)
                rotate_left
                · simp only [Act.put, List.setIfInBounds_toArray, List.set_cons_zero, List.set_cons_succ, i64_w, i32_w]
                  rfl
                refine pure_ (i := 23) (N := some 52) (v := ?_) (a' := ?_) #[true, true, true, true, true, true, true, true, true, true, true, true, true, true, true, true, true, true, true, true, true, true, true, true, false, false, false, false, false, false, false, false, false, false, false, false, false] rfl rfl (any_of HT_.out (by kernel_rfl)) (fun _ _ _ h => h) (Or.inl ⟨by rfl, ?_⟩) ?_ ?_
                rotate_left
                · intro w'
                  go_simp
                  first | with_reducible rfl | (rw [if_neg (by simp only [ByteArray.size_append, ByteArray.size_extract, eq_iff_iff, iff_true, iff_false] at *; omega)]; try with_reducible rfl)
                rotate_left
                · simp only [Act.put, List.setIfInBounds_toArray, List.set_cons_zero, List.set_cons_succ, i64_w, i32_w]
                  rfl
                refine take_ (i := 24) (N := some 53) (v := ?_) (a' := ?_) #[true, true, true, true, true, true, true, true, true, true, true, true, true, true, true, true, true, true, true, true, true, true, true, true, true, false, false, false, false, false, false, false, false, false, false, false, false] rfl rfl (take_ofW HT_.out HW_.out (by kernel_rfl)) (fun _ _ _ h => h) (Or.inl ⟨by rfl, ?_⟩) hHeld ?_ ?_
                rotate_left
                · rintro w' ⟨s0, s1, s2, s3, s4, s5⟩
                  go_simp
                  first | with_reducible rfl | (rw [if_neg (by simp only [ByteArray.size_append, ByteArray.size_extract, eq_iff_iff, iff_true, iff_false] at *; omega)]; try with_reducible rfl)
                rotate_left
                · simp only [Act.put, List.setIfInBounds_toArray, List.set_cons_zero, List.set_cons_succ, i64_w, i32_w]
                  rfl
                refine pure_ (i := 25) (N := some 54) (v := ?_) (a' := ?_) #[true, true, true, true, true, true, true, true, true, true, true, true, true, true, true, true, true, true, true, true, true, true, true, true, true, true, false, false, false, false, false, false, false, false, false, false, false] rfl rfl (any_of HT_.out (by kernel_rfl)) (fun _ _ _ h => h) (Or.inl ⟨by rfl, ?_⟩) ?_ ?_
                rotate_left
                · intro w'
                  go_simp
                  first | with_reducible rfl | (rw [if_neg (by simp only [ByteArray.size_append, ByteArray.size_extract, eq_iff_iff, iff_true, iff_false] at *; omega)]; try with_reducible rfl)
                rotate_left
                · simp only [Act.put, List.setIfInBounds_toArray, List.set_cons_zero, List.set_cons_succ, i64_w, i32_w]
                  rfl
                refine pure_ (i := 26) (N := some 55) (v := ?_) (a' := ?_) #[true, true, true, true, true, true, true, true, true, true, true, true, true, true, true, true, true, true, true, true, true, true, true, true, true, true, true, false, false, false, false, false, false, false, false, false, false] rfl rfl (any_of HT_.out (by kernel_rfl)) (fun _ _ _ h => h) (Or.inl ⟨by rfl, ?_⟩) ?_ ?_
                rotate_left
                · intro w'
                  go_simp
                  first | with_reducible rfl | (rw [if_neg (by simp only [ByteArray.size_append, ByteArray.size_extract, eq_iff_iff, iff_true, iff_false] at *; omega)]; try with_reducible rfl)
                rotate_left
                · simp only [Act.put, List.setIfInBounds_toArray, List.set_cons_zero, List.set_cons_succ, i64_w, i32_w]
                  rfl
                refine pure_ (i := 27) (N := some 56) (v := ?_) (a' := ?_) #[true, true, true, true, true, true, true, true, true, true, true, true, true, true, true, true, true, true, true, true, true, true, true, true, true, true, true, true, false, false, false, false, false, false, false, false, false] rfl rfl (any_of HT_.out (by kernel_rfl)) (fun _ _ _ h => h) (Or.inl ⟨by rfl, ?_⟩) ?_ ?_
                rotate_left
                · intro w'
                  go_simp
                  first | with_reducible rfl | (rw [if_neg (by simp only [ByteArray.size_append, ByteArray.size_extract, eq_iff_iff, iff_true, iff_false] at *; omega)]; try with_reducible rfl)
                rotate_left
                · simp only [Act.put, List.setIfInBounds_toArray, List.set_cons_zero, List.set_cons_succ, i64_w, i32_w]
                  rfl
                refine pure_ (i := 30) (N := some 59) (v := ?_) (a' := ?_) #[true, true, true, true, true, true, true, true, true, true, true, true, true, true, true, true, true, true, true, true, true, true, true, true, true, true, true, true, false, false, true, false, false, false, false, false, false] rfl rfl (any_of HT_.out (by kernel_rfl)) (fun _ _ _ h => h) (Or.inl ⟨by rfl, ?_⟩) ?_ ?_
                rotate_left
                · intro w'
                  go_simp
                  first | with_reducible rfl | (rw [if_neg (by simp only [ByteArray.size_append, ByteArray.size_extract, eq_iff_iff, iff_true, iff_false] at *; omega)]; try with_reducible rfl)
                rotate_left
                · simp only [Act.put, List.setIfInBounds_toArray, List.set_cons_zero, List.set_cons_succ, i64_w, i32_w]
                  rfl
                refine take_ (i := 28) (N := some 57) (v := ?_) (a' := ?_) #[true, true, true, true, true, true, true, true, true, true, true, true, true, true, true, true, true, true, true, true, true, true, true, true, true, true, true, true, true, false, true, false, false, false, false, false, false] rfl rfl (take_ofW HT_.out HW_.out (by kernel_rfl)) (fun _ _ _ h => h) (Or.inl ⟨by rfl, ?_⟩) hHeld ?_ ?_
                rotate_left
                · rintro w' ⟨s0, s1, s2, s3, s4, s5⟩
                  go_simp
                  first | with_reducible rfl | (rw [if_neg (by simp only [ByteArray.size_append, ByteArray.size_extract, eq_iff_iff, iff_true, iff_false] at *; omega)]; try with_reducible rfl)
                rotate_left
                · simp only [Act.put, List.setIfInBounds_toArray, List.set_cons_zero, List.set_cons_succ, i64_w, i32_w]
                  rfl
                refine one_ (i := 29) (N := some 58) #[true, true, true, true, true, true, true, true, true, true, true, true, true, true, true, true, true, true, true, true, true, true, true, true, true, true, true, true, true, true, true, false, false, false, false, false, false] rfl rfl (one_of HT_.out (by kernel_rfl)) (by decide) (fun K hK => ?_)
                refine goes_ Tryd.func23 (by kernel_rfl) rfl #[.agg #[.int .i64 t408, .int .i64 t409, .string t410]] (by rfl) rfl rfl (by (try simp only [List.map_toArray, List.map_cons, List.map_nil]); first | done | rfl | (simp only [List.length_drop, List.length_take]; rfl)) ?_
                with_reducible refine (impl_ToNum.calls t408 t409 t410 t416 _ A24.out).mono ?_
                rintro e w41 ⟨rfl, hb⟩
                refine ⟨_, rfl, ?_⟩
                have n0_ := Aside0.mk (blk_below (g := gb403) (o := .cells #[.int .i64 t400, .int .i64 t401, .string t402] 26 (0, 0)) (by (with_reducible repeat (first | refine blk_drewN ?_ _ | refine blk_drew ?_ | refine blk_alloc ?_ _)); exact BK403.out) hb)
                have n1_ := Aside0.mk (blk_below (g := gb411) (o := .cells #[.int .i64 t408, .int .i64 t409, .string t410] 26 (0, 0)) (by (with_reducible repeat (first | refine blk_drewN ?_ _ | refine blk_drew ?_ | refine blk_alloc ?_ _)); exact BK411.out) hb)
                have n2_ := Aside0.mk (below_step (by repeat (first | (with_reducible first | exact HB.out | apply below_alloc | apply pw_below_drewN | apply below_drew1 | refine below_set ?_ GE403.out | refine below_set ?_ GE411.out) | exact HB.out)) hb)
                clear BK403
                clear BK411
                clear HB
                have BK403 := n0_
                have BK411 := n1_
                have HB := n2_
                clear n0_ n1_ n2_
                (try clear hb)
                (try clear hb2)
                (try clear hk)
                (try clear hi)
                refine hK.out _ _ ⟨(blk_cell BK403.out 0).trans rfl, (blk_cell BK403.out 1).trans rfl, (blk_cell BK403.out 2).trans rfl, (blk_cell BK411.out 0).trans rfl, (blk_cell BK411.out 1).trans rfl, (blk_cell BK411.out 2).trans rfl⟩ (fun hHeld => ?_)
                clear hK K
                refine norm_ (a' := ?_) ?_ ?_
                rotate_left
                · show Act.put _ (some 58) _ = _
                  simp only [Act.put, List.setIfInBounds_toArray, List.set_cons_zero, List.set_cons_succ, i64_w, i32_w]
                  rfl
                refine pure_ (i := 31) (N := some 60) (v := ?_) (a' := ?_) #[true, true, true, true, true, true, true, true, true, true, true, true, true, true, true, true, true, true, true, true, true, true, true, true, true, true, true, true, true, true, true, true, false, false, false, false, false] rfl rfl (any_of HT_.out (by kernel_rfl)) (fun _ _ _ h => h) (Or.inl ⟨by rfl, ?_⟩) ?_ ?_
                rotate_left
                · intro w'
                  go_simp
                  first | with_reducible rfl | (rw [if_neg (by simp only [ByteArray.size_append, ByteArray.size_extract, eq_iff_iff, iff_true, iff_false] at *; omega)]; try with_reducible rfl)
                rotate_left
                · simp only [Act.put, List.setIfInBounds_toArray, List.set_cons_zero, List.set_cons_succ, i64_w, i32_w]
                  rfl
                refine pure_ (i := 32) (N := some 61) (v := ?_) (a' := ?_) #[true, true, true, true, true, true, true, true, true, true, true, true, true, true, true, true, true, true, true, true, true, true, true, true, true, true, true, true, true, true, true, true, true, false, false, false, false] rfl rfl (any_of HT_.out (by kernel_rfl)) (fun _ _ _ h => h) (Or.inl ⟨by rfl, ?_⟩) ?_ ?_
                rotate_left
                · intro w'
                  go_simp
                  first | with_reducible rfl | (rw [if_neg (by simp only [ByteArray.size_append, ByteArray.size_extract, eq_iff_iff, iff_true, iff_false] at *; omega)]; try with_reducible rfl)
                rotate_left
                · simp only [Act.put, List.setIfInBounds_toArray, List.set_cons_zero, List.set_cons_succ, i64_w, i32_w]
                  rfl
                refine pure_ (i := 33) (N := some 62) (v := ?_) (a' := ?_) #[true, true, true, true, true, true, true, true, true, true, true, true, true, true, true, true, true, true, true, true, true, true, true, true, true, true, true, true, true, true, true, true, true, true, false, false, false] rfl rfl (any_of HT_.out (by kernel_rfl)) (fun _ _ _ h => h) (Or.inl ⟨by rfl, ?_⟩) ?_ ?_
                rotate_left
                · intro w'
                  go_simp
                  first | with_reducible rfl | (rw [if_neg (by simp only [ByteArray.size_append, ByteArray.size_extract, eq_iff_iff, iff_true, iff_false] at *; omega)]; try with_reducible rfl)
                rotate_left
                · simp only [Act.put, List.setIfInBounds_toArray, List.set_cons_zero, List.set_cons_succ, i64_w, i32_w]
                  rfl
                refine one_ (i := 34) (N := some 63) #[true, true, true, true, true, true, true, true, true, true, true, true, true, true, true, true, true, true, true, true, true, true, true, true, true, true, true, true, true, true, true, true, true, true, true, false, false] rfl rfl (one_of HT_.out (by kernel_rfl)) (by decide) (fun K hK => ?_)
                refine goes_ Tryd.func18 (by kernel_rfl) rfl #[] (by rfl) rfl rfl (by (try simp only [List.map_toArray, List.map_cons, List.map_nil]); first | done | rfl | (simp only [List.length_drop, List.length_take]; rfl)) ?_
                with_reducible refine (laws_cells.calls k  t417 _ A26.out).mono ?_
                rintro e w42 ⟨rfl, hb⟩
                refine ⟨_, rfl, ?_⟩
                have n0_ := Aside0.mk (blk_below (g := gb403) (o := .cells #[.int .i64 t400, .int .i64 t401, .string t402] 26 (0, 0)) (by (with_reducible repeat (first | refine blk_drewN ?_ _ | refine blk_drew ?_ | refine blk_alloc ?_ _)); exact BK403.out) hb)
                have n1_ := Aside0.mk (blk_below (g := gb411) (o := .cells #[.int .i64 t408, .int .i64 t409, .string t410] 26 (0, 0)) (by (with_reducible repeat (first | refine blk_drewN ?_ _ | refine blk_drew ?_ | refine blk_alloc ?_ _)); exact BK411.out) hb)
                have n2_ := Aside0.mk (below_step (by repeat (first | (with_reducible first | exact HB.out | apply below_alloc | apply pw_below_drewN | apply below_drew1 | refine below_set ?_ GE403.out | refine below_set ?_ GE411.out) | exact HB.out)) hb)
                clear BK403
                clear BK411
                clear HB
                have BK403 := n0_
                have BK411 := n1_
                have HB := n2_
                clear n0_ n1_ n2_
                (try clear hb)
                (try clear hb2)
                (try clear hk)
                (try clear hi)
                refine hK.out _ _ ⟨(blk_cell BK403.out 0).trans rfl, (blk_cell BK403.out 1).trans rfl, (blk_cell BK403.out 2).trans rfl, (blk_cell BK411.out 0).trans rfl, (blk_cell BK411.out 1).trans rfl, (blk_cell BK411.out 2).trans rfl⟩ (fun hHeld => ?_)
                clear hK K
                refine norm_ (a' := ?_) ?_ ?_
                rotate_left
                · show Act.put _ (some 63) _ = _
                  simp only [Act.put, List.setIfInBounds_toArray, List.set_cons_zero, List.set_cons_succ, i64_w, i32_w]
                  rfl
                refine pure_ (i := 35) (N := some 64) (v := ?_) (a' := ?_) #[true, true, true, true, true, true, true, true, true, true, true, true, true, true, true, true, true, true, true, true, true, true, true, true, true, true, true, true, true, true, true, true, true, true, true, true, false] rfl rfl (any_of HT_.out (by kernel_rfl)) (fun _ _ _ h => h) (Or.inl ⟨by rfl, ?_⟩) ?_ ?_
                rotate_left
                · intro w'
                  go_simp
                  first | with_reducible rfl | (rw [if_neg (by simp only [ByteArray.size_append, ByteArray.size_extract, eq_iff_iff, iff_true, iff_false] at *; omega)]; try with_reducible rfl)
                rotate_left
                · simp only [Act.put, List.setIfInBounds_toArray, List.set_cons_zero, List.set_cons_succ, i64_w, i32_w]
                  rfl
                refine pure_ (i := 36) (N := some 2) (v := ?_) (a' := ?_) #[true, true, true, true, true, true, true, true, true, true, true, true, true, true, true, true, true, true, true, true, true, true, true, true, true, true, true, true, true, true, true, true, true, true, true, true, true] rfl rfl (any_of HT_.out (by kernel_rfl)) (fun _ _ _ h => h) (Or.inl ⟨by rfl, ?_⟩) ?_ ?_
                rotate_left
                · intro w'
                  go_simp
                  first | with_reducible rfl | (rw [if_neg (by simp only [ByteArray.size_append, ByteArray.size_extract, eq_iff_iff, iff_true, iff_false] at *; omega)]; try with_reducible rfl)
                rotate_left
                · simp only [Act.put, List.setIfInBounds_toArray, List.set_cons_zero, List.set_cons_succ, i64_w, i32_w]
                  rfl
                refine done_ (done_of HT_.out (by kernel_rfl)) ?_
                try go_wp2
                go_ret
                exact ⟨by first | rfl | (rw [HOR_.out]; done) | (rw [HOR_.out]; rfl) | (simp [HOR_.out]; done) | (have h_ := HOR_.out; simp at h_; subst h_; first | rfl | (simp; done)) | (have h_ := HOR_.out; simp at h_ ⊢; exact h_) | (simp [errW_none, errW_some] <;> rfl) | (simp [*, errW_none, errW_some] <;> rfl), by repeat (first | (with_reducible first | exact HB.out | apply below_alloc | apply pw_below_drewN | apply below_drew1 | refine below_set ?_ GE403.out | refine below_set ?_ GE411.out) | exact HB.out)⟩
              · rw [if_neg c25] at H
                have c25b0 : (t416 == t405) = false := beq_eq_false_iff_ne.mpr c25
                have c25b1 : (t416 != t405) = true := bne_iff_ne.mpr c25
                exact absurd H (by simp)
            · rw [if_neg c23] at H
              have c23b0 : (t408 == 3) = false := beq_eq_false_iff_ne.mpr c23
              have c23b1 : (t408 != 3) = true := bne_iff_ne.mpr c23
              exact absurd H (by simp)
          · rw [if_neg c22] at H
            have c22b0 : ((t400 == 3) == t415) = false := by simpa using c22
            (try (have c22b1 : decide ((t400 == 3) = t415) = false := by simpa using c22))
            (try (have c22b2 : ((t400 == 3) == t415) = false := by simpa using c22))
            (try (have c22b3 : ¬ ((t400 == 3) = t415) := by simpa using c22))
            clear c22
            exact absurd H (by simp)
        · rw [if_neg c20] at H
          have c20b0 : (t414 == t405) = false := beq_eq_false_iff_ne.mpr c20
          have c20b1 : (t414 != t405) = true := bne_iff_ne.mpr c20
          exact absurd H (by simp)
      · rw [if_neg c18] at H
        have c18b0 : (t413.toList == t399.toList) = false := beq_eq_false_iff_ne.mpr c18
        have c18b1 : (t413.toList != t399.toList) = true := bne_iff_ne.mpr c18
        exact absurd H (by simp)
    · replace c16 := Bool.eq_false_iff.mpr c16
      subst c16
      have H1 : (some false) = some true := by rw [if_neg (show ¬ (false = true) by decide)] at H; exact H
      clear H
      have H := H1
      clear H1
      exact absurd H (by simp)
/-- THE ONE PURE STATEMENT of laws_FnCells: yours. -/
def laws_FnCells.Pure : Prop := ∀ (l0 : List Int), l0.length ≤ maxLen → l0.length * 1 ≤ 140737488351232 → (∀ x ∈ l0, (Lit.int .u8 x).wf = true) → ∃ k, laws_FnCells.f k l0 = some true
end Go.Proofs.YtnfiljnncpieoaaDoor.Q
namespace Go.Proofs.YtnfiljnncpieoaaDoor.Pure
open Go Go.RowKit Go.Proofs.YtnfiljnncpieoaaDoor.Q Go.Proofs.YtnfiljnncpieoaaDoorW.PrintWords Go.Proofs.YtnfiljnncpieoaaDoorW.PrintLast Go.Proofs.YtnfiljnncpieoaaDoorW.PrintMore
theorem and255 (x : Int) : 0 ≤ Go.bits .and .i64 x 255 ∧ Go.bits .and .i64 x 255 ≤ 255 := by
  have h : ((BitVec.ofInt 64 x) &&& (BitVec.ofInt 64 255)).toNat ≤ 255 := by
    rw [BitVec.toNat_and]
    exact Nat.and_le_right
  have e : Go.bits .and .i64 x 255 = IntKind.i64.wrap (((BitVec.ofInt 64 x) &&& (BitVec.ofInt 64 255)).toNat : Int) := rfl
  rw [e, IntKind.wrap_i64]
  omega
/-- One byte of the cursor. -/
theorem l1Byte_some (b : List Int) (i h : Int) (hi : 0 ≤ i) (hb : b.length ≤ 9223372036854775807) : ∃ r i' h', spec_l1Byte.f b i h = some (r, i', h') ∧ 0 ≤ i' ∧ 0 ≤ r ∧ r ≤ 255 := by
  unfold spec_l1Byte.f
  by_cases h1 : i < (b.length : Int)
  · rw [if_pos h1, if_pos hi]
    refine ⟨_, _, _, rfl, ?_, and255 _⟩
    unfold wrap64; omega
  · rw [if_neg h1]
    exact ⟨_, _, _, rfl, hi, and255 _⟩
/-- A number below n. -/
theorem l1Below_some (b : List Int) (i h n : Int) (hi : 0 ≤ i) (hb : b.length ≤ 9223372036854775807) : ∃ r i' h', spec_l1Below.f b i h n = some (r, i', h') ∧ 0 ≤ i' ∧ (n ≤ 0 → r = 0) ∧ (0 < n → n ≤ 256 → 0 ≤ r ∧ r < n) := by
  unfold spec_l1Below.f
  by_cases h0 : n ≤ 0
  · rw [if_pos h0]
    exact ⟨_, _, _, rfl, hi, fun _ => rfl, fun h => by omega⟩
  rw [if_neg h0]
  by_cases h1 : n ≤ 256
  · rw [if_pos h1]
    obtain ⟨r, i', h', e, hi', hr⟩ := l1Byte_some b i h hi hb
    rw [e, Option.bind_some, if_neg (by omega)]
    refine ⟨_, _, _, rfl, hi', fun h => by omega, fun _ _ => ?_⟩
    show 0 ≤ Int.tmod r n ∧ Int.tmod r n < n
    exact ⟨Int.tmod_nonneg _ hr.1, Int.tmod_lt_of_pos _ (by omega)⟩
  · rw [if_neg h1]
    obtain ⟨r1, i1, h1', e1, hi1, _⟩ := l1Byte_some b i h hi hb
    obtain ⟨r2, i2, h2', e2, hi2, _⟩ := l1Byte_some b i1 h1' hi1 hb
    obtain ⟨r3, i3, h3', e3, hi3, _⟩ := l1Byte_some b i2 h2' hi2 hb
    obtain ⟨r4, i4, h4', e4, hi4, _⟩ := l1Byte_some b i3 h3' hi3 hb
    rw [e1, Option.bind_some]
    dsimp only
    rw [e2, Option.bind_some]
    dsimp only
    rw [e3, Option.bind_some]
    dsimp only
    rw [e4, Option.bind_some, if_neg (by omega)]
    exact ⟨_, _, _, rfl, hi4, fun h => by omega, fun h h' => by omega⟩
theorem l1PickInt_some (b : List Int) (i h : Int) (l : List Int) (hi : 0 ≤ i) (hb : b.length ≤ 9223372036854775807) (hl : 0 < l.length) (hl2 : l.length ≤ 256) : ∃ r i' h', spec_l1PickInt.f b i h l = some (r, i', h') ∧ 0 ≤ i' ∧ r ∈ l := by
  unfold spec_l1PickInt.f
  obtain ⟨r, i', h', e, hi', _, hr⟩ := l1Below_some b i h (l.length : Int) hi hb
  obtain ⟨h1, h2⟩ := hr (by omega) (by omega)
  rw [e, Option.bind_some]
  dsimp only
  rw [if_pos h1, if_pos h2]
  refine ⟨_, _, _, rfl, hi', ?_⟩
  unfold rd
  rw [List.getD_eq_getElem?_getD, List.getElem?_eq_getElem (by omega)]
  exact List.getElem_mem _
theorem l1num_some (b : List Int) (i h : Int) (hi : 0 ≤ i) (hb : b.length ≤ 9223372036854775807) : ∃ r i' h', spec_l1num.f b i h = some (r, i', h') ∧ 0 ≤ i' ∧ -9223372036854775808 ≤ r ∧ r ≤ 9223372036854775807 := by
  have hw : ∀ x : Int, -9223372036854775808 ≤ wrap64 x ∧ wrap64 x ≤ 9223372036854775807 := fun x => by unfold wrap64; omega
  unfold spec_l1num.f
  obtain ⟨r, i1, h1, e, hi1, _⟩ := l1Below_some b i h 4 hi hb
  rw [e, Option.bind_some]
  dsimp only
  by_cases c0 : r = 0
  · rw [if_pos c0]
    obtain ⟨r2, i2, h2, e2, hi2, hm⟩ := l1PickInt_some b i1 h1 [0, 1, (-1), 1000000, (-1000000), 9000000000000, (-9000000000000), 9000000000001, (-9000000000001), 500000, 4611686018427387904, 3000000] hi1 hb (by simp) (by simp)
    rw [e2, Option.bind_some]
    refine ⟨_, _, _, rfl, hi2, ?_⟩
    simp only [List.mem_cons, List.mem_nil_iff, or_false] at hm
    dsimp only
    omega
  rw [if_neg c0]
  by_cases c1 : r = 1
  · rw [if_pos c1]
    obtain ⟨r2, i2, h2, e2, hi2, _⟩ := l1Below_some b i1 h1 4294967296 hi1 hb
    rw [e2, Option.bind_some]
    exact ⟨_, _, _, rfl, hi2, hw _⟩
  · rw [if_neg c1]
    obtain ⟨r2, i2, h2, e2, hi2, _⟩ := l1Below_some b i1 h1 30 hi1 hb
    rw [e2, Option.bind_some]
    dsimp only
    obtain ⟨r3, i3, h3, e3, hi3, _⟩ := l1PickInt_some b i2 h2 [0, 0, 500000, 250000, 1] hi2 hb (by simp) (by simp)
    rw [e3, Option.bind_some]
    exact ⟨_, _, _, rfl, hi3, hw _⟩
theorem l1New_l0 (l : List Int) (hl : l.length ≤ 9223372036854775807) (d : Nat) : ∀ (i k : Nat) (h : Int), i ≤ l.length → l.length - i = d → d < k → ∃ h', spec_l1New.l0 k l h i = some (l, 0, h') := by
  induction d with
  | zero =>
    intro i k h hi hd hk
    obtain ⟨k, rfl⟩ : ∃ m, k = m + 1 := ⟨k - 1, by omega⟩
    simp only [spec_l1New.l0]; rw [if_neg (by omega)]
    exact ⟨_, rfl⟩
  | succ d ih =>
    intro i k h hi hd hk
    obtain ⟨k, rfl⟩ : ∃ m, k = m + 1 := ⟨k - 1, by omega⟩
    simp only [spec_l1New.l0]
    rw [if_pos (by omega)]
    by_cases c : (i : Int) < 4000
    · rw [if_pos c, if_pos (by omega)]
      have e : wrap64 ((i : Int) + 1) = ((i + 1 : Nat) : Int) := by unfold wrap64; omega
      rw [e]
      exact ih (i + 1) k _ (by omega) (by omega) (by omega)
    · rw [if_neg c]
      exact ⟨_, rfl⟩
theorem l1New_some (l : List Int) (hl : l.length ≤ 9223372036854775807) (k : Nat) (hk : l.length < k) : ∃ h, spec_l1New.f k l = some (l, 0, h) := by
  unfold spec_l1New.f
  exact l1New_l0 l hl l.length 0 k _ (by omega) (by omega) hk
/-- The number that a list of bytes writes, behind a number already read. -/
def valFrom (n : Int) (l : List Int) : Int := l.foldl (fun n c => n * 10 + (c - 48) % 256) n
theorem valFrom_nonneg (l : List Int) : ∀ n : Int, 0 ≤ n → 0 ≤ valFrom n l := by
  induction l with
  | nil => intro n h; exact h
  | cons c l ih => intro n h; exact ih _ (show 0 ≤ n * 10 + (c - 48) % 256 by omega)
/-- The ceiling at each digit. -/
theorem numFold (l : List Int) : ∀ n : Int, 0 ≤ n → l.foldl numStep (mn n 9000000000001) = mn (valFrom n l) 9000000000001 := by
  induction l with
  | nil => intro n _; rfl
  | cons c l ih =>
    intro n h
    have e : numStep (mn n 9000000000001) c = mn (n * 10 + (c - 48) % 256) 9000000000001 := by
      unfold numStep mn; omega
    show l.foldl numStep (numStep (mn n 9000000000001) c) = _
    rw [e]
    exact ih _ (by omega)
/-- The model's step on a whole digit: a million times the digit, and the ceiling behind it. -/
def wholeStep (n : Int) (c : Int) : Int := if n * 10 + (c - 48) % 256 * 1000000 > 9000000000000 then 9000000000001 else n * 10 + (c - 48) % 256 * 1000000
theorem wholeFold (l : List Int) : ∀ n : Int, 0 ≤ n → l.foldl wholeStep (mn (n * 1000000) 9000000000001) = mn (valFrom n l * 1000000) 9000000000001 := by
  induction l with
  | nil => intro n _; rfl
  | cons c l ih =>
    intro n h
    have e : wholeStep (mn (n * 1000000) 9000000000001) c = mn ((n * 10 + (c - 48) % 256) * 1000000) 9000000000001 := by
      unfold wholeStep mn; omega
    show l.foldl wholeStep (wholeStep (mn (n * 1000000) 9000000000001) c) = _
    rw [e]
    exact ih _ (by omega)
/-- The digits behind the point: each a tenth of the one before, as far as there are tenths. -/
def partSum : Int → List Int → Int
  | _, [] => 0
  | u, c :: l => (c - 48) % 256 * u + partSum (u / 10) l
theorem partSum_zero (l : List Int) : partSum 0 l = 0 := by
  induction l with
  | nil => rfl
  | cons c l ih => show (c - 48) % 256 * 0 + partSum (0 / 10) l = 0; rw [show (0 : Int) / 10 = 0 from rfl, ih]; omega
/-- Six digits, filled up with noughts, are the sum of the tenths. -/
theorem partSum_six (l : List Int) : partSum 100000 l = valFrom 0 ((l ++ [48, 48, 48, 48, 48, 48]).take 6) := by
  match l with
  | [] => decide
  | [a] => simp [partSum, valFrom]; omega
  | [a, b] => simp [partSum, valFrom]; omega
  | [a, b, c] => simp [partSum, valFrom]; omega
  | [a, b, c, d] => simp [partSum, valFrom]; omega
  | [a, b, c, d, e] => simp [partSum, valFrom]; omega
  | a :: b :: c :: d :: e :: f :: l =>
    have z := partSum_zero l
    simp [partSum, valFrom, z]; omega
theorem valFrom_append (n : Int) (l m : List Int) : valFrom n (l ++ m) = valFrom (valFrom n l) m := List.foldl_append ..
theorem valFrom_shift (m : List Int) : ∀ n : Int, valFrom n m = n * 10 ^ m.length + valFrom 0 m := by
  induction m with
  | nil => intro n; simp [valFrom]
  | cons c m ih =>
    intro n
    show valFrom (n * 10 + (c - 48) % 256) m = n * 10 ^ (m.length + 1) + valFrom (0 * 10 + (c - 48) % 256) m
    rw [ih, ih (0 * 10 + (c - 48) % 256)]
    rw [show (10 : Int) ^ (m.length + 1) = 10 ^ m.length * 10 from Int.pow_succ ..]
    grind
/-- Both ways read the same number. -/
theorem both_ways (w p : List Int) : mn (mn (valFrom 0 w * 1000000) 9000000000001 + partSum 100000 p) 9000000000000 = mn (mn (valFrom 0 (w ++ (p ++ [48, 48, 48, 48, 48, 48]).take 6)) 9000000000001) 9000000000000 := by
  have hl : ((p ++ [48, 48, 48, 48, 48, 48]).take 6).length = 6 := by simp
  have e1 := valFrom_shift (List.take 6 (p ++ [48, 48, 48, 48, 48, 48])) (valFrom 0 w)
  rw [valFrom_append, e1, hl, ← partSum_six]
  have h0 : 0 ≤ partSum 100000 p := by rw [partSum_six]; exact valFrom_nonneg _ 0 (by omega)
  have e6 : (10 : Int) ^ 6 = 1000000 := by decide
  rw [e6]
  generalize valFrom 0 w * 1000000 = x
  unfold mn; omega
theorem white_eq (c : Int) : spec_l1white.f c = some (isSp c) := by
  unfold spec_l1white.f isSp
  by_cases h1 : c = 32
  · subst h1; rfl
  · rw [if_neg h1]
    by_cases h2 : c = 9
    · subst h2; rfl
    · rw [if_neg h2, beq_eq_false_iff_ne.mpr h1, beq_eq_false_iff_ne.mpr h2]; rfl
theorem digit_eq (c : Int) : spec_l1digit.f c = some (isDg c) := by
  unfold spec_l1digit.f isDg
  by_cases h1 : c ≥ 48
  · rw [if_pos h1, decide_eq_true h1]; rfl
  · rw [if_neg h1, decide_eq_false h1]; rfl
theorem w64 {x : Int} (h0 : -9223372036854775808 ≤ x) (h1 : x ≤ 9223372036854775807) : wrap64 x = x := by unfold wrap64; omega
theorem skip_l0 (s : ByteArray) (hs : s.size ≤ 9223372036854775806) (i : Nat) : ∀ k, i ≤ s.size → s.size - i < k → spec_l1skip.l0 k s i = some ((i + Q.runN isSp s i : Nat) : Int) := by
  fun_induction Q.runN isSp s i with
  | case1 i h1 h2 ih =>
    intro k hi hk
    obtain ⟨k, rfl⟩ : ∃ m, k = m + 1 := ⟨k - 1, by omega⟩
    simp only [spec_l1skip.l0]
    rw [if_pos (by omega), if_pos (by omega), white_eq, Option.bind_some, if_pos h2, w64 (by omega) (by omega)]
    have := ih k (by omega) (by omega)
    rw [show (i : Int) + 1 = ((i + 1 : Nat) : Int) by omega, this]
    congr 1; omega
  | case2 i h1 h2 =>
    intro k hi hk
    obtain ⟨k, rfl⟩ : ∃ m, k = m + 1 := ⟨k - 1, by omega⟩
    simp only [spec_l1skip.l0]
    rw [if_pos (by omega), if_pos (by omega), white_eq, Option.bind_some, if_neg h2]; rfl
  | case3 i h1 =>
    intro k hi hk
    obtain ⟨k, rfl⟩ : ∃ m, k = m + 1 := ⟨k - 1, by omega⟩
    simp only [spec_l1skip.l0]
    rw [if_neg (by omega)]; rfl
theorem skip_eq (s : ByteArray) (hs : s.size ≤ 9223372036854775806) (i : Nat) (hi : i ≤ s.size) (k : Nat) (hk : s.size < k) : spec_l1skip.f k s i = some ((i + Q.runN isSp s i : Nat) : Int) := by
  unfold spec_l1skip.f
  exact skip_l0 s hs i k hi (by omega)
/-- The bytes of a text from a place on, as numbers. -/
def seg (s : ByteArray) (i : Nat) : Nat → List Int
  | 0 => []
  | m + 1 => bt s (i : Int) :: seg s (i + 1) m
theorem seg_length (s : ByteArray) (m : Nat) : ∀ i, (seg s i m).length = m := by
  induction m with
  | zero => intro i; rfl
  | succ m ih => intro i; simp [seg, ih]
theorem bytes_extract (s : ByteArray) (i m : Nat) (h : i + m ≤ s.size) : (s.extract i (i + m)).data.toList.map (fun b => (b.toNat : Int)) = seg s i m := by
  apply List.ext_getElem
  · rw [seg_length, List.length_map, Array.length_toList]
    have : (s.extract i (i + m)).size = m := by rw [ByteArray.size_extract]; omega
    exact this
  · intro j h1 h2
    rw [seg_length] at h2
    have e : ∀ (m i j : Nat) (h : j < (seg s i m).length), (seg s i m)[j] = bt s ((i + j : Nat) : Int) := by
      intro m
      induction m with
      | zero => intro i j h; simp [seg] at h
      | succ m ih =>
        intro i j h
        cases j with
        | zero => simp [seg]
        | succ j =>
          have h' : j < (seg s (i + 1) m).length := by simpa [seg] using h
          simp only [seg, List.getElem_cons_succ]
          rw [ih (i + 1) j h']
          congr 2; omega
    rw [e m i j (by rw [seg_length]; exact h2), bt_nat (by omega)]
    simp [ByteArray.data_extract]
    rfl
theorem digB (c : Int) (h : isDg c = true) : 48 ≤ c ∧ c ≤ 57 := by
  unfold isDg at h
  simpa using h
theorem mn_range {x : Int} (h : 0 ≤ x) : 0 ≤ mn x 9000000000001 ∧ mn x 9000000000001 ≤ 9000000000001 := by unfold mn; omega
theorem wholeStep_range (n c : Int) (h0 : 0 ≤ n) : 0 ≤ wholeStep n c ∧ wholeStep n c ≤ 9000000000001 := by unfold wholeStep; split <;> omega
/-- The whole digits. -/
theorem readDec_l0 (s : ByteArray) (hs : s.size ≤ 140737488355328) (neg : Bool) (i : Nat) : ∀ (k m : Nat) (n x7 : Int), Q.runN isDg s i = m → i ≤ s.size → 0 ≤ n → n ≤ 9000000000001 → 0 ≤ x7 → x7 ≤ i →
    spec_ReadDec.l0 (k + 2 + 2 * m) s i neg n x7 = spec_ReadDec.j3 (k + 1) s ((i + m : Nat) : Int) neg ((seg s i m).foldl wholeStep n) (x7 + m) false := by
  fun_induction Q.runN isDg s i with
  | case1 i h1 h2 ih =>
    intro k m n x7 hm hi hn0 hn1 hx0 hx1
    subst hm
    have hd := digB _ h2
    have hr := wholeStep_range n (bt s (i : Int)) hn0
    have key := ih k (Q.runN isDg s (i + 1)) (wholeStep n (bt s (i : Int))) (x7 + 1) rfl (by omega) hr.1 hr.2 (by omega) (by omega)
    have e1 : ((i + 1 + Q.runN isDg s (i + 1) : Nat) : Int) = ((i + (Q.runN isDg s (i + 1) + 1) : Nat) : Int) := by omega
    have e2 : x7 + 1 + ((Q.runN isDg s (i + 1) : Nat) : Int) = x7 + ((Q.runN isDg s (i + 1) + 1 : Nat) : Int) := by omega
    rw [seg, List.foldl_cons, ← e1, ← e2, ← key, show k + 2 + 2 * (Q.runN isDg s (i + 1) + 1) = (k + 2 + 2 * Q.runN isDg s (i + 1)) + 1 + 1 by omega]
    generalize k + 2 + 2 * Q.runN isDg s (i + 1) = K at *
    simp only [spec_ReadDec.l0]
    rw [if_pos (by omega), if_pos (by omega), digit_eq, Option.bind_some, h2]
    simp only [spec_ReadDec.j3]
    rw [if_pos trivial, if_pos (by omega), if_pos (by omega), w64 (x := n * 10) (by omega) (by omega), w64 (x := (i : Int) + 1) (by omega) (by omega), w64 (x := x7 + 1) (by omega) (by omega)]
    generalize hb : bt s (i : Int) = b at *
    rw [w64 (x := n * 10 + (b - 48) % 256 * 1000000) (by omega) (by omega), show (i : Int) + 1 = ((i + 1 : Nat) : Int) by omega]
    unfold wholeStep
    split <;> rfl
  | case2 i h1 h2 =>
    intro k m n x7 hm hi hn0 hn1 hx0 hx1
    subst hm
    show spec_ReadDec.l0 (k + 1 + 1) s i neg n x7 = _
    simp only [spec_ReadDec.l0]
    rw [if_pos (by omega), if_pos (by omega), digit_eq, Option.bind_some, Bool.eq_false_iff.mpr h2]
    simp [seg]
  | case3 i h1 =>
    intro k m n x7 hm hi hn0 hn1 hx0 hx1
    subst hm
    show spec_ReadDec.l0 (k + 1 + 1) s i neg n x7 = _
    simp only [spec_ReadDec.l0]
    rw [if_neg (by omega)]
    simp [seg]
/-- The digits behind the point. -/
theorem readDec_l1 (s : ByteArray) (hs : s.size ≤ 140737488355328) (neg : Bool) (i : Nat) : ∀ (k m : Nat) (n x7 u : Int), Q.runN isDg s i = m → i ≤ s.size → 0 ≤ n → 0 ≤ u → n + 10 * u ≤ 9000001000001 → 0 ≤ x7 → x7 ≤ i →
    spec_ReadDec.l1 (k + 1 + m) s i neg n x7 u = spec_ReadDec.j6 k ((i + m : Nat) : Int) neg (n + partSum u (seg s i m)) (x7 + m) := by
  fun_induction Q.runN isDg s i with
  | case1 i h1 h2 ih =>
    intro k m n x7 u hm hi hn0 hu hn1 hx0 hx1
    subst hm
    have hd := digB _ h2
    rw [show k + 1 + (Q.runN isDg s (i + 1) + 1) = (k + 1 + Q.runN isDg s (i + 1)) + 1 by omega]
    simp only [spec_ReadDec.l1]
    rw [if_pos (by omega), if_pos (by omega), digit_eq, Option.bind_some, h2, if_pos rfl, w64 (x := (i : Int) + 1) (by omega) (by omega), w64 (x := x7 + 1) (by omega) (by omega)]
    generalize hb : bt s (i : Int) = b at *
    have hp0 : 0 ≤ (b - 48) % 256 * u := Int.mul_nonneg (by omega) hu
    have hp1 : (b - 48) % 256 * u ≤ 9 * u := Int.mul_le_mul_of_nonneg_right (by omega) hu
    rw [w64 (x := (b - 48) % 256 * u) (by omega) (by omega), w64 (x := n + (b - 48) % 256 * u) (by omega) (by omega), Int.tdiv_eq_ediv_of_nonneg hu, w64 (x := u / 10) (by omega) (by omega)]
    rw [show (i : Int) + 1 = ((i + 1 : Nat) : Int) by omega, ih k _ _ _ _ rfl (by omega) (by omega) (by omega) (by omega) (by omega) (by omega), seg, hb]
    simp only [partSum]
    congr 1 <;> omega
  | case2 i h1 h2 =>
    intro k m n x7 u hm hi hn0 hu hn1 hx0 hx1
    subst hm
    show spec_ReadDec.l1 (k + 1) s i neg n x7 u = _
    simp only [spec_ReadDec.l1]
    rw [if_pos (by omega), if_pos (by omega), digit_eq, Option.bind_some, if_neg h2]
    simp [seg, partSum]
  | case3 i h1 =>
    intro k m n x7 u hm hi hn0 hu hn1 hx0 hx1
    subst hm
    show spec_ReadDec.l1 (k + 1) s i neg n x7 u = _
    simp only [spec_ReadDec.l1]
    rw [if_neg (by omega)]
    simp [seg, partSum]
theorem readDec_j6 (k : Nat) (x4 : Int) (neg : Bool) (n x7 : Int) (h0 : 0 ≤ n) (h1 : n ≤ 9000009000000) :
    spec_ReadDec.j6 (k + 1) x4 neg n x7 = some (if x7 = 0 then (0, 0) else (if neg = true then -(mn n 9000000000000) else mn n 9000000000000, x4)) := by
  simp only [spec_ReadDec.j6]
  by_cases c : x7 = 0
  · rw [if_pos c, if_pos c]
  · rw [if_neg c, if_neg c]
    by_cases d : n > 9000000000000
    · have e : mn n 9000000000000 = 9000000000000 := by unfold mn; omega
      rw [if_pos d, e]
      cases neg <;> rfl
    · have e : mn n 9000000000000 = n := by unfold mn; omega
      rw [if_neg d, e, w64 (x := -n) (by omega) (by omega)]
      cases neg <;> rfl
theorem bytesOf_append (a b : ByteArray) : bytesOf (a ++ b) = bytesOf a ++ bytesOf b := by
  unfold bytesOf
  rw [ByteArray.data_append, Array.toList_append, List.map_append]
theorem bytesOf_extract (a : ByteArray) (i j : Nat) : bytesOf (a.extract i j) = ((bytesOf a).drop i).take (j - i) := by
  unfold bytesOf
  rw [ByteArray.data_extract, Array.toList_extract]
  simp [List.map_take, List.map_drop]
theorem bytesOf_zeros : bytesOf ⟨#[48, 48, 48, 48, 48, 48]⟩ = [48, 48, 48, 48, 48, 48] := by decide
theorem bytes_seg (s : ByteArray) (i m : Nat) (h : i + m ≤ s.size) : bytesOf (s.extract i (i + m)) = seg s i m := bytes_extract s i m h
theorem at2_le (s : ByteArray) : at2 s ≤ s.size := by
  unfold at2 wholeN
  exact runN_le isDg s (atD s) (atD_le s)
theorem more_le (s : ByteArray) (h : tkB s = true) : at2 s + 1 + moreN s ≤ s.size := by
  unfold tkB at h
  rw [Bool.and_eq_true] at h
  have h1 := h.1
  unfold dotB at h1
  rw [Bool.and_eq_true, decide_eq_true_eq] at h1
  unfold moreN
  rw [if_pos h.1]
  exact runN_le isDg s (at2 s + 1) (by omega)
theorem dig_bytes (s : ByteArray) : bytesOf (digS s) = seg s (atD s) (wholeN s) := by
  unfold digS
  have := at2_le s
  exact bytes_seg s (atD s) (wholeN s) this
/-- The digits behind the point that count. -/
def partL (s : ByteArray) : List Int := if tkB s = true then seg s (at2 s + 1) (moreN s) else []
theorem part_bytes (s : ByteArray) : bytesOf (partS s) = partL s := by
  unfold partS partL
  by_cases h : tkB s = true
  · rw [if_pos h, if_pos h]
    exact bytes_seg s (at2 s + 1) (moreN s) (more_le s h)
  · rw [if_neg h, if_neg h]; rfl
theorem all_bytes (s : ByteArray) : bytesOf (allS s) = seg s (atD s) (wholeN s) ++ (partL s ++ [48, 48, 48, 48, 48, 48]).take 6 := by
  unfold allS
  rw [bytesOf_append, bytesOf_extract, bytesOf_append, dig_bytes, part_bytes, bytesOf_zeros]
  rfl
theorem foldl_bytes (s : ByteArray) : s.data.toList.foldl (fun n c => numStep n (c.toNat : Int)) 0 = (bytesOf s).foldl numStep 0 := by
  unfold bytesOf
  rw [List.foldl_map]
theorem mn_start : mn 0 9000000000001 = 0 := by decide
theorem mn_start2 : mn (0 * 1000000) 9000000000001 = 0 := by decide
theorem whole_val (l : List Int) : l.foldl wholeStep 0 = mn (valFrom 0 l * 1000000) 9000000000001 := by
  have := wholeFold l 0 (by omega)
  rw [mn_start2] at this
  exact this
theorem numOf_eq (s : ByteArray) : numOf s = mn ((seg s (atD s) (wholeN s)).foldl wholeStep 0 + partSum 100000 (partL s)) 9000000000000 := by
  unfold numOf
  rw [foldl_bytes, all_bytes, whole_val]
  have h := numFold (seg s (atD s) (wholeN s) ++ (partL s ++ [48, 48, 48, 48, 48, 48]).take 6) 0 (by omega)
  rw [mn_start] at h
  rw [h]
  exact (both_ways _ _).symm
theorem partSum_le (l : List Int) (hl : ∀ c ∈ l, 48 ≤ c ∧ c ≤ 57) : ∀ u : Int, 0 ≤ u → 0 ≤ partSum u l ∧ partSum u l ≤ 10 * u := by
  induction l with
  | nil => intro u hu; exact ⟨by simp [partSum], by simp only [partSum]; omega⟩
  | cons c l ih =>
    intro u hu
    have hc := hl c (List.mem_cons_self ..)
    have h := ih (fun d hd => hl d (List.mem_cons_of_mem _ hd)) (u / 10) (by omega)
    have hp0 : 0 ≤ (c - 48) % 256 * u := Int.mul_nonneg (by omega) hu
    have hp1 : (c - 48) % 256 * u ≤ 9 * u := Int.mul_le_mul_of_nonneg_right (by omega) hu
    simp only [partSum]
    omega
theorem seg_digits (s : ByteArray) (m : Nat) : ∀ i, m ≤ Q.runN isDg s i → ∀ c ∈ seg s i m, 48 ≤ c ∧ c ≤ 57 := by
  induction m with
  | zero => intro i _ c hc; simp [seg] at hc
  | succ m ih =>
    intro i hm c hc
    rw [Q.runN] at hm
    by_cases h1 : i < s.size
    · rw [if_pos h1] at hm
      by_cases h2 : isDg (bt s i) = true
      · rw [if_pos h2] at hm
        simp only [seg, List.mem_cons] at hc
        rcases hc with rfl | hc
        · exact digB _ h2
        · exact ih (i + 1) (by omega) c hc
      · rw [if_neg h2] at hm; omega
    · rw [if_neg h1] at hm; omega
theorem partL_digits (s : ByteArray) : ∀ c ∈ partL s, 48 ≤ c ∧ c ≤ 57 := by
  intro c hc
  unfold partL at hc
  by_cases h : tkB s = true
  · rw [if_pos h] at hc
    refine seg_digits s (moreN s) (at2 s + 1) ?_ c hc
    unfold tkB at h
    rw [Bool.and_eq_true] at h
    unfold moreN
    rw [if_pos h.1]
    exact Nat.le_refl _
  · rw [if_neg h] at hc; cases hc
theorem isEmpty_size (s : ByteArray) : s.toList.isEmpty = decide (s.size = 0) := by
  have h : s.toList.length = s.size := by simp [ByteArray.toList_eq, Array.length_toList]
  cases hl : s.toList with
  | nil => rw [hl] at h; simp at h; simp [← h]
  | cons a l => rw [hl] at h; simp at h; simp [← h]
theorem digS_size (s : ByteArray) : (digS s).size = wholeN s := by
  have h := congrArg List.length (dig_bytes s)
  rw [bytesOf_length, seg_length] at h
  exact h
theorem partS_size (s : ByteArray) : (partS s).size = if tkB s = true then moreN s else 0 := by
  have h := congrArg List.length (part_bytes s)
  rw [bytesOf_length] at h
  rw [h]
  unfold partL
  split
  · exact seg_length s _ _
  · rfl
theorem readV_eq (s : ByteArray) : readV s = if wholeN s + (if tkB s = true then moreN s else 0) = 0 then (0, 0) else (if negB s = true then - numOf s else numOf s, (at3 s : Int)) := by
  unfold readV
  rw [isEmpty_size, isEmpty_size, digS_size, partS_size]
  by_cases h : wholeN s + (if tkB s = true then moreN s else 0) = 0
  · rw [if_pos h, if_pos]
    simp only [Bool.and_eq_true, decide_eq_true_eq]
    omega
  · rw [if_neg h, if_neg]
    simp only [Bool.and_eq_true, decide_eq_true_eq]
    omega
theorem runN_pos (p : Int → Bool) (s : ByteArray) (i : Nat) : 0 < Q.runN p s i ↔ i < s.size ∧ p (bt s i) = true := by
  rw [Q.runN]
  by_cases h1 : i < s.size
  · rw [if_pos h1]
    by_cases h2 : p (bt s i) = true
    · rw [if_pos h2]; exact ⟨fun _ => ⟨h1, h2⟩, fun _ => by omega⟩
    · rw [if_neg h2]; exact ⟨fun h => by omega, fun h => absurd h.2 h2⟩
  · rw [if_neg h1]; exact ⟨fun h => by omega, fun h => absurd h.1 h1⟩
theorem tk_true (s : ByteArray) (h1 : at2 s < s.size) (h2 : bt s (at2 s) = 46) : tkB s = decide (0 < wholeN s + Q.runN isDg s (at2 s + 1)) := by
  have hd : dotB s (at2 s) = true := by simp [dotB, h1, h2]
  unfold tkB moreN
  rw [if_pos hd, hd, Bool.true_and]
theorem tk_false (s : ByteArray) (h : ¬ (at2 s < s.size ∧ bt s (at2 s) = 46)) : tkB s = false := by
  have hd : dotB s (at2 s) = false := by
    unfold dotB
    by_cases h1 : at2 s < s.size
    · by_cases h2 : bt s (at2 s) = 46
      · exact absurd ⟨h1, h2⟩ h
      · simp [h2]
    · simp [h1]
  unfold tkB
  rw [hd, Bool.false_and]
theorem readDec_body (s : ByteArray) (hs : s.size ≤ 140737488355328) (k : Nat) (hk : 3 * s.size + 8 ≤ k) : spec_ReadDec.l0 k s (atD s) (negB s) 0 0 = some (readV s) := by
  have ha := atD_le s
  have h2 := at2_le s
  have hw : Q.runN isDg s (atD s) = wholeN s := rfl
  have e2 : atD s + wholeN s = at2 s := rfl
  obtain ⟨k0, rfl⟩ : ∃ k0, k = k0 + 2 + 2 * wholeN s := ⟨k - 2 - 2 * wholeN s, by omega⟩
  rw [readDec_l0 s hs (negB s) (atD s) k0 (wholeN s) 0 0 hw ha (by omega) (by omega) (by omega) (by omega), e2]
  have hW : 0 ≤ (seg s (atD s) (wholeN s)).foldl wholeStep 0 ∧ (seg s (atD s) (wholeN s)).foldl wholeStep 0 ≤ 9000000000001 := by
    rw [whole_val]
    exact mn_range (Int.mul_nonneg (valFrom_nonneg _ 0 (by omega)) (by omega))
  have hN := numOf_eq s
  have hP := partSum_le (partL s) (partL_digits s) 100000 (by omega)
  generalize (seg s (atD s) (wholeN s)).foldl wholeStep 0 = W at *
  have key : spec_ReadDec.j3 (k0 + 1) s ((at2 s : Nat) : Int) (negB s) W (0 + (wholeN s : Int)) false = spec_ReadDec.j4 k0 s (at2 s) (negB s) W (0 + (wholeN s : Int)) (tkB s) := by
    simp only [spec_ReadDec.j3]
    rw [if_neg (by decide)]
    by_cases c1 : at2 s < s.size
    · rw [if_pos (by omega), if_pos (by omega)]
      by_cases c2 : bt s (at2 s) = 46
      · rw [if_pos c2, tk_true s c1 c2]
        by_cases c3 : 0 < wholeN s
        · rw [if_pos (by omega), decide_eq_true (by omega)]
        · rw [if_neg (by omega), w64 (x := (at2 s : Int) + 1) (by omega) (by omega)]
          have hp := runN_pos isDg s (at2 s + 1)
          rw [show ((at2 s + 1 : Nat) : Int) = (at2 s : Int) + 1 by omega] at hp
          by_cases c4 : at2 s + 1 < s.size
          · rw [if_pos (by omega), if_pos (by omega), digit_eq, Option.bind_some]
            congr 1
            by_cases c5 : isDg (bt s ((at2 s : Int) + 1)) = true
            · rw [c5, decide_eq_true]
              have := hp.2 ⟨c4, c5⟩
              omega
            · rw [Bool.eq_false_iff.mpr c5, decide_eq_false]
              intro h
              exact c5 (hp.1 (by omega)).2
          · rw [if_neg (by omega), decide_eq_false]
            intro h
            exact c4 (hp.1 (by omega)).1
      · rw [if_neg c2, tk_false s (fun h => c2 h.2)]
    · rw [if_neg (by omega), tk_false s (fun h => c1 h.1)]
  rw [key, readV_eq, hN]
  obtain ⟨k1, rfl⟩ : ∃ k1, k0 = k1 + 1 := ⟨k0 - 1, by omega⟩
  simp only [spec_ReadDec.j4]
  by_cases ht : tkB s = true
  · have hm := more_le s ht
    have hmr : Q.runN isDg s (at2 s + 1) = moreN s := by
      unfold tkB at ht
      rw [Bool.and_eq_true] at ht
      unfold moreN
      rw [if_pos ht.1]
    have hpl : partL s = seg s (at2 s + 1) (moreN s) := if_pos ht
    have h3 : at3 s = at2 s + 1 + moreN s := if_pos ht
    rw [if_pos ht, if_pos ht, w64 (x := (at2 s : Int) + 1) (by omega) (by omega), h3]
    obtain ⟨k2, rfl⟩ : ∃ k2, k1 = (k2 + 1) + 1 + moreN s := ⟨k1 - 2 - moreN s, by omega⟩
    have h1 := readDec_l1 s hs (negB s) (at2 s + 1) (k2 + 1) (moreN s) W (0 + (wholeN s : Int)) 100000 hmr (by omega) (by omega) (by omega) (by omega) (by omega) (by omega)
    rw [show ((at2 s + 1 : Nat) : Int) = (at2 s : Int) + 1 by omega, ← hpl] at h1
    rw [h1, readDec_j6 k2 _ _ _ _ (by omega) (by omega)]
    by_cases c : wholeN s + moreN s = 0
    · rw [if_pos c, if_pos (by omega)]
    · rw [if_neg c, if_neg (by omega)]
  · have hpl : partL s = [] := if_neg ht
    have h3 : at3 s = at2 s := if_neg ht
    rw [if_neg ht, if_neg ht, hpl, h3]
    have e0 : W + partSum 100000 [] = W := by simp [partSum]
    obtain ⟨k2, rfl⟩ : ∃ k2, k1 = k2 + 1 := ⟨k1 - 1, by omega⟩
    rw [e0, readDec_j6 k2 _ _ _ _ (by omega) (by omega)]
    by_cases c : wholeN s + 0 = 0
    · rw [if_pos c, if_pos (by omega)]
    · rw [if_neg c, if_neg (by omega)]
theorem specReadDec_eq (s : ByteArray) (hs : s.size ≤ 140737488355328) (k : Nat) (hk : 3 * s.size + 10 ≤ k) : spec_ReadDec.f k s = some (readV s) := by
  have h0 := skip_eq s (by omega) 0 (by omega) k (by omega)
  rw [Nat.zero_add] at h0
  unfold spec_ReadDec.f
  rw [show (0 : Int) = ((0 : Nat) : Int) from rfl, h0, Option.bind_some]
  have hl := runN_le isSp s 0 (by omega)
  rw [Nat.zero_add] at hl
  have eA : atD s = if sgnB s (Q.runN isSp s 0) = true then Q.runN isSp s 0 + 1 else Q.runN isSp s 0 := rfl
  have eN : negB s = if sgnB s (Q.runN isSp s 0) = true then bt s (Q.runN isSp s 0) == 45 else false := rfl
  have hb := readDec_body s hs
  generalize Q.runN isSp s 0 = a at *
  have key : (if (a : Int) < (s.size : Int) then (if 0 ≤ (a : Int) then (if (bt s a) = 43 then (spec_ReadDec.j0 k s a false true) else (spec_ReadDec.j0 k s a false ((bt s a) == 45))) else (none)) else (spec_ReadDec.j0 k s a false false)) = spec_ReadDec.j0 k s a false (sgnB s a) := by
    unfold sgnB
    by_cases c1 : a < s.size
    · rw [if_pos (by omega), if_pos (by omega), decide_eq_true c1, Bool.true_and]
      by_cases c2 : bt s a = 43
      · rw [if_pos c2, c2]; rfl
      · rw [if_neg c2, beq_eq_false_iff_ne.mpr c2, Bool.false_or]
    · rw [if_neg (by omega), decide_eq_false c1, Bool.false_and]
  refine key.trans ?_
  obtain ⟨k1, rfl⟩ : ∃ k1, k = k1 + 1 + 1 := ⟨k - 2, by omega⟩
  simp only [spec_ReadDec.j0]
  by_cases c : sgnB s a = true
  · rw [if_pos c] at eA eN
    have h1 : a < s.size := by
      unfold sgnB at c
      rw [Bool.and_eq_true, decide_eq_true_eq] at c
      exact c.1
    rw [if_pos c, if_pos (by omega), if_pos (by omega), w64 (x := (a : Int) + 1) (by omega) (by omega)]
    simp only [spec_ReadDec.j1]
    rw [show (a : Int) + 1 = ((a + 1 : Nat) : Int) by omega, ← eA, ← eN]
    exact hb k1 (by omega)
  · rw [if_neg c] at eA eN
    rw [if_neg c]
    simp only [spec_ReadDec.j1]
    rw [← eA, ← eN]
    exact hb k1 (by omega)
theorem implReadDec_eq (s : ByteArray) (hs : s.size ≤ 140737488355328) : impl_ReadDec.f s = some (readV s) := if_pos hs
theorem at3_le (s : ByteArray) : at3 s ≤ s.size := by
  unfold at3
  split
  · rename_i h; exact more_le s h
  · exact at2_le s
theorem readV_at (s : ByteArray) : ∃ n : Nat, (readV s).2 = (n : Int) ∧ n ≤ s.size := by
  rw [readV_eq]
  by_cases c : wholeN s + (if tkB s = true then moreN s else 0) = 0
  · rw [if_pos c]; exact ⟨0, rfl, by omega⟩
  · rw [if_neg c]; exact ⟨at3 s, rfl, at3_le s⟩
theorem numOf_range (s : ByteArray) : 0 ≤ numOf s ∧ numOf s ≤ 9000000000000 := by
  rw [numOf_eq, whole_val]
  have h1 := mn_range (Int.mul_nonneg (valFrom_nonneg (seg s (atD s) (wholeN s)) 0 (by omega)) (show (0 : Int) ≤ 1000000 by omega))
  have h2 := partSum_le (partL s) (partL_digits s) 100000 (by omega)
  generalize mn (valFrom 0 (seg s (atD s) (wholeN s)) * 1000000) 9000000000001 = x at *
  generalize partSum 100000 (partL s) = y at *
  unfold mn
  omega
theorem readV_range (s : ByteArray) : -9000000000000 ≤ (readV s).1 ∧ (readV s).1 ≤ 9000000000000 := by
  have h := numOf_range s
  rw [readV_eq]
  by_cases c : wholeN s + (if tkB s = true then moreN s else 0) = 0
  · rw [if_pos c]; dsimp only; omega
  · rw [if_neg c]
    dsimp only
    split <;> omega
/-- Does a text look like a number? -/
def looksV (s : ByteArray) : Bool := decide (0 < (readV s).2) && decide ((readV s).2.toNat + Q.runN isSp s (readV s).2.toNat = s.size)
theorem implLooksNum_eq (s : ByteArray) (hs : s.size ≤ 140737488355328) : impl_LooksNum.f s = some (looksV s) := by
  unfold impl_LooksNum.f looksV
  rw [implReadDec_eq s hs, Option.bind_some]
  obtain ⟨n, hn, hl⟩ := readV_at s
  rw [hn, Int.toNat_natCast]
  by_cases c : (n : Int) > 0
  · rw [if_pos c]
    have hr : impl_run.f s (n : Int) 75 = some ((Q.runN isSp s n : Nat) : Int) := by
      unfold impl_run.f
      rw [if_pos (by omega), if_pos rfl, Int.toNat_natCast]
    have hle := runN_le isSp s n hl
    rw [hr, Option.bind_some, w64 (by omega) (by omega), decide_eq_true (show 0 < (n : Int) from c), Bool.true_and]
    congr 1
    by_cases d : n + Q.runN isSp s n = s.size
    · rw [decide_eq_true d]
      exact beq_iff_eq.mpr (by omega)
    · rw [decide_eq_false d]
      exact beq_eq_false_iff_ne.mpr (by omega)
  · rw [if_neg c, decide_eq_false (show ¬ 0 < (n : Int) from c), Bool.false_and]
theorem specLooksNum_eq (s : ByteArray) (hs : s.size ≤ 140737488355328) (k : Nat) (hk : 3 * s.size + 10 ≤ k) : spec_LooksNum.f k s = some (looksV s) := by
  unfold spec_LooksNum.f looksV
  rw [specReadDec_eq s hs k hk, Option.bind_some]
  obtain ⟨n, hn, hl⟩ := readV_at s
  rw [hn, Int.toNat_natCast]
  by_cases c : (n : Int) > 0
  · rw [if_pos c, skip_eq s (by omega) n hl k (by omega), Option.bind_some, decide_eq_true (show 0 < (n : Int) from c), Bool.true_and]
    congr 1
    by_cases d : n + Q.runN isSp s n = s.size
    · rw [decide_eq_true d]
      exact beq_iff_eq.mpr (by omega)
    · rw [decide_eq_false d]
      exact beq_eq_false_iff_ne.mpr (by omega)
  · rw [if_neg c, decide_eq_false (show ¬ 0 < (n : Int) from c), Bool.false_and]
def isDec (n : Int) : Prop := -9000000000000 ≤ n ∧ n ≤ 9000000000000
instance (n : Int) : Decidable (isDec n) := inferInstanceAs (Decidable (_ ∧ _))
theorem decOk_eq (n : Int) : impl_DecOk.f n = some (decide (isDec n)) := by
  unfold impl_DecOk.f impl_between.f
  by_cases h : n ≥ -9000000000000
  · rw [if_pos h, Option.bind_some]
    by_cases h2 : n ≤ 9000000000000
    · rw [decide_eq_true h2, decide_eq_true (show isDec n from ⟨h, h2⟩)]
    · rw [decide_eq_false h2, decide_eq_false (show ¬ isDec n from fun h => h2 h.2)]
  · rw [if_neg h, Option.bind_some, decide_eq_false (show ¬ isDec n from fun h2 => h h2.1)]
theorem specDecOk_eq (n : Int) : spec_DecOk.f n = some (decide (isDec n)) := by
  unfold spec_DecOk.f
  by_cases h : n ≥ -9000000000000
  · rw [if_pos h]
    by_cases h2 : n ≤ 9000000000000
    · rw [decide_eq_true h2, decide_eq_true (show isDec n from ⟨h, h2⟩)]
    · rw [decide_eq_false h2, decide_eq_false (show ¬ isDec n from fun h => h2 h.2)]
  · rw [if_neg h, decide_eq_false (show ¬ isDec n from fun h2 => h h2.1)]
def ab (a : Int) : Int := if a < 0 then -a else a
theorem l1abs_eq (a : Int) (h : isDec a) : spec_l1abs.f a = some (ab a) := by
  unfold isDec at h
  unfold spec_l1abs.f ab wrap64
  split
  · congr 1; omega
  · rfl
/-- A text of a list of bytes. -/
def bmk (l : List UInt8) : ByteArray := ⟨⟨l⟩⟩
theorem bmk_size (l : List UInt8) : (bmk l).size = l.length := rfl
theorem bmk_append (a b : List UInt8) : bmk a ++ bmk b = bmk (a ++ b) := by
  apply ByteArray.ext
  rw [ByteArray.data_append]
  apply Array.ext'
  rw [Array.toList_append]; rfl
theorem bmk_extract (l : List UInt8) (i j : Nat) : (bmk l).extract i j = bmk ((l.drop i).take (j - i)) := by
  apply ByteArray.ext
  rw [ByteArray.data_extract]
  apply Array.ext'
  rw [Array.toList_extract]; simp [bmk, List.extract_eq_take_drop]
theorem bmk_bt (l : List UInt8) (i : Nat) (h : i < l.length) : bt (bmk l) (i : Int) = (l[i].toNat : Int) := bt_nat (s := bmk l) h
/-- Without the noughts at the end. -/
def trimR : List UInt8 → List UInt8
  | [] => []
  | a :: l => if trimR l = [] then (if a = 48 then [] else [a]) else a :: trimR l
theorem trimR_length (l : List UInt8) : (trimR l).length ≤ l.length := by
  induction l with
  | nil => simp [trimR]
  | cons a l ih =>
    simp only [trimR]
    split
    · split <;> simp
    · simp; exact ih
theorem trimR_snoc (l : List UInt8) (c : UInt8) : trimR (l ++ [c]) = if c = 48 then trimR l else l ++ [c] := by
  induction l with
  | nil => simp [trimR]
  | cons a l ih =>
    rw [List.cons_append, trimR, ih]
    by_cases h : c = 48
    · rw [if_pos h, if_pos h]; rfl
    · rw [if_neg h, if_neg h, if_neg (by simp)]
theorem trimByte (n : Nat) : ∀ (l : List UInt8) (k : Nat), l.length = n → n < k → n ≤ 9223372036854775807 → strings_trimRightByte.l0 k (bmk l) 48 = some (bmk (trimR l)) := by
  induction n with
  | zero =>
    intro l k hl hk _
    obtain rfl := List.eq_nil_of_length_eq_zero hl
    obtain ⟨k, rfl⟩ : ∃ m, k = m + 1 := ⟨k - 1, by omega⟩
    simp only [strings_trimRightByte.l0]
    rw [if_neg (by decide)]; rfl
  | succ n ih =>
    intro l k hl hk hb
    have hne : l ≠ [] := fun e => by subst e; simp at hl
    obtain ⟨l', c, rfl⟩ : ∃ l' c, l = l' ++ [c] := ⟨l.dropLast, l.getLast hne, (List.dropLast_concat_getLast hne).symm⟩
    have hl' : l'.length = n := by simpa using hl
    obtain ⟨k, rfl⟩ : ∃ m, k = m + 1 := ⟨k - 1, by omega⟩
    have hsz : (bmk (l' ++ [c])).size = n + 1 := by rw [bmk_size]; exact hl
    simp only [strings_trimRightByte.l0]
    rw [hsz]
    have hw : wrap64 (((n + 1 : Nat) : Int) - 1) = (n : Int) := by rw [w64 (by omega) (by omega)]; omega
    have hbt : bt (bmk (l' ++ [c])) (n : Int) = (c.toNat : Int) := by
      rw [bmk_bt _ n (by rw [hl]; omega)]
      simp [← hl']
    rw [hw, if_pos (by omega), if_pos (by omega), if_pos (by omega), hbt, trimR_snoc]
    by_cases hc : c = 48
    · subst hc
      rw [if_pos (by decide), if_pos (by omega), if_pos rfl, Int.toNat_natCast, bmk_extract]
      have : List.take (n - 0) (List.drop 0 (l' ++ [48])) = l' := by simp [← hl']
      rw [this]
      exact ih l' k hl' (by omega) (by omega)
    · rw [if_neg, if_neg hc]
      intro h
      apply hc
      apply UInt8.toNat_inj.mp
      have : ((48 : UInt8).toNat : Int) = 48 := by decide
      omega
theorem trimRight (l : List UInt8) (k : Nat) (hk : l.length + 3 < k) (hb : l.length ≤ 9223372036854775807) : strings_TrimRight.f k (bmk l) ⟨#[48]⟩ = some (bmk (trimR l)) := by
  obtain ⟨k, rfl⟩ : ∃ m, k = m + 1 + 1 := ⟨k - 2, by omega⟩
  unfold strings_TrimRight.f
  by_cases h : (bmk l).toList = ([] : List UInt8)
  · rw [if_pos h]
    have : l = [] := by
      rw [ByteArray.toList_eq] at h
      simpa [bmk] using h
    subst this
    simp only [strings_TrimRight.j0]
    rw [if_pos trivial]; rfl
  · rw [if_neg h]
    have e : ((⟨#[48]⟩ : ByteArray).toList == ([] : List UInt8)) = false := by decide +kernel
    have e2 : ((⟨#[48]⟩ : ByteArray).size : Int) = 1 := by decide
    have e3 : bt (⟨#[48]⟩ : ByteArray) 0 = 48 := by decide
    rw [e]
    simp only [strings_TrimRight.j0]
    rw [if_neg (by decide), e2, if_pos rfl, if_pos (by omega), e3]
    simp only [strings_TrimRight.j1]
    rw [if_pos (by decide), e2, if_pos (by omega)]
    unfold strings_trimRightByte.f
    rw [e3, trimByte l.length l (k) rfl (by omega) hb, Option.bind_some]
/-- j digits of r, the highest first. -/
def dl : Nat → Nat → List UInt8
  | 0, _ => []
  | j + 1, r => UInt8.ofNat (48 + r / 10 ^ j) :: dl j (r % 10 ^ j)
theorem dl_length (j : Nat) : ∀ r, (dl j r).length = j := by
  induction j with
  | zero => intro r; rfl
  | succ j ih => intro r; simp [dl, ih]
theorem dl_zero (j : Nat) : trimR (dl j 0) = [] := by
  induction j with
  | zero => rfl
  | succ j ih =>
    simp only [dl, Nat.zero_div, Nat.zero_mod, trimR, ih, if_pos]
    rfl
theorem digit_ne (d : Nat) (h0 : 0 < d) (h : d < 10) : UInt8.ofNat (48 + d) ≠ 48 := by
  intro e
  have := congrArg UInt8.toNat e
  rw [UInt8.toNat_ofNat'] at this
  have e2 : (48 : UInt8).toNat = 48 := by decide
  omega
theorem dl_pos (j : Nat) : ∀ r, 0 < r → r < 10 ^ j → trimR (dl j r) ≠ [] := by
  induction j with
  | zero => intro r h0 h1; simp at h1; omega
  | succ j ih =>
    intro r h0 h1
    have hp : 0 < 10 ^ j := Nat.pos_of_ne_zero (by simp)
    simp only [dl, trimR]
    by_cases h : r % 10 ^ j = 0
    · rw [h, dl_zero, if_pos rfl, if_neg]
      · simp
      · have hd : 0 < r / 10 ^ j := by
          have := Nat.div_add_mod r (10 ^ j)
          rcases Nat.eq_zero_or_pos (r / 10 ^ j) with e | e
          · rw [e] at this; omega
          · exact e
        exact digit_ne _ hd (Nat.div_lt_of_lt_mul (by rw [Nat.pow_succ] at h1; omega))
    · rw [if_neg (ih _ (by omega) (Nat.mod_lt _ hp))]
      simp
theorem one_digit (d : Nat) (h : d < 10) (k : Nat) : spec_l1dec.f (k + 1) (d : Int) = some (bmk [UInt8.ofNat (48 + d)]) := by
  simp only [spec_l1dec.f]
  rw [Option.bind_some, if_pos (by omega)]
  have e : (wrap64 (48 + Int.tmod (d : Int) 10)) % 256 = ((48 + d : Nat) : Int) := by
    rw [Int.tmod_eq_emod_of_nonneg (by omega), w64 (by omega) (by omega)]; omega
  rw [e]
  rfl
theorem decText_step (K : Nat) (x : ByteArray) (r u : Int) : spec_DecText.l0 (K + 1) x r u = (if r > 0 then (if u = 0 then none else ((spec_l1dec.f K (wrap64 (Int.tdiv r u))).bind fun t => (if x.size + t.size ≤ 9223372036854775807 then (spec_DecText.l0 K (x ++ t) (Int.tmod r u) (wrap64 (Int.tdiv u 10))) else none))) else some x) := by
  simp only [spec_DecText.l0]
theorem trimR_cons (a : UInt8) (l : List UInt8) : trimR (a :: l) = if trimR l = [] then (if a = 48 then [] else [a]) else a :: trimR l := rfl
theorem dl_succ (j r : Nat) : dl (j + 1) r = UInt8.ofNat (48 + r / 10 ^ j) :: dl j (r % 10 ^ j) := rfl
theorem decText_l0 (j : Nat) : ∀ (x : List UInt8) (r k : Nat), j ≤ 6 → 0 < r → r < 10 ^ (j + 1) → x.length + j ≤ 1000 →
    spec_DecText.l0 (k + j + 3) (bmk x) (r : Int) ((10 ^ j : Nat) : Int) = some (bmk (x ++ trimR (dl (j + 1) r))) := by
  induction j with
  | zero =>
    intro x r k _ h0 h1 hx
    have hr : r < 10 := by simpa using h1
    have e : Int.tdiv (r : Int) ((10 ^ 0 : Nat) : Int) = (r : Int) := by simp
    have e2 : Int.tmod (r : Int) ((10 ^ 0 : Nat) : Int) = 0 := by simp
    rw [show k + 0 + 3 = (k + 1) + 1 + 1 by omega, decText_step, if_pos (by omega), if_neg (by simp), e, e2, w64 (by omega) (by omega), one_digit r hr, Option.bind_some, if_pos (by simp [bmk_size]; omega), bmk_append, decText_step, if_neg (by omega)]
    have hd := digit_ne r h0 hr
    have e3 : dl 0 (r % 10 ^ 0) = [] := rfl
    have e4 : r / 10 ^ 0 = r := by simp
    rw [dl_succ, e3, e4, trimR_cons, if_pos (show trimR [] = [] from rfl), if_neg hd]
  | succ j ih =>
    intro x r k hj h0 h1 hx
    have hp : 0 < 10 ^ (j + 1) := Nat.pos_of_ne_zero (by simp)
    have hd : r / 10 ^ (j + 1) < 10 := Nat.div_lt_of_lt_mul (by rw [Nat.pow_succ] at h1; omega)
    have hR := Nat.mod_lt r hp
    have hz : r % 10 ^ (j + 1) = 0 → 0 < r / 10 ^ (j + 1) := fun h => by
      have := Nat.div_add_mod r (10 ^ (j + 1))
      rcases Nat.eq_zero_or_pos (r / 10 ^ (j + 1)) with e | e
      · rw [e] at this; omega
      · exact e
    have hu : (10 ^ (j + 1) : Nat) ≤ 10 ^ 6 := Nat.pow_le_pow_right (by omega) hj
    have e : Int.tdiv (r : Int) ((10 ^ (j + 1) : Nat) : Int) = ((r / 10 ^ (j + 1) : Nat) : Int) := (Int.ofNat_tdiv _ _).symm
    have e2 : Int.tmod (r : Int) ((10 ^ (j + 1) : Nat) : Int) = ((r % 10 ^ (j + 1) : Nat) : Int) := (Int.ofNat_tmod _ _).symm
    have e3 : Int.tdiv ((10 ^ (j + 1) : Nat) : Int) 10 = ((10 ^ j : Nat) : Int) := by
      have := (Int.ofNat_tdiv (10 ^ (j + 1)) 10).symm
      rw [Nat.pow_succ, Nat.mul_div_cancel _ (by omega)] at this
      rw [Nat.pow_succ]
      exact this
    have hq : (10 ^ j : Nat) ≤ 10 ^ 6 := Nat.pow_le_pow_right (by omega) (by omega)
    have hne : r % 10 ^ (j + 1) ≠ 0 → trimR (dl (j + 1) (r % 10 ^ (j + 1))) ≠ [] := fun h => dl_pos (j + 1) _ (by omega) hR
    rw [dl_succ, trimR_cons, show k + (j + 1) + 3 = (k + j + 2) + 1 + 1 by omega, decText_step, e, e2, e3]
    generalize r / 10 ^ (j + 1) = D at *
    generalize r % 10 ^ (j + 1) = R at *
    generalize 10 ^ j = U at *
    generalize 10 ^ (j + 1) = V at *
    rw [if_pos (by omega), if_neg (by omega), w64 (x := (D : Int)) (by omega) (by omega), w64 (x := (U : Int)) (by omega) (by omega), one_digit _ hd, Option.bind_some, if_pos (by simp [bmk_size]; omega), bmk_append]
    by_cases h : R = 0
    · have hd0 := hz h
      rw [h, decText_step, if_neg (by omega), dl_zero, if_pos rfl, if_neg (digit_ne _ hd0 hd)]
    · rw [show k + j + 2 + 1 = k + j + 3 by omega, ih (x ++ [UInt8.ofNat (48 + D)]) R k (by omega) (by omega) hR (by simp; omega), if_neg (hne h), List.append_assoc]; rfl
theorem decDigits_le (k : Nat) : ∀ n : Nat, n < 10 ^ (k + 1) → (Lib.decDigits n).length ≤ k + 1 := by
  induction k with
  | zero => intro n h; rw [Lib.decDigits_one (by simpa using h)]; simp
  | succ k ih =>
    intro n h
    by_cases hn : n < 10
    · rw [Lib.decDigits_one hn]; simp
    · have := ih (n / 10) (by rw [Nat.pow_succ] at h; omega)
      rw [Lib.decDigits.eq_1 n, dif_neg hn, List.length_append]
      simp; omega
theorem digits_le (m : Nat) (h : m ≤ 9000000000000) : (Lib.decDigits m).length ≤ 21 := by
  have := decDigits_le 12 m (by omega)
  omega
theorem l1dec_step (K : Nat) (n : Int) : spec_l1dec.f (K + 1) n = (if n < 10 then some (strOfNums [(wrap64 (48 + (Int.tmod n 10))) % 256]) else ((spec_l1dec.f K (wrap64 (Int.tdiv n 10))).bind fun t => (if t.size + (strOfNums [(wrap64 (48 + (Int.tmod n 10))) % 256]).size ≤ 9223372036854775807 then (some (t ++ (strOfNums [(wrap64 (48 + (Int.tmod n 10))) % 256]))) else (none)))) := by
  simp only [spec_l1dec.f]
  rw [Option.bind_some]
theorem dec_eq (k : Nat) : ∀ n : Nat, n < 10 ^ (k + 1) → n ≤ 9000000000000 → spec_l1dec.f (k + 1) (n : Int) = some (bmk (Lib.decDigits n)) := by
  induction k with
  | zero =>
    intro n h _
    have hn : n < 10 := by simpa using h
    rw [one_digit n hn, Lib.decDigits_one hn]
  | succ k ih =>
    intro n h hb
    by_cases hn : n < 10
    · rw [one_digit n hn, Lib.decDigits_one hn]
    · have e : (wrap64 (48 + Int.tmod (n : Int) 10)) % 256 = ((48 + n % 10 : Nat) : Int) := by
        rw [Int.tmod_eq_emod_of_nonneg (by omega), w64 (by omega) (by omega)]; omega
      have e2 : wrap64 (Int.tdiv (n : Int) 10) = ((n / 10 : Nat) : Int) := by
        rw [Int.tdiv_eq_ediv_of_nonneg (by omega), w64 (by omega) (by omega)]; omega
      have hlen := digits_le (n / 10) (by omega)
      rw [l1dec_step, if_neg (by omega), e2, ih (n / 10) (by rw [Nat.pow_succ] at h; omega) (by omega), Option.bind_some, e]
      have es : strOfNums [((48 + n % 10 : Nat) : Int)] = bmk [UInt8.ofNat (48 + n % 10)] := rfl
      rw [es, if_pos (by simp [bmk_size]; omega), bmk_append]
      congr 2
      rw [Lib.decDigits.eq_1 n, dif_neg hn]
theorem million (r : Nat) (h : r < 1000000) : Lib.decDigits (1000000 + r) = 49 :: dl 6 r := by
  have e : ∀ u, ¬ u < 10 → Lib.decDigits u = Lib.decDigits (u / 10) ++ [UInt8.ofNat (48 + u % 10)] := fun u hu => by rw [Lib.decDigits.eq_1 u, dif_neg hu]
  rw [e (1000000 + r) (by omega), e ((1000000 + r) / 10) (by omega), e ((1000000 + r) / 10 / 10) (by omega), e ((1000000 + r) / 10 / 10 / 10) (by omega), e ((1000000 + r) / 10 / 10 / 10 / 10) (by omega),
    e ((1000000 + r) / 10 / 10 / 10 / 10 / 10) (by omega), Lib.decDigits_one (i := (1000000 + r) / 10 / 10 / 10 / 10 / 10 / 10) (by omega)]
  have q : ∀ a b : Nat, a = b → UInt8.ofNat (48 + a) = UInt8.ofNat (48 + b) := fun a b h => by rw [h]
  simp only [dl, List.cons_append, List.nil_append]
  rw [q ((1000000 + r) / 10 / 10 / 10 / 10 / 10 / 10) 1 (by omega)]
  have p5 : (10 : Nat) ^ 5 = 100000 := by decide
  have p4 : (10 : Nat) ^ 4 = 10000 := by decide
  have p3 : (10 : Nat) ^ 3 = 1000 := by decide
  have p2 : (10 : Nat) ^ 2 = 100 := by decide
  have p1 : (10 : Nat) ^ 1 = 10 := by decide
  have p0 : (10 : Nat) ^ 0 = 1 := by decide
  rw [p5, p4, p3, p2, p1, p0]
  rw [q ((1000000 + r) / 10 / 10 / 10 / 10 / 10 % 10) (r / 100000) (by omega), q ((1000000 + r) / 10 / 10 / 10 / 10 % 10) (r % 100000 / 10000) (by omega), q ((1000000 + r) / 10 / 10 / 10 % 10) (r % 100000 % 10000 / 1000) (by omega),
    q ((1000000 + r) / 10 / 10 % 10) (r % 100000 % 10000 % 1000 / 100) (by omega), q ((1000000 + r) / 10 % 10) (r % 100000 % 10000 % 1000 % 100 / 10) (by omega), q ((1000000 + r) % 10) (r % 100000 % 10000 % 1000 % 100 % 10 / 1) (by omega)]
  rfl
/-- The notation of a decimal. -/
def fracL (r : Nat) : List UInt8 := if r = 0 then [] else 46 :: trimR (dl 6 r)
def absL (m : Nat) : List UInt8 := Lib.decDigits (m / 1000000) ++ fracL (m % 1000000)
def decT (n : Int) : List UInt8 := if isDec n then (if n < 0 then 45 :: absL n.natAbs else absL n.natAbs) else []
theorem implDecText_j0 (k m : Nat) (x : List UInt8) (hm : m ≤ 9000000000000) (hx : x.length ≤ 10) (hk : 20 ≤ k) : impl_DecText.j0 (k + 1) (m : Int) (bmk x) = some (bmk (x ++ absL m)) := by
  simp only [impl_DecText.j0]
  have hl := digits_le (m / 1000000) (by omega)
  have e1 : wrap64 (Int.tdiv (m : Int) 1000000) = ((m / 1000000 : Nat) : Int) := by
    rw [Int.tdiv_eq_ediv_of_nonneg (by omega), w64 (by omega) (by omega)]; omega
  have e2 : Int.tmod (m : Int) 1000000 = ((m % 1000000 : Nat) : Int) := by
    rw [Int.tmod_eq_emod_of_nonneg (by omega)]; omega
  have e3 : strconv_Itoa.f ((m / 1000000 : Nat) : Int) = some (bmk (Lib.decDigits (m / 1000000))) := by
    unfold strconv_Itoa.f
    rw [if_pos (by omega), Lib.itoa_nonneg]; rfl
  rw [e1, e2, e3, Option.bind_some, if_pos (by simp [bmk_size]; omega), bmk_append]
  unfold absL fracL
  by_cases h : m % 1000000 = 0
  · rw [if_neg (by omega), if_pos h, List.append_nil]
  · have e4 : wrap64 (1000000 + ((m % 1000000 : Nat) : Int)) = ((1000000 + m % 1000000 : Nat) : Int) := by rw [w64 (by omega) (by omega)]; omega
    have e5 : strconv_Itoa.f ((1000000 + m % 1000000 : Nat) : Int) = some (bmk (49 :: dl 6 (m % 1000000))) := by
      unfold strconv_Itoa.f
      rw [if_pos (by omega), Lib.itoa_nonneg, million _ (by omega)]; rfl
    have hsz : (bmk (49 :: dl 6 (m % 1000000))).size = 7 := by rw [bmk_size, List.length_cons, dl_length]
    have hex : (bmk (49 :: dl 6 (m % 1000000))).extract 1 7 = bmk (dl 6 (m % 1000000)) := by
      rw [bmk_extract]
      rw [List.drop_one, List.tail_cons, List.take_of_length_le (by rw [dl_length]; omega)]
    have ht := trimR_length (dl 6 (m % 1000000))
    rw [dl_length] at ht
    have e6 : (⟨#[46]⟩ : ByteArray) = bmk [46] := rfl
    rw [if_pos (by omega), if_neg h, e4, e5, Option.bind_some, hsz, if_pos (by omega), hex, trimRight _ k (by rw [dl_length]; omega) (by rw [dl_length]; omega), Option.bind_some, if_pos (by simp [bmk_size]; omega), e6, bmk_append, if_pos (by simp [bmk_size]; omega), bmk_append, List.append_assoc]
    rfl
theorem implDecText_eq (n : Int) (k : Nat) (hk : 21 ≤ k) : impl_DecText.f k n = some (bmk (decT n)) := by
  obtain ⟨k, rfl⟩ : ∃ m, k = m + 1 := ⟨k - 1, by omega⟩
  unfold impl_DecText.f decT
  rw [decOk_eq, Option.bind_some]
  by_cases h : isDec n
  · have hd := h
    unfold isDec at hd
    have em : mx n (wrap64 (-n)) = (n.natAbs : Int) := by rw [w64 (by omega) (by omega)]; unfold mx; omega
    have e1 : (⟨#[45]⟩ : ByteArray) = bmk [45] := rfl
    have e2 : (⟨#[]⟩ : ByteArray) = bmk [] := rfl
    rw [if_pos (decide_eq_true h), if_pos h, em, e1, e2, implDecText_j0 k _ [45] (by omega) (by simp) (by omega), implDecText_j0 k _ [] (by omega) (by simp) (by omega)]
    by_cases c : n < 0
    · rw [if_pos c, if_pos c]; rfl
    · rw [if_neg c, if_neg c]; rfl
  · rw [if_neg (by simp [h]), if_neg h]; rfl
theorem specDecText_j0 (k m : Nat) (n : Int) (x : List UInt8) (hn : isDec n) (hm : m = n.natAbs) (hx : x.length ≤ 30) : spec_DecText.j0 (k + 9) n (bmk x) = some (bmk (x ++ fracL (m % 1000000))) := by
  have hd := hn
  unfold isDec at hd
  have ea : ab n = (m : Int) := by unfold ab; split <;> omega
  simp only [spec_DecText.j0]
  have e2 : Int.tmod (m : Int) 1000000 = ((m % 1000000 : Nat) : Int) := by
    rw [Int.tmod_eq_emod_of_nonneg (by omega)]; omega
  rw [l1abs_eq n hn, Option.bind_some, ea, e2]
  unfold fracL
  by_cases h : m % 1000000 = 0
  · rw [if_pos (by omega), if_pos h, List.append_nil]
  · have e6 : (⟨#[46]⟩ : ByteArray) = bmk [46] := rfl
    have hq := decText_l0 5 (x ++ [46]) (m % 1000000) k (by omega) (by omega) (by omega) (by simp; omega)
    rw [if_neg (by omega), if_neg h, if_pos (by simp [bmk_size]; omega), e6, bmk_append]
    rw [show k + 5 + 3 = k + 8 by omega] at hq
    refine hq.trans ?_
    rw [List.append_assoc]; rfl
theorem specDecText_eq (n : Int) (k : Nat) (hk : 21 ≤ k) : spec_DecText.f k n = some (bmk (decT n)) := by
  obtain ⟨k, rfl⟩ : ∃ m, k = m + 20 + 1 := ⟨k - 21, by omega⟩
  unfold spec_DecText.f decT
  rw [specDecOk_eq, Option.bind_some]
  by_cases h : isDec n
  · have hd := h
    unfold isDec at hd
    have ea : ab n = (n.natAbs : Int) := by unfold ab; split <;> omega
    have e1 : wrap64 (Int.tdiv (n.natAbs : Int) 1000000) = ((n.natAbs / 1000000 : Nat) : Int) := by
      rw [Int.tdiv_eq_ediv_of_nonneg (by omega), w64 (by omega) (by omega)]; omega
    have hp : n.natAbs / 1000000 < 10 ^ (k + 20 + 1) := Nat.lt_of_lt_of_le (show n.natAbs / 1000000 < 10 ^ 13 by omega) (Nat.pow_le_pow_right (by omega) (by omega))
    have hl := digits_le (n.natAbs / 1000000) (by omega)
    have e3 : (⟨#[45]⟩ : ByteArray) = bmk [45] := rfl
    rw [if_pos (decide_eq_true h), if_pos h, l1abs_eq n h, Option.bind_some, ea, e1, dec_eq (k + 20) _ hp (by omega), Option.bind_some, e3, bmk_append]
    rw [show k + 20 + 1 = (k + 12) + 9 by omega, specDecText_j0 _ _ n _ h rfl (by simp; omega), specDecText_j0 _ _ n _ h rfl (by omega)]
    unfold absL
    by_cases c : n < 0
    · rw [if_pos c, if_pos c, if_pos (by simp [bmk_size]; omega)]; rfl
    · rw [if_neg c, if_neg c]
  · rw [if_neg (by simp [h]), if_neg h]; rfl
/-- It answers, and the answer is such. -/
def Dr {α : Type} (x : Option α) (P : α → Prop) : Prop := ∃ r, x = some r ∧ P r
theorem Dr.bind {α β : Type} {x : Option α} {P : α → Prop} {f : α → Option β} {R : β → Prop} (h : Dr x P) (g : ∀ r, P r → Dr (f r) R) : Dr (x.bind f) R := by
  obtain ⟨r, rfl, hp⟩ := h
  exact g r hp
theorem Dr.some {α : Type} {r : α} {P : α → Prop} (h : P r) : Dr (Option.some r) P := ⟨r, rfl, h⟩
theorem Dr.pos {α : Type} {c : Prop} [Decidable c] {x y : Option α} {P : α → Prop} (hc : c) (h : Dr x P) : Dr (if c then x else y) P := by rw [if_pos hc]; exact h
theorem Dr.ite {α : Type} {c : Prop} [Decidable c] {x y : Option α} {P : α → Prop} (h1 : c → Dr x P) (h2 : ¬ c → Dr y P) : Dr (if c then x else y) P := by
  by_cases hc : c
  · rw [if_pos hc]; exact h1 hc
  · rw [if_neg hc]; exact h2 hc
theorem Dr.mono {α : Type} {x : Option α} {P R : α → Prop} (h : Dr x P) (hr : ∀ r, P r → R r) : Dr x R := by
  obtain ⟨r, e, hp⟩ := h
  exact ⟨r, e, hr r hp⟩
end Go.Proofs.YtnfiljnncpieoaaDoor.Pure
namespace Go.Proofs.YtnfiljnncpieoaaDoor.Pure
open Go Go.RowKit Go.Proofs.YtnfiljnncpieoaaDoor.Q Go.Proofs.YtnfiljnncpieoaaDoorW.PrintWords Go.Proofs.YtnfiljnncpieoaaDoorW.PrintLast Go.Proofs.YtnfiljnncpieoaaDoorW.PrintMore
section
variable (b : List Int) (hb : b.length ≤ 9223372036854775807)
include hb
theorem below_dr (i h n : Int) (hi : 0 ≤ i) (hn : 0 < n) (hn2 : n ≤ 256) : Dr (spec_l1Below.f b i h n) (fun r => 0 ≤ r.2.1 ∧ 0 ≤ r.1 ∧ r.1 < n) := by
  obtain ⟨r, i', h', e, hi', _, hr⟩ := l1Below_some b i h n hi hb
  exact ⟨_, e, hi', hr hn hn2⟩
theorem num_dr (i h : Int) (hi : 0 ≤ i) : Dr (spec_l1num.f b i h) (fun r => 0 ≤ r.2.1 ∧ -9223372036854775808 ≤ r.1 ∧ r.1 ≤ 9223372036854775807) := by
  obtain ⟨r, i', h', e, hi', hr⟩ := l1num_some b i h hi hb
  exact ⟨_, e, hi', hr⟩
theorem of_l0 (n : Nat) (set : ByteArray) (h0 : 0 < set.size) (h1 : set.size ≤ 256) (hn : n ≤ 1000) (d : Nat) : ∀ (j k : Nat) (x : List Int) (i h : Int), 0 ≤ i → j + d = n → d < k → x.length = j →
    Dr (spec_l1of.l0 k (n : Int) set x (j : Int) b i h) (fun r => r.1.size = n ∧ 0 ≤ r.2.1 ∧ ∃ y, r.1 = strOfNums (x ++ y) ∧ ∀ c ∈ y, ∃ q : Nat, q < set.size ∧ c = bt set q) := by
  induction d with
  | zero =>
    intro j k x i h hi hj hk hx
    obtain ⟨k, rfl⟩ : ∃ m, k = m + 1 := ⟨k - 1, by omega⟩
    simp only [spec_l1of.l0]
    rw [if_neg (by omega)]
    exact Dr.some ⟨by rw [strOfNums_size]; omega, hi, [], by simp, by simp⟩
  | succ d ih =>
    intro j k x i h hi hj hk hx
    obtain ⟨k, rfl⟩ : ∃ m, k = m + 1 := ⟨k - 1, by omega⟩
    simp only [spec_l1of.l0]
    rw [if_pos (by omega)]
    refine Dr.bind (below_dr b hb i h (set.size : Int) hi (by omega) (by omega)) ?_
    rintro ⟨r, i', h'⟩ ⟨hi', hr0, hr1⟩
    dsimp only at hi' hr0 hr1 ⊢
    refine Dr.pos hr0 (Dr.pos hr1 (Dr.pos (by omega) ?_))
    rw [w64 (by omega) (by omega), show (j : Int) + 1 = ((j + 1 : Nat) : Int) by omega]
    refine (ih (j + 1) k (x ++ [bt set r]) i' h' hi' (by omega) (by omega) (by simp [hx])).mono ?_
    rintro ⟨s, i2, h2⟩ ⟨a1, a2, y, a3, a4⟩
    refine ⟨a1, a2, bt set r :: y, by rw [a3, List.append_assoc]; rfl, fun c hc => ?_⟩
    rcases List.mem_cons.1 hc with rfl | hc
    · obtain ⟨q, rfl⟩ := Int.eq_ofNat_of_zero_le hr0
      exact ⟨q, by omega, rfl⟩
    · exact a4 c hc
theorem of_dr (k n : Nat) (i h : Int) (set : ByteArray) (hi : 0 ≤ i) (h0 : 0 < set.size) (h1 : set.size ≤ 256) (hn : n ≤ 1000) (hk : n < k) :
    Dr (spec_l1of.f k b i h (n : Int) set) (fun r => r.1.size = n ∧ 0 ≤ r.2.1 ∧ ∃ y, r.1 = strOfNums y ∧ ∀ c ∈ y, ∃ q : Nat, q < set.size ∧ c = bt set q) := by
  unfold spec_l1of.f
  refine (of_l0 b hb n set h0 h1 hn n 0 k [] i h hi (by omega) (by omega) rfl).mono ?_
  rintro ⟨s, i2, h2⟩ ⟨a1, a2, y, a3, a4⟩
  exact ⟨a1, a2, y, by simpa using a3, a4⟩
/-- How many of a set: a number drawn below m. -/
theorem of_dr' (k : Nat) (n : Int) (i h : Int) (set : ByteArray) (hi : 0 ≤ i) (h0 : 0 < set.size) (h1 : set.size ≤ 256) (hn0 : 0 ≤ n) (hn : n ≤ 1000) (hk : 1001 ≤ k) :
    Dr (spec_l1of.f k b i h n set) (fun r => (r.1.size : Int) = n ∧ 0 ≤ r.2.1) := by
  obtain ⟨m, rfl⟩ := Int.eq_ofNat_of_zero_le hn0
  refine (of_dr b hb k m i h set hi h0 h1 (by omega) (by omega)).mono ?_
  rintro ⟨s, i2, h2⟩ ⟨a1, a2, _⟩
  exact ⟨by dsimp only at a1 ⊢; omega, a2⟩
theorem new_dr (k : Nat) (hk : b.length < k) : Dr (spec_l1New.f k b) (fun r => r.1 = b ∧ r.2.1 = 0) := by
  obtain ⟨h, e⟩ := l1New_some b hb k hk
  exact ⟨_, e, rfl, rfl⟩
end
end Go.Proofs.YtnfiljnncpieoaaDoor.Pure
namespace Go.Proofs.YtnfiljnncpieoaaDoor.Pure
open Go Go.RowKit Go.Proofs.YtnfiljnncpieoaaDoor.Q Go.Proofs.YtnfiljnncpieoaaDoorW.PrintWords Go.Proofs.YtnfiljnncpieoaaDoorW.PrintLast Go.Proofs.YtnfiljnncpieoaaDoorW.PrintMore
theorem toList_nil (s : ByteArray) : s.toList = ([] : List UInt8) ↔ s.size = 0 := by
  have h : s.toList.length = s.size := by simp [ByteArray.toList_eq, Array.length_toList]
  constructor
  · intro e; rw [e] at h; exact h.symm
  · intro e; rw [e] at h; exact List.eq_nil_of_length_eq_zero h
/-- Is a value valid? -/
def cellV (t n : Int) (s : ByteArray) : Bool :=
  if t = 0 then decide (s.size = 0) && (n == 0)
  else if t = 1 then decide (s.size = 0) && decide (isDec n)
  else if t = 2 then decide (s.size ≤ 500) && (n == 0)
  else if t = 3 then decide (s.size ≤ 500) && (looksV s && (n == (readV s).1))
  else false
theorem implCellOk_eq (t n : Int) (s : ByteArray) (hs : s.size ≤ 140737488355328) : impl_CellOk.f t n s = some (cellV t n s) := by
  unfold impl_CellOk.f cellV
  by_cases h0 : t = 0
  · rw [if_pos h0, if_pos h0]
    by_cases c : s.size = 0
    · rw [if_pos ((toList_nil s).2 c), decide_eq_true c, Bool.true_and]
    · rw [if_neg (fun h => c ((toList_nil s).1 h)), decide_eq_false c, Bool.false_and]
  rw [if_neg h0, if_neg h0]
  by_cases h1 : t = 1
  · rw [if_pos h1, if_pos h1]
    by_cases c : s.size = 0
    · rw [if_pos ((toList_nil s).2 c), decide_eq_true c, Bool.true_and, decOk_eq, Option.bind_some]
    · rw [if_neg (fun h => c ((toList_nil s).1 h)), decide_eq_false c, Bool.false_and]
  rw [if_neg h1, if_neg h1]
  by_cases h2 : t = 2
  · rw [if_pos h2, if_pos h2]
    by_cases c : s.size ≤ 500
    · rw [if_pos (by omega), decide_eq_true c, Bool.true_and]
    · rw [if_neg (by omega), decide_eq_false c, Bool.false_and]
  rw [if_neg h2, if_neg h2]
  by_cases h3 : t = 3
  · rw [if_pos h3, if_pos h3, implReadDec_eq s hs, Option.bind_some]
    by_cases c : s.size ≤ 500
    · rw [if_pos (by omega), decide_eq_true c, Bool.true_and, implLooksNum_eq s hs, Option.bind_some]
      cases looksV s <;> rfl
    · rw [if_neg (by omega), decide_eq_false c, Bool.false_and]
  rw [if_neg h3, if_neg h3]
/-- A value's text. -/
def strV (t n : Int) (s : ByteArray) : ByteArray := if t = 1 then bmk (decT n) else s
theorem implStr_eq (t n : Int) (s : ByteArray) (k : Nat) (hk : 21 ≤ k) : impl_Cell_str.f k t n s = some (strV t n s) := by
  unfold impl_Cell_str.f strV
  by_cases h : t = 1
  · rw [if_pos h, if_pos h, implDecText_eq n k hk, Option.bind_some]
  · rw [if_neg h, if_neg h]
theorem decT_le (n : Int) : (decT n).length ≤ 40 := by
  unfold decT
  by_cases h : isDec n
  · rw [if_pos h]
    unfold isDec at h
    have e : ∀ m : Nat, m ≤ 9000000000000 → (absL m).length ≤ 30 := by
      intro m hm
      unfold absL fracL
      have h1 := digits_le (m / 1000000) (by omega)
      rw [List.length_append]
      split
      · simp; omega
      · have := trimR_length (dl 6 (m % 1000000))
        rw [dl_length] at this
        simp; omega
    have := e n.natAbs (by omega)
    split
    · simp; omega
    · omega
  · rw [if_neg h]; simp
end Go.Proofs.YtnfiljnncpieoaaDoor.Pure
namespace Go.Proofs.YtnfiljnncpieoaaDoor.Pure
open Go Go.RowKit Go.Proofs.YtnfiljnncpieoaaDoor.Q Go.Proofs.YtnfiljnncpieoaaDoorW.PrintWords Go.Proofs.YtnfiljnncpieoaaDoorW.PrintLast Go.Proofs.YtnfiljnncpieoaaDoorW.PrintMore
section
variable (b : List Int) (hb : b.length ≤ 9223372036854775807)
include hb
theorem bend_dr (k : Nat) (i h : Int) (s : ByteArray) (hi : 0 ≤ i) (hs : s.size ≤ 200) (hk : 1001 ≤ k) : Dr (spec_l1bend.f k b i h s) (fun r => r.1.size ≤ s.size + 1 ∧ 0 ≤ r.2.1) := by
  unfold spec_l1bend.f
  rw [w64 (x := (s.size : Int) + 1) (by omega) (by omega)]
  refine Dr.bind (below_dr b hb i h _ hi (by omega) (by omega)) ?_
  rintro ⟨r, i1, h1⟩ ⟨hi1, hr0, hr1⟩
  dsimp only at hi1 hr0 hr1 ⊢
  obtain ⟨q, rfl⟩ := Int.eq_ofNat_of_zero_le hr0
  refine Dr.bind (below_dr b hb i1 h1 3 hi1 (by omega) (by omega)) ?_
  rintro ⟨r2, i2, h2⟩ ⟨hi2, _, _⟩
  dsimp only at hi2 ⊢
  have hq : (s.extract 0 q).size = q := by rw [ByteArray.size_extract]; omega
  have hq2 : (s.extract q s.size).size = s.size - q := by rw [ByteArray.size_extract]; omega
  rw [Int.toNat_natCast]
  refine Dr.ite (fun _ => ?_) (fun _ => Dr.ite (fun _ => ?_) (fun _ => Dr.ite (fun hlt => ?_) (fun _ => ?_)))
  · refine Dr.pos (by omega) (Dr.pos (by omega) (Dr.bind (of_dr' b hb k 1 i2 h2 _ hi2 (by decide) (by decide) (by omega) (by omega) hk) ?_))
    rintro ⟨t, i3, h3⟩ ⟨ht, hi3⟩
    dsimp only at ht hi3 ⊢
    refine Dr.pos (by omega) (Dr.pos (by rw [ByteArray.size_append]; omega) (Dr.some ⟨?_, hi3⟩))
    dsimp only
    rw [ByteArray.size_append, ByteArray.size_append]; omega
  · refine Dr.pos (by omega) (Dr.pos (by omega) (Dr.some ⟨by dsimp only; omega, hi2⟩))
  · rw [w64 (x := (q : Int) + 1) (by omega) (by omega)]
    have hq3 : (s.extract (q + 1) s.size).size = s.size - (q + 1) := by rw [ByteArray.size_extract]; omega
    rw [show ((q : Int) + 1).toNat = q + 1 by omega]
    refine Dr.pos (by omega) (Dr.pos (by omega) (Dr.pos (by omega) (Dr.pos (by omega) (Dr.pos (by omega) (Dr.some ⟨?_, hi2⟩)))))
    dsimp only
    rw [ByteArray.size_append]; omega
  · refine Dr.pos (by omega) (Dr.some ⟨?_, hi2⟩)
    dsimp only
    rw [ByteArray.size_append]
    have : (⟨#[125]⟩ : ByteArray).size = 1 := rfl
    omega
theorem drawReadDec_dr (k : Nat) (hk : b.length + 1001 ≤ k) : Dr (spec_DrawReadDec.f k b) (fun r => r.size ≤ 100) := by
  unfold spec_DrawReadDec.f
  refine Dr.bind (new_dr b hb k (by omega)) ?_
  rintro ⟨c, i, h⟩ ⟨rfl, rfl⟩
  dsimp only
  refine Dr.bind (below_dr c hb 0 h 3 (by omega) (by omega) (by omega)) ?_
  rintro ⟨n1, i1, h1⟩ ⟨hi1, p1, q1⟩
  dsimp only at hi1 p1 q1 ⊢
  refine Dr.bind (of_dr' c hb k n1 i1 h1 _ hi1 (by decide) (by decide) p1 (by omega) (by omega)) ?_
  rintro ⟨s1, i2, h2⟩ ⟨hs1, hi2⟩
  dsimp only at hs1 hi2 ⊢
  refine Dr.bind (num_dr c hb i2 h2 hi2) ?_
  rintro ⟨n2, i3, h3⟩ ⟨hi3, _, _⟩
  dsimp only at hi3 ⊢
  rw [specDecText_eq n2 k (by omega), Option.bind_some]
  have ht : (bmk (decT n2)).size ≤ 40 := decT_le n2
  generalize bmk (decT n2) = t at ht ⊢
  refine Dr.pos (by omega) (Dr.bind (below_dr c hb i3 h3 4 hi3 (by omega) (by omega)) ?_)
  rintro ⟨n3, i4, h4⟩ ⟨hi4, _, _⟩
  dsimp only at hi4 ⊢
  have hst : (s1 ++ t).size ≤ 50 := by rw [ByteArray.size_append]; omega
  generalize s1 ++ t = st at hst ⊢
  refine Dr.ite (fun _ => ?_) (fun _ => Dr.ite (fun _ => ?_) (fun _ => Dr.ite (fun _ => ?_) (fun _ => Dr.some (by omega))))
  · refine Dr.bind (below_dr c hb i4 h4 4 hi4 (by omega) (by omega)) ?_
    rintro ⟨n4, i5, h5⟩ ⟨hi5, p5, q5⟩
    dsimp only at hi5 p5 q5 ⊢
    refine Dr.bind (of_dr' c hb k n4 i5 h5 _ hi5 (by decide) (by decide) p5 (by omega) (by omega)) ?_
    rintro ⟨s2, i6, h6⟩ ⟨hs2, hi6⟩
    dsimp only at hs2 ⊢
    exact Dr.pos (by omega) (Dr.some (by rw [ByteArray.size_append]; omega))
  · refine Dr.bind (below_dr c hb i4 h4 9 hi4 (by omega) (by omega)) ?_
    rintro ⟨n4, i5, h5⟩ ⟨hi5, p5, q5⟩
    dsimp only at hi5 p5 q5 ⊢
    refine Dr.bind (of_dr' c hb k n4 i5 h5 _ hi5 (by decide) (by decide) p5 (by omega) (by omega)) ?_
    rintro ⟨s2, i6, h6⟩ ⟨hs2, hi6⟩
    dsimp only at hs2 ⊢
    exact Dr.some (by omega)
  · refine Dr.bind (bend_dr c hb k i4 h4 st hi4 (by omega) (by omega)) ?_
    rintro ⟨s2, i5, h5⟩ ⟨hs2, hi5⟩
    dsimp only at hs2 ⊢
    exact Dr.some (by omega)
theorem once_dr (i h n : Int) (hi : 0 ≤ i) (hn : 0 < n) (hn2 : n ≤ 256) : Dr (spec_l1Once.f b i h n) (fun r => 0 ≤ r.2.1) := by
  unfold spec_l1Once.f
  refine Dr.bind (below_dr b hb i h n hi hn hn2) ?_
  rintro ⟨r, i1, h1⟩ ⟨hi1, _, _⟩
  exact Dr.some hi1
end
end Go.Proofs.YtnfiljnncpieoaaDoor.Pure
namespace Go.Proofs.YtnfiljnncpieoaaDoor.Pure
open Go Go.RowKit Go.Proofs.YtnfiljnncpieoaaDoor.Q Go.Proofs.YtnfiljnncpieoaaDoorW.PrintWords Go.Proofs.YtnfiljnncpieoaaDoorW.PrintLast Go.Proofs.YtnfiljnncpieoaaDoorW.PrintMore
theorem drawField_dr (b : List Int) (hb : b.length ≤ 9223372036854775807) (k : Nat) (hk : b.length + 1601 ≤ k) : Dr (spec_DrawFieldCell.f k b) (fun r => r.size ≤ 501) := by
  unfold spec_DrawFieldCell.f
  refine Dr.bind (new_dr b hb k (by omega)) ?_
  rintro ⟨c, i, h⟩ ⟨rfl, rfl⟩
  have hk2 : c.length + 1601 ≤ k := hk
  clear hk
  dsimp only
  refine Dr.bind (once_dr c hb 0 h 20 (by omega) (by omega) (by omega)) ?_
  rintro ⟨r, i1, h1⟩ hi1
  dsimp only at hi1 ⊢
  refine Dr.ite (fun _ => ?_) (fun _ => ?_)
  · refine Dr.bind (below_dr c hb i1 h1 2 hi1 (by omega) (by omega)) ?_
    rintro ⟨r3, i3, h3⟩ ⟨hi3, p, q⟩
    dsimp only at hi3 p q ⊢
    rw [w64 (x := 500 + r3) (by omega) (by omega)]
    refine Dr.bind (of_dr' c hb k (500 + r3) i3 h3 _ hi3 (by decide) (by decide) (by omega) (by omega) (by omega)) ?_
    rintro ⟨s2, i4, h4⟩ ⟨hs2, hi4⟩
    dsimp only at hs2 ⊢
    exact Dr.some (by omega)
  · refine Dr.bind (drawReadDec_dr c hb k (by omega)) ?_
    intro r hr
    exact Dr.some (by omega)
theorem runN_seg (p : Int → Bool) (d : List UInt8) : ∀ (a rest : List UInt8), (∀ c ∈ d, p (c.toNat : Int) = true) → (∀ c, rest.head? = some c → p (c.toNat : Int) = false) →
    Q.runN p (bmk (a ++ (d ++ rest))) a.length = d.length := by
  induction d with
  | nil =>
    intro a rest _ hr
    rw [List.nil_append]
    rcases rest with _ | ⟨c, rest⟩
    · exact runN_end (by rw [bmk_size]; simp)
    · refine runN_miss (by rw [bmk_size]; simp) ?_
      rw [bmk_bt _ a.length (by simp)]
      have := hr c rfl
      simpa using this
  | cons c d ih =>
    intro a rest hd hr
    have hc := hd c (List.mem_cons_self ..)
    rw [runN_hit (by rw [bmk_size]; simp) (by rw [bmk_bt _ a.length (by simp)]; simpa using hc)]
    have := ih (a ++ [c]) rest (fun x hx => hd x (List.mem_cons_of_mem _ hx)) hr
    rw [List.length_append] at this
    simp only [List.append_assoc, List.cons_append, List.nil_append, List.length_singleton] at this
    rw [List.cons_append, this, List.length_cons]
theorem digit_toNat (x : Nat) (h : x < 10) : (UInt8.ofNat (48 + x)).toNat = 48 + x := by
  rw [UInt8.toNat_ofNat']; omega
theorem decDigits_digits (k : Nat) : ∀ n, n < 10 ^ (k + 1) → ∀ c ∈ Lib.decDigits n, 48 ≤ c.toNat ∧ c.toNat ≤ 57 := by
  induction k with
  | zero =>
    intro n h c hc
    have hn : n < 10 := by simpa using h
    rw [Lib.decDigits_one hn] at hc
    simp only [List.mem_singleton] at hc
    rw [hc, digit_toNat n hn]; omega
  | succ k ih =>
    intro n h c hc
    by_cases hn : n < 10
    · rw [Lib.decDigits_one hn] at hc
      simp only [List.mem_singleton] at hc
      rw [hc, digit_toNat n hn]; omega
    · rw [Lib.decDigits.eq_1 n, dif_neg hn, List.mem_append] at hc
      rcases hc with hc | hc
      · exact ih (n / 10) (by rw [Nat.pow_succ] at h; omega) c hc
      · simp only [List.mem_singleton] at hc
        rw [hc, digit_toNat _ (Nat.mod_lt _ (by omega))]; omega
theorem dl_digits (j : Nat) : ∀ r, r < 10 ^ j → ∀ c ∈ dl j r, 48 ≤ c.toNat ∧ c.toNat ≤ 57 := by
  induction j with
  | zero => intro r _ c hc; cases hc
  | succ j ih =>
    intro r h c hc
    have hp : 0 < 10 ^ j := Nat.pos_of_ne_zero (by simp)
    rw [dl_succ, List.mem_cons] at hc
    rcases hc with rfl | hc
    · have hd : r / 10 ^ j < 10 := Nat.div_lt_of_lt_mul (by rw [Nat.pow_succ] at h; omega)
      generalize r / 10 ^ j = D at hd ⊢
      rw [digit_toNat _ hd]; omega
    · exact ih _ (Nat.mod_lt _ hp) c hc
/-- What is cut off are noughts. -/
theorem trimR_zeros (l : List UInt8) : l = trimR l ++ List.replicate (l.length - (trimR l).length) 48 := by
  induction l with
  | nil => rfl
  | cons a l ih =>
    have hle := trimR_length l
    rw [trimR_cons]
    by_cases h : trimR l = []
    · rw [if_pos h]
      rw [h, List.nil_append, List.length_nil, Nat.sub_zero] at ih
      by_cases h2 : a = 48
      · rw [if_pos h2, List.nil_append, List.length_nil, Nat.sub_zero, List.length_cons, List.replicate_succ, ← ih, h2]
      · rw [if_neg h2, List.length_cons, List.length_singleton, Nat.add_sub_cancel, ← ih]; rfl
    · rw [if_neg h, List.cons_append, List.length_cons, List.length_cons, Nat.add_sub_add_right, ← ih]
theorem trimR_sub (l : List UInt8) : ∀ c ∈ trimR l, c ∈ l := by
  intro c hc
  rw [trimR_zeros l]
  exact List.mem_append_left _ hc
theorem six_back (l : List UInt8) (h : l.length = 6) : (trimR l ++ [48, 48, 48, 48, 48, 48]).take 6 = l := by
  have hz := trimR_zeros l
  have hle := trimR_length l
  generalize trimR l = t at *
  rw [h] at hz hle
  have e6 : ([48, 48, 48, 48, 48, 48] : List UInt8) = List.replicate 6 48 := rfl
  rw [e6, List.take_append, List.take_of_length_le hle, List.take_replicate]
  rw [show min (6 - t.length) 6 = 6 - t.length by omega]
  exact hz.symm
/-- A list of bytes as numbers. -/
def nums8 (l : List UInt8) : List Int := l.map fun c => (c.toNat : Int)
theorem valFrom_nat (x : Int) (c : UInt8) (h : 48 ≤ c.toNat ∧ c.toNat ≤ 57) : valFrom x (nums8 [c]) = x * 10 + ((c.toNat - 48 : Nat) : Int) := by
  show x * 10 + ((c.toNat : Int) - 48) % 256 = _
  omega
theorem val_dec (k : Nat) : ∀ n, n < 10 ^ (k + 1) → valFrom 0 (nums8 (Lib.decDigits n)) = (n : Int) := by
  induction k with
  | zero =>
    intro n h
    have hn : n < 10 := by simpa using h
    have e := digit_toNat n hn
    rw [Lib.decDigits_one hn, valFrom_nat 0 _ (by omega), e]; omega
  | succ k ih =>
    intro n h
    by_cases hn : n < 10
    · have e := digit_toNat n hn
      rw [Lib.decDigits_one hn, valFrom_nat 0 _ (by omega), e]; omega
    · have e := digit_toNat (n % 10) (Nat.mod_lt _ (by omega))
      rw [Lib.decDigits.eq_1 n, dif_neg hn]
      unfold nums8
      rw [List.map_append, valFrom_append]
      have := ih (n / 10) (by rw [Nat.pow_succ] at h; omega)
      unfold nums8 at this
      rw [this]
      refine (valFrom_nat _ _ (by omega)).trans ?_
      rw [e]; omega
theorem val_dl (j : Nat) : ∀ (r : Nat) (x : Int), r < 10 ^ j → valFrom x (nums8 (dl j r)) = x * 10 ^ j + (r : Int) := by
  induction j with
  | zero =>
    intro r x h
    have : r = 0 := by simpa using h
    subst this
    show x = _
    simp
  | succ j ih =>
    intro r x h
    have hp : 0 < 10 ^ j := Nat.pos_of_ne_zero (by simp)
    have hd : r / 10 ^ j < 10 := Nat.div_lt_of_lt_mul (by rw [Nat.pow_succ] at h; omega)
    have e := digit_toNat _ hd
    have hs := ih (r % 10 ^ j) (x * 10 + ((r / 10 ^ j : Nat) : Int)) (Nat.mod_lt _ hp)
    have hv : valFrom x (nums8 [UInt8.ofNat (48 + r / 10 ^ j)]) = x * 10 + ((r / 10 ^ j : Nat) : Int) := by
      generalize r / 10 ^ j = D at hd e ⊢
      rw [valFrom_nat x _ (by omega), e, show 48 + D - 48 = D by omega]
    have step : valFrom x (nums8 (dl (j + 1) r)) = valFrom (valFrom x (nums8 [UInt8.ofNat (48 + r / 10 ^ j)])) (nums8 (dl j (r % 10 ^ j))) := rfl
    rw [step, hv, hs]
    have hm := Nat.div_add_mod r (10 ^ j)
    have hmi : ((10 : Int) ^ j) * ((r / 10 ^ j : Nat) : Int) + ((r % 10 ^ j : Nat) : Int) = (r : Int) := by
      have := congrArg (fun q : Nat => (q : Int)) hm
      simp only [Int.natCast_add, Int.natCast_mul, Int.natCast_pow] at this
      exact this
    rw [Int.pow_succ]
    generalize ((r / 10 ^ j : Nat) : Int) = A at *
    generalize ((r % 10 ^ j : Nat) : Int) = B at *
    generalize (10 : Int) ^ j = P at *
    rw [← hmi]
    grind
theorem decDigits_ne (n : Nat) : Lib.decDigits n ≠ [] := by
  rw [Lib.decDigits.eq_1]
  split <;> simp
theorem bytesOf_bmk (l : List UInt8) : bytesOf (bmk l) = nums8 l := rfl
set_option maxHeartbeats 1000000 in
theorem readV_decT (n : Int) (h : isDec n) : readV (bmk (decT n)) = (n, ((decT n).length : Int)) := by
  have hd := h
  unfold isDec at hd
  obtain ⟨m, hm⟩ : ∃ m, m = n.natAbs := ⟨_, rfl⟩
  obtain ⟨D, hD⟩ : ∃ D, D = Lib.decDigits (m / 1000000) := ⟨_, rfl⟩
  obtain ⟨sg, hsg⟩ : ∃ sg : List UInt8, sg = if n < 0 then [45] else [] := ⟨_, rfl⟩
  have hT : decT n = sg ++ (D ++ fracL (m % 1000000)) := by
    unfold decT absL
    rw [if_pos h, hsg, hD, hm]
    split <;> rfl
  have hDd : ∀ c ∈ D, 48 ≤ c.toNat ∧ c.toNat ≤ 57 := by
    rw [hD]
    exact decDigits_digits 12 _ (by omega)
  have hDn : D ≠ [] := by rw [hD]; exact decDigits_ne _
  have hDv : valFrom 0 (nums8 D) = ((m / 1000000 : Nat) : Int) := by rw [hD]; exact val_dec 12 _ (by omega)
  have hdg : ∀ c : UInt8, 48 ≤ c.toNat ∧ c.toNat ≤ 57 → isDg (c.toNat : Int) = true := by
    intro c hc
    unfold isDg
    rw [decide_eq_true (by omega), decide_eq_true (by omega)]; rfl
  rw [hT]
  obtain ⟨d0, D', hD0⟩ : ∃ d0 D', D = d0 :: D' := by
    cases D with
    | nil => exact absurd rfl hDn
    | cons a l => exact ⟨a, l, rfl⟩
  have hd0 : 48 ≤ d0.toNat ∧ d0.toNat ≤ 57 := hDd d0 (by rw [hD0]; exact List.mem_cons_self ..)
  obtain ⟨F, hF⟩ : ∃ F, F = fracL (m % 1000000) := ⟨_, rfl⟩
  rw [← hF]
  obtain ⟨s, hs⟩ : ∃ s, s = bmk (sg ++ (D ++ F)) := ⟨_, rfl⟩
  have hsp : Q.runN isSp s 0 = 0 := by
    have := runN_seg isSp [] [] (sg ++ (D ++ F)) (by simp) (by
      intro c hc
      have hc2 : c.toNat = 45 ∨ (48 ≤ c.toNat ∧ c.toNat ≤ 57) := by
        rw [hsg] at hc
        by_cases hn : n < 0
        · rw [if_pos hn] at hc
          simp at hc
          left; rw [← hc]; decide
        · rw [if_neg hn, hD0] at hc
          simp at hc
          right; rw [← hc]; exact hd0
      unfold isSp
      rw [beq_eq_false_iff_ne.mpr (by omega), beq_eq_false_iff_ne.mpr (by omega), beq_eq_false_iff_ne.mpr (by omega)]; rfl)
    rw [hs]
    simpa using this
  have hat : atD s = sg.length ∧ negB s = decide (n < 0) := by
    unfold atD negB
    rw [hsp]
    by_cases hn : n < 0
    · have hb : bt s ((0 : Nat) : Int) = 45 := by
        rw [hs, bmk_bt _ 0 (by rw [hsg, if_pos hn]; simp)]
        simp [hsg, hn]
      have hz : sgnB s 0 = true := by
        unfold sgnB
        rw [hb, decide_eq_true (by rw [hs, bmk_size, hsg, if_pos hn]; simp)]; rfl
      rw [if_pos hz, if_pos hz, hb, decide_eq_true hn, hsg, if_pos hn]
      exact ⟨rfl, rfl⟩
    · have hb : bt s ((0 : Nat) : Int) = (d0.toNat : Int) := by
        rw [hs, bmk_bt _ 0 (by rw [hsg, if_neg hn, hD0]; simp)]
        simp [hsg, hn, hD0]
      have hz : sgnB s 0 = false := by
        unfold sgnB
        rw [hb, beq_eq_false_iff_ne.mpr (by omega), beq_eq_false_iff_ne.mpr (by omega)]; simp
      rw [hz, if_neg (by decide), if_neg (by decide), decide_eq_false hn, hsg, if_neg hn]
      exact ⟨rfl, rfl⟩
  have hFh : ∀ c, F.head? = some c → c = 46 := by
    intro c hc
    rw [hF] at hc
    unfold fracL at hc
    split at hc
    · simp at hc
    · simp at hc; exact hc.symm
  have hwh : wholeN s = D.length := by
    unfold wholeN
    rw [hat.1, hs]
    exact runN_seg isDg D sg F (fun c hc => hdg c (hDd c hc)) (fun c hc => by rw [hFh c hc]; decide)
  have hat2 : at2 s = sg.length + D.length := by unfold at2; rw [hat.1, hwh]
  have hDl : 0 < D.length := by rw [hD0]; simp
  have hdig : bytesOf (digS s) = nums8 D := by
    unfold digS
    rw [bytesOf_extract, hat.1, hat2, hs, bytesOf_bmk]
    unfold nums8
    simp
  rw [← hs]
  rw [readV_eq, hwh]
  have hnum : ∀ P : List UInt8, bytesOf (partS s) = nums8 P → (P ++ [48, 48, 48, 48, 48, 48]).take 6 = dl 6 (m % 1000000) → numOf s = (m : Int) := by
    intro P hP h6
    unfold numOf
    rw [foldl_bytes]
    have ea : bytesOf (allS s) = nums8 D ++ nums8 (dl 6 (m % 1000000)) := by
      unfold allS
      rw [bytesOf_append, bytesOf_extract, bytesOf_append, hdig, hP, bytesOf_zeros, ← h6]
      unfold nums8
      simp [List.map_take]
    have hf := numFold (nums8 D ++ nums8 (dl 6 (m % 1000000))) 0 (by omega)
    rw [mn_start] at hf
    rw [ea, hf, valFrom_append, hDv, val_dl 6 _ _ (by omega)]
    have p6 : (10 : Int) ^ 6 = 1000000 := by decide
    rw [p6]
    unfold mn
    omega
  have hfin : ∀ q : Nat, at3 s = q → numOf s = (m : Int) → (if negB s = true then - numOf s else numOf s, ((at3 s : Nat) : Int)) = (n, (q : Int)) := by
    intro q h1 h2
    rw [hat.2, h1, h2]
    by_cases hn : n < 0
    · rw [if_pos (decide_eq_true hn)]; congr 1; omega
    · rw [if_neg (by simpa using hn)]; congr 1; omega
  by_cases hr : m % 1000000 = 0
  · have hF0 : F = [] := by rw [hF]; unfold fracL; rw [if_pos hr]
    have htk : tkB s = false := tk_false s (fun hh => by
      have h1 := hh.1
      rw [hat2, hs, bmk_size, hF0] at h1
      simp at h1 <;> omega)
    have hp : bytesOf (partS s) = nums8 [] := by rw [part_bytes]; unfold partL; rw [htk]; rfl
    rw [htk, if_neg (show ¬ (false = true) by decide), if_neg (show ¬ (D.length + 0 = 0) by omega)]
    refine hfin _ ?_ (hnum [] hp ?_)
    · unfold at3
      rw [htk, if_neg (show ¬ (false = true) by decide), hat2, hF0]; simp
    · rw [hr]; decide
  · obtain ⟨t, ht⟩ : ∃ t, t = trimR (dl 6 (m % 1000000)) := ⟨_, rfl⟩
    have hFt : F = 46 :: t := by rw [hF, ht]; unfold fracL; rw [if_neg hr]
    have hd2 : bt s (at2 s : Int) = 46 := by
      rw [hat2, hs, bmk_bt _ _ (by rw [hFt]; simp <;> omega)]
      simp [hFt]
    have hlt : at2 s < s.size := by rw [hat2, hs, bmk_size, hFt]; simp <;> omega
    have htd : ∀ c ∈ t, 48 ≤ c.toNat ∧ c.toNat ≤ 57 := by
      intro c hc
      rw [ht] at hc
      exact dl_digits 6 _ (by omega) c (trimR_sub _ c hc)
    have hmr : Q.runN isDg s (at2 s + 1) = t.length := by
      have := runN_seg isDg t (sg ++ D ++ [46]) [] (fun c hc => hdg c (htd c hc)) (by simp)
      rw [hat2, hs, hFt]
      simpa [Nat.add_assoc] using this
    have htk : tkB s = true := by
      rw [tk_true s hlt hd2, hwh]
      exact decide_eq_true (by omega)
    have hmn : moreN s = t.length := by
      have h1 := htk
      unfold tkB at h1
      rw [Bool.and_eq_true] at h1
      unfold moreN
      rw [if_pos h1.1, hmr]
    have hp : bytesOf (partS s) = nums8 t := by
      unfold partS
      have e : nums8 (sg ++ (D ++ 46 :: t)) = nums8 (sg ++ D ++ [46]) ++ nums8 t := by unfold nums8; simp
      have el : (nums8 (sg ++ D ++ [46])).length = sg.length + D.length + 1 := by unfold nums8; simp [Nat.add_assoc]
      have et : (nums8 t).length = t.length := by unfold nums8; simp
      rw [if_pos htk, bytesOf_extract, hmn, hat2, hs, bytesOf_bmk, hFt, e, ← el, List.drop_left, List.take_of_length_le (by omega)]
    rw [if_pos htk, if_neg (show ¬ (D.length + moreN s = 0) by omega)]
    refine hfin _ ?_ (hnum t hp ?_)
    · unfold at3
      rw [if_pos htk, hat2, hmn, hFt]; simp; omega
    · rw [ht]
      exact six_back _ (dl_length 6 _)
theorem looksV_decT (n : Int) (h : isDec n) : looksV (bmk (decT n)) = true := by
  unfold looksV
  rw [readV_decT n h]
  have hl : 0 < (decT n).length := by
    unfold decT absL
    rw [if_pos h]
    have := List.length_pos_iff.mpr (decDigits_ne (n.natAbs / 1000000))
    split
    · simp
    · rw [List.length_append]; omega
  have he : Q.runN isSp (bmk (decT n)) (decT n).length = 0 := runN_end (by rw [bmk_size]; omega)
  dsimp only
  rw [Int.toNat_natCast, he, decide_eq_true (by omega), decide_eq_true (by rw [bmk_size]; omega)]; rfl
theorem cells_true (k : Nat) (hk : 100 ≤ k) : laws_cells.f k = some true := at_rounds (g := fun k => laws_cells.f k) (fun k => laws_cells.mono k) hk (by decide +kernel)
theorem implField_eq (s : ByteArray) (hs : s.size ≤ 140737488355328) : impl_FieldCell.f s = some (if s.size > 500 then (0, 0, ⟨#[]⟩) else if looksV s = true then (3, (readV s).1, s) else (2, 0, s)) := by
  unfold impl_FieldCell.f
  by_cases c : s.size > 500
  · rw [if_pos (by omega), if_pos c]
  · rw [if_neg (by omega), if_neg c]
    unfold impl_fieldCell.f
    rw [implLooksNum_eq s hs, Option.bind_some]
    by_cases d : looksV s = true
    · rw [if_pos d, if_pos d, implReadDec_eq s hs, Option.bind_some, Option.bind_some]
    · rw [if_neg d, if_neg d, Option.bind_some]
theorem implToStr_eq (t n : Int) (s : ByteArray) (k : Nat) (hk : 21 ≤ k) (hs : s.size ≤ 140737488355328) (hc : cellV t n s = true) : impl_ToStr.f k t n s = some (strV t n s) := by
  unfold impl_ToStr.f
  rw [implCellOk_eq t n s hs, hc, Option.bind_some, if_pos rfl, implStr_eq t n s k hk, Option.bind_some]
/-- A value's number. -/
def numV (t n : Int) (s : ByteArray) : Int := if t = 2 then (readV s).1 else n
theorem implToNum_eq (t n : Int) (s : ByteArray) (hs : s.size ≤ 140737488355328) (hc : cellV t n s = true) : impl_ToNum.f t n s = some (numV t n s) := by
  unfold impl_ToNum.f impl_Cell_num.f numV
  rw [implCellOk_eq t n s hs, hc, Option.bind_some, if_pos rfl]
  by_cases h : t = 2
  · rw [if_pos h, if_pos h, implReadDec_eq s hs, Option.bind_some, Option.bind_some]
  · rw [if_neg h, if_neg h, Option.bind_some]
theorem FnCells : laws_FnCells.Pure := by
  intro l0 hm hy hw
  have hl : l0.length ≤ 9223372036854775807 := hm
  obtain ⟨s, e, hs⟩ := drawField_dr l0 hl (l0.length + 2000) (by omega)
  refine ⟨l0.length + 2000, ?_⟩
  unfold laws_FnCells.f
  rw [e, Option.bind_some, implField_eq s (by omega), Option.bind_some]
  by_cases c : s.size > 500
  · rw [if_pos c]
    dsimp only
    rw [if_pos (by omega), if_pos (by decide +kernel), cells_true _ (by omega), Option.bind_some]
  rw [if_neg c]
  have hr := readV_range s
  have hdec : isDec (readV s).1 := hr
  have c5 : decide (s.size ≤ 500) = true := decide_eq_true (by omega)
  have hT := decT_le (readV s).1
  have hTs : (bmk (decT (readV s).1)).size ≤ 40 := hT
  have hq := looksV_decT _ hdec
  have hq2 := readV_decT _ hdec
  rw [specReadDec_eq s (by omega) _ (by omega), Option.bind_some, specDecText_eq _ _ (by omega), Option.bind_some, implField_eq _ (by omega), Option.bind_some, specLooksNum_eq s (by omega) _ (by omega)]
  rw [if_neg (show ¬ (bmk (decT (readV s).1)).size > 500 by omega), if_pos hq, hq2, if_neg (by omega)]
  dsimp only
  generalize hn : (readV s).1 = n at *
  have hd3 : cellV 3 n (bmk (decT n)) = true := by
    unfold cellV
    rw [if_neg (by decide), if_neg (by decide), if_neg (by decide), if_pos rfl, hq, hq2, decide_eq_true (by omega)]; simp
  have hd4 : numV 3 n (bmk (decT n)) = n := by unfold numV; rw [if_neg (by decide)]
  cases hk : looksV s with
  | true =>
    have h3 : cellV 3 n s = true := by
      unfold cellV
      rw [if_neg (by decide), if_neg (by decide), if_neg (by decide), if_pos rfl, hk, hn, c5]; simp
    have h4 : numV 3 n s = n := by unfold numV; rw [if_neg (by decide)]
    have h5 : strV 3 n s = s := by unfold strV; rw [if_neg (by decide)]
    rw [if_pos rfl]
    dsimp only
    rw [implCellOk_eq _ _ _ (by omega), h3, Option.bind_some, if_pos rfl, implToStr_eq _ _ _ _ (by omega) (by omega) h3, Option.bind_some, h5, if_pos rfl, implToNum_eq _ _ _ (by omega) h3, Option.bind_some, h4, if_pos rfl,
      Option.bind_some, if_pos (by decide), if_pos rfl, implToNum_eq _ _ _ (by omega) hd3, Option.bind_some, hd4, if_pos rfl, cells_true _ (by omega), Option.bind_some]
  | false =>
    have h3 : cellV 2 0 s = true := by
      unfold cellV
      rw [if_neg (by decide), if_neg (by decide), if_pos rfl, c5]; rfl
    have h4 : numV 2 0 s = n := by unfold numV; rw [if_pos rfl, hn]
    have h5 : strV 2 0 s = s := by unfold strV; rw [if_neg (by decide)]
    rw [if_neg (by decide)]
    dsimp only
    rw [implCellOk_eq _ _ _ (by omega), h3, Option.bind_some, if_pos rfl, implToStr_eq _ _ _ _ (by omega) (by omega) h3, Option.bind_some, h5, if_pos rfl, implToNum_eq _ _ _ (by omega) h3, Option.bind_some, h4, if_pos rfl,
      Option.bind_some, if_pos (by decide), if_pos rfl, implToNum_eq _ _ _ (by omega) hd3, Option.bind_some, hd4, if_pos rfl, cells_true _ (by omega), Option.bind_some]
end Go.Proofs.YtnfiljnncpieoaaDoor.Pure
namespace Go.Proofs.YtnfiljnncpieoaaDoor.fnCells
open Go.ChangeShapes Go.WideShapes Go.ChangeAt Go.RowKit
open Go.ChangeMaps (open_string shut_string)
open Go.Lib
open Go.Proofs.YtnfiljnncpieoaaDoorW.PrintWords
set_option linter.unusedVariables false
theorem own : ownKnob Tryd.prog.godebug = none := by kernel_rfl
theorem laidOut : laidOutB Tryd.prog = true := by kernel_rfl
def IsRow (k : IntKind) (w : World) (a : Option Addr) (len cap : Nat) (zs : List Int) : Prop :=
  (a = none ∧ len = 0 ∧ cap = 0 ∧ zs = []) ∨
  ∃ x, a = some x ∧ len ≤ cap ∧ cap ≤ maxLen ∧ zs.length = cap ∧ (∀ i, i < zs.length → w.cell? (x.add i) = some (.int k (zs.getD i 0))) ∧ ∀ n ∈ zs, (Lit.int k n).wf = true
set_option maxRecDepth 100000 in
theorem lifted (os : Os) (started : os.Started) (H : Type) (enc : TypeId × Value → H) :
    ReturnsInHanded {} Tryd.checked os 5 .any (fun w args => (Rows.fnCellsSpec.pre enc Tryd.prog Tryd.f5 [] false w args ∧ laidMetH Tryd.prog Rows.fnCellsRow.laid w) ∧ sizedMet enc Tryd.prog Tryd.f5 (OpenSpec.ofChange Rows.fnCellsSpec) false w args)
      (Rows.fnCellsSpec.post enc Tryd.prog Tryd.f5 false true false false) := by
  refine returnsInHanded_of_change_and_shaped_ytnfiljnncpieoaadoor (C := Tryd.checked) (X := fun w _ => laidMetH Tryd.prog Rows.fnCellsRow.laid w) (fun _ _ _ hh h => h.of_heap hh) own started (by kernel_rfl) Tryd.func5
    (ChangeSpec.witness_shaped (enc := enc) (C := Tryd.checked) (os := os) (X := fun w _ => laidMetH Tryd.prog Rows.fnCellsRow.laid w) false (World.laidAll Tryd.prog os Rows.fnCellsRow.laid) #[.slice none 0 0] 8 (World.laidAll_os _ _ _)
      (World.shaped_of_ZipB (by kernel_rfl) (by kernel_rfl)) (by kernel_rfl) (by kernel_rfl) (by kernel_rfl)
      (by rw [MakeChecks.laidMetH_plain _ _ _ (by kernel_rfl)]; exact laidMet_laidAll _ (by kernel_rfl) (by kernel_rfl))) ?_
  intro W base args ds gs before hval0 hW hcnd hsz0 hL hS _
  have hsz : (DataW.weightsEach Tryd.prog (Tryd.f5.params.toList ++ Rows.fnCellsSpec.plain.varTypes Tryd.prog) (ds ++ gs)).all (· ≤ reachBytes) = true := hsz0
  have hval : ∀ (j : Nat) t v, Tryd.f5.params[j]? = some t → args[j]? = some v → Value.okWide Tryd.prog W .any base t v := hval0
  have hW' := hW
  obtain ⟨p, q, hA0, hV, rfl, hfz, hnd⟩ := hW
  have hA : DataW.TrodAll enc Tryd.prog W 0 (fun _ => true) true Tryd.f5.params.toList args.toList ds p := hA0
  rw [Tryd.params5] at hA hval hsz
  obtain ⟨v0, vs0, d0, ds0, p0, q0, hargs, rfl, rfl, h0, r0⟩ := trodAll_cons hA
  obtain ⟨rfl, rfl, rfl⟩ := trodAll_nil r0
  obtain rfl : args = #[v0] := by cases args; simp_all
  obtain ⟨rfl, rfl⟩ := trodVars_none hV
  have k0 := h0
  have lt0 : ∀ x ∈ p0, x.block < W.heap.size := by obtain ⟨m, hm⟩ := k0; exact DataW.trod_lt m _ _ _ hm
  obtain ⟨a0, len0, cap0, rfl⟩ := okWide_slice Tryd.underlying31 (hval 0 31 v0 rfl rfl)
  obtain ⟨z0, w0⟩ : ∃ zs, IsRow .u8 W a0 len0 cap0 zs := by
    obtain ⟨fuel, hf⟩ := h0
    rcases open_ints Tryd.underlying31 Tryd.underlying5 (by kernel_rfl) hf with ⟨hcs, _⟩ | ⟨x, l, c, zs, hcs, _, hl, hm, hz, _, hcell, hwz⟩
    · simp [Value.cells] at hcs
      obtain ⟨rfl, rfl, rfl⟩ := hcs
      exact ⟨[], .inl ⟨rfl, rfl, rfl, rfl⟩⟩
    · simp [Value.cells] at hcs
      obtain ⟨rfl, rfl, rfl⟩ := hcs
      exact ⟨zs, .inr ⟨_, rfl, hl, hm, by simpa using hz, hcell, hwz⟩⟩
  have y0 : len0 * 1 ≤ 140737488351232 := Go.Proofs.YtnfiljnncpieoaaDoorW.PrintWords.sized_ints hsz (j := 0) (t := 31) rfl rfl Tryd.underlying31 Tryd.underlying5 (by kernel_rfl) (by kernel_rfl) h0
  obtain ⟨l0, rfl, hr0, hm0, hw0, hc0⟩ := ReadsInt.ofRowC w0
  clear hA0 hval0 hsz0 hsz
  rw [MakeChecks.laidMetH_plain _ _ _ (by kernel_rfl)] at hL
  have hTabs : Q.Tabs W := Q.tabs_of_laid hL (.tail _ (.tail _ (.head _))) hS
  obtain ⟨k, hk⟩ := Pure.FnCells l0 hm0 y0 hw0
  refine (Q.laws_FnCells.calls k _ _ l0 true W (Kd.C_of_reads (d := (0 : Int)) (h1 := fun _ => rfl) hr0) hc0 hk hTabs).mono fun e W' ⟨he, bel⟩ => ?_
  subst he
  exact ⟨_, rfl, _, _, _, [], _, [], hW', trodAll_mk1 (shut_bool Tryd.underlying4 _), (trodAll_cons_mk (Below.trod laidOut (by kernel_rfl) (of_decide_eq_true (by kernel_rfl)) k0 bel lt0) trodAll_mk0), rfl, bel.frame _, fun h => by cases h⟩
theorem over : Rows.fnCellsRow.holds Tryd.pinned (OpenSpec.ofChange Rows.fnCellsSpec) :=
  OpenClaim.holds_of_wide 5 Tryd.f5 rfl rfl rfl rfl rfl rfl rfl ⟨rfl, rfl, rfl, rfl, rfl⟩ rfl rfl rfl rfl rfl (by kernel_rfl) Tryd.func5 (by kernel_rfl)
    (of_decide_eq_true (by kernel_rfl)) (by unfold Func.isWrapper; first | (rw [if_pos (by decide +kernel)]; kernel_rfl) | (rw [if_neg (by decide +kernel)]; exact ⟨rfl, rfl⟩))
    (fun os started H enc _ => lifted os started H enc)
theorem proved : Rows.FnCellsCardSaid :=
  Claim7.holds_tied_plain_at .later [] [.data, .data, .data, .data, .pinned] true (true, "b75b773852959c5247afd18ef90919ec67df20c7244692005a47031de84d4aff") false over (fun _ h => by cases h) (by kernel_rfl) (fun _ h => by cases h) fnCells_row_tie rfl ⟨rfl, rfl⟩ (by kernel_rfl) rfl
    (fun f fn hf hfn => by
      obtain rfl : f = 5 := Option.some.inj ((show Tryd.prog.funcNamed Rows.fnCellsRow.func = some 5 by kernel_rfl).symm.trans hf) |>.symm
      obtain rfl : fn = Tryd.f5 := (Option.some.inj (Tryd.func5.symm.trans hfn)).symm
      exact ⟨by kernel_rfl, fun j t ht => by
        rw [Tryd.params5] at ht
        have hm : t ∈ [31] := by simpa using Array.mem_of_getElem? ht
        have hall : ([31].all fun u => !Tryd.prog.wantsStandIn u) = true := by kernel_rfl
        exact (show Tryd.prog.wantsStandIn t = false by simpa using List.all_eq_true.1 hall t hm)⟩)
    (by kernel_rfl)
#print axioms proved
end Go.Proofs.YtnfiljnncpieoaaDoor.fnCells
namespace Go.Proofs.YtnfiljnncpieoaaDoor
/-- The row, under a short name, for the claim. -/
theorem fnCells_holds : Rows.FnCellsCardSaid := fnCells.proved
end Go.Proofs.YtnfiljnncpieoaaDoor
