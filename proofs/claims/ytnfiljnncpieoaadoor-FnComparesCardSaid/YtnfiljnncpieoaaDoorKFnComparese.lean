/- What the row of FnCompares rests on, and the row: for every input that can be read the call returns true and the input reads as it did; condition: what the row lists of the library reads as the program lays it. -/
import Derived.Test.YtnfiljnncpieoaaDoorKFnComparesd
set_option linter.unusedVariables false
set_option linter.unusedSimpArgs false
namespace Go.Proofs.YtnfiljnncpieoaaDoor.Q
open Go.RowKit Go.Proofs.YtnfiljnncpieoaaDoorW.PrintWords Go.Proofs.YtnfiljnncpieoaaDoorW.PrintLast Go.Proofs.YtnfiljnncpieoaaDoorW.PrintMore
attribute [local go_sem] max2_int min2_int max_two min_two max_three min_three max_four min_four   -- for this text's walks alone
set_option linter.unusedVariables false
set_option linter.unusedSimpArgs false
attribute [local go_sem high] eqA26
set_option maxHeartbeats 8000000 in
set_option maxRecDepth 100000 in
theorem spec_l1text.calls (g : Nat) (s0_0 : List Int) (s0_1 : Int) (s0_2 : Int) (A1 : Option Addr) (c1 : Nat) (l1 : List ByteArray) (r1 : ByteArray) (r2 : Int) (r3 : Int) (w0 w : World) (hI : IsS90 w0 w g s0_0 s0_1 s0_2) (hB : Below w0.heap.size w0 w) (hr1 : Kd.C Kd.string w A1 l1.length l1) (hc1 : l1.length ≤ c1) (hf1 : ∀ ad, A1 = some ad → 0 < l1.length → ad.block ≠ g) (h : spec_l1text.f s0_0 s0_1 s0_2 l1 = some (r1, r2, r3)) :
    Calls Tryd.prog 73 #[.pointer (some ⟨g, 0, none⟩), .slice A1 l1.length c1] w fun e w' => e = .returned (.string r1) ∧ IsS90 w0 w' g s0_0 r2 r3 ∧ Below w0.heap.size w0 w' ∧ KeepBut w w' g none := by
  have HR1 := Aside0.mk hr1
  have HC1 := Aside0.mk hc1
  clear hr1 hc1
  have HI0 := Aside0.mk hI
  have HK := Aside0.mk (KeepBut.refl w g none)
  have HL := Aside0.mk hB.size
  clear hI
  have HW0 := Aside0.mk hB.size
  have HB := Aside0.mk hB
  clear hB
  have H : ((spec_l1Below.f s0_0 s0_1 s0_2 (l1.length : Int)).bind fun bt418 => (if 0 ≤ bt418.1 then (if bt418.1 < (l1.length : Int) then (some (rdOf ByteArray.empty l1 bt418.1, bt418.2.1, bt418.2.2)) else (none)) else (none))) = some (r1, r2, r3) := h
  clear h
  replace H := Option.bind_eq_some_iff.mp H
  obtain ⟨⟨t418, t419, t420⟩, A30, H⟩ := H
  replace H : (if 0 ≤ t418 then (if t418 < (l1.length : Int) then (some (rdOf ByteArray.empty l1 t418, t419, t420)) else (none)) else (none)) = some (r1, r2, r3) := H
  have A3 := Aside0.mk A30
  clear A30
  by_cases c4 : 0 ≤ t418
  · rw [if_pos c4] at H
    have c4b0 : decide (0 ≤ t418) = true := decide_eq_true c4
    clear c4
    by_cases c5 : t418 < (l1.length : Int)
    · rw [if_pos c5] at H
      have c5b0 : decide (t418 < (l1.length : Int)) = true := decide_eq_true c5
      clear c5
      simp only [Option.some.injEq, Prod.mk.injEq] at H
      obtain ⟨rfl, rfl, rfl⟩ := H
      go_enter Tryd.func73, Tryd.ntmps73
      go_wp2_with (first | ((with_reducible refine gate_callee (f := 48) rfl ?_); refine goesL_ (some 9) rfl rfl Tryd.func48 (by kernel_rfl) rfl #[.pointer (some ⟨g, 0, none⟩), .int .i64 (l1.length : Int)] rfl (by (try simp only [List.map_toArray, List.map_cons, List.map_nil]); first | done | rfl | (simp only [List.length_drop, List.length_take]; rfl)) ?_; (with_reducible refine (spec_l1Below.calls g s0_0 s0_1 s0_2 (l1.length : Int) t418 t419 t420 w0 _ ?side1 ?side2 A3.out).mono ?_); (case side1 => repeat (first | (with_reducible first | exact HI0.out | apply IsS90.alloc | apply IsS90.drewN | apply IsS90.drew | apply IsS90.set_1 | apply IsS90.set_2) | exact HI0.out)); (case side2 => repeat (first | (with_reducible first | exact HB.out | apply below_alloc | apply pw_below_drewN | apply below_drew1 | refine below_set ?_ (IsS90.ge HI0.out)) | exact HB.out)); rintro e w6 ⟨rfl, hi, hb, hk⟩; refine ⟨_, rfl, ?_⟩; have n0_ := Aside0.mk (KeepBut.trans (by repeat (first | (with_reducible first | exact HK.out | apply KeepBut.set_ | apply keep_drewN | apply keep_drew | apply keep_alloc) | exact HK.out)) hk (.inl rfl)); have n1_ := Aside0.mk (hb); have n2_ := Aside0.mk (hi); clear HK; clear HB; clear HI0; have HK := n0_; have HB := n1_; have HI0 := n2_; clear n0_ n1_ n2_; (try clear hb); (try clear hb2); (try clear hk); (try clear hi); have p421 : 0 ≤ (t418 : Int) := of_decide_eq_true (by first | (with_reducible assumption) | assumption); have q421 : t418 < (l1.length : Int) := of_decide_eq_true (by first | (with_reducible assumption) | assumption); obtain ⟨ad421, e421, hx421_0⟩ := Kd.at_string HR1.out t418 p421 q421; cases e421; replace hx421_0 := keep_cell HK.out hx421_0 (by first | (rw [add_block]; exact hf1 _ rfl (by omega)) | exact hf1 _ rfl (by omega) | exact hf1 ad421 rfl (by omega)); replace p421 := eq_true p421; replace q421 := eq_true q421))
      go_ret
      exact ⟨by first | rfl | (simp [errW_none, errW_some] <;> rfl) | (simp [*, errW_none, errW_some] <;> rfl), by repeat (first | (with_reducible first | exact HI0.out | apply IsS90.alloc | apply IsS90.drewN | apply IsS90.drew | apply IsS90.set_1 | apply IsS90.set_2) | exact HI0.out), by repeat (first | (with_reducible first | exact HB.out | apply below_alloc | apply pw_below_drewN | apply below_drew1 | refine below_set ?_ (IsS90.ge HI0.out)) | exact HB.out), by repeat (first | (with_reducible first | exact HK.out | apply KeepBut.set_ | apply keep_drewN | apply keep_drew | apply keep_alloc) | exact HK.out)⟩
    · rw [if_neg c5] at H
      exact absurd H (by simp)
  · rw [if_neg c4] at H
    exact absurd H (by simp)
def spec_FieldCell.f (k : Nat) (a0 : ByteArray) : Option (Int × Int × ByteArray) := if (a0.size : Int) > 500 then (some (0, 0, (⟨#[]⟩ : ByteArray))) else ((spec_LooksNum.f k a0).bind fun t423 => (if t423 = true then ((spec_ReadDec.f k a0).bind fun bt424 => (some (3, bt424.1, a0))) else (some (2, 0, a0))))
set_option maxHeartbeats 8000000 in
set_option maxRecDepth 100000 in
theorem spec_FieldCell.calls (k : Nat) (a0 : ByteArray) (r1 : Int) (r2 : Int) (r3 : ByteArray) (w : World) (h : spec_FieldCell.f k a0 = some (r1, r2, r3)) :
    Calls Tryd.prog 129 #[.string a0] w fun e w' => e = .returned (.agg #[.int .i64 r1, .int .i64 r2, .string r3]) ∧ Below w.heap.size w w' := by
  have hu26 := Tryd.underlying26
  have HB := Aside0.mk (Below.refl w.heap.size w)
  have H : (if (a0.size : Int) > 500 then (some (0, 0, (⟨#[]⟩ : ByteArray))) else ((spec_LooksNum.f k a0).bind fun t423 => (if t423 = true then ((spec_ReadDec.f k a0).bind fun bt424 => (some (3, bt424.1, a0))) else (some (2, 0, a0))))) = some (r1, r2, r3) := h
  clear h
  by_cases c2 : (a0.size : Int) > 500
  · rw [if_pos c2] at H
    have c2b0 : decide (500 < (a0.size : Int)) = true := decide_eq_true c2
    have c2b1 : decide (500 < a0.size) = true := decide_eq_true (by omega)
    clear c2
    simp only [Option.some.injEq, Prod.mk.injEq] at H
    obtain ⟨rfl, rfl, rfl⟩ := H
    go_enter Tryd.func129, Tryd.ntmps129
    go_wp2_with (first | ((with_reducible refine gate_dst (N := 2) rfl ?_); refine box_event ?hg (N := 2) ?hd (cs := #[.int .i64 0, .int .i64 0, .string (⟨#[]⟩ : ByteArray)]) (t := 26) ?hr ?_; (case hd => rfl); (case hg => rfl); (case hr => first | (go_simp; done) | (go_simp; rfl)); intro gb422 hg w3 hbox hb; have n0_ := Aside0.mk (below_step (by repeat (first | (with_reducible first | exact HB.out | apply below_alloc | apply pw_below_drewN | apply below_drew1) | exact HB.out)) hb); have n1_ := Aside0.mk (hbox); have n2_ := Aside0.mk ((by rw [hg]; exact (below_size (by repeat (first | (with_reducible first | exact HB.out | apply below_alloc | apply pw_below_drewN | apply below_drew1) | exact HB.out))) : w.heap.size ≤ gb422)); have n3_ := Aside0.mk ((by rw [hg]; exact (below_size (by repeat (first | (with_reducible first | exact HB.out | apply below_alloc | apply pw_below_drewN | apply below_drew1) | exact HB.out))) : w.heap.size ≤ gb422)); clear HB; have HB := n0_; have BK422 := n1_; have GW422 := n2_; have GE422 := n3_; clear n0_ n1_ n2_ n3_; clear hb hbox hg; have hcz4_0 : w3.cell? ⟨gb422, 0, none⟩ = some (.int .i64 0) := (blk_cell BK422.out 0).trans rfl; have hcz4_1 : w3.cell? ⟨gb422, 1, none⟩ = some (.int .i64 0) := (blk_cell BK422.out 1).trans rfl; have hcz4_2 : w3.cell? ⟨gb422, 2, none⟩ = some (.string (⟨#[]⟩ : ByteArray)) := (blk_cell BK422.out 2).trans rfl; have hfz4_0 := blk_frozen BK422.out 0; have hfz4_1 := blk_frozen BK422.out 1; have hfz4_2 := blk_frozen BK422.out 2))
    refine bodyPost_ret (results_cell_row rfl _ _ gb422 26 #[.int .i64 0, .int .i64 0, .string (⟨#[]⟩ : ByteArray)] (0, 0) _ rfl (by (with_reducible repeat (first | refine blk_drewN ?_ _ | refine blk_drew ?_ | refine blk_alloc ?_ _)); refine blk_put (cs := #[.int .i64 0, .int .i64 0, .string (⟨#[]⟩ : ByteArray)]) ?_ 2 _ rfl; (with_reducible repeat (first | refine blk_drewN ?_ _ | refine blk_drew ?_ | refine blk_alloc ?_ _)); refine blk_put (cs := #[.int .i64 0, .int .i64 0, .string (⟨#[]⟩ : ByteArray)]) ?_ 1 _ rfl; (with_reducible repeat (first | refine blk_drewN ?_ _ | refine blk_drew ?_ | refine blk_alloc ?_ _)); refine blk_put (cs := #[.int .i64 0, .int .i64 0, .string (⟨#[]⟩ : ByteArray)]) ?_ 0 _ rfl; (with_reducible repeat (first | refine blk_drewN ?_ _ | refine blk_drew ?_ | refine blk_alloc ?_ _)); exact BK422.out) Tryd.underlying26 rfl (by kernel_rfl)) rfl ?_
    exact ⟨by first | rfl | (simp [errW_none, errW_some] <;> rfl) | (simp [*, errW_none, errW_some] <;> rfl), by repeat (first | (with_reducible first | exact HB.out | apply below_alloc | apply pw_below_drewN | apply below_drew1 | refine below_set ?_ GE422.out) | exact HB.out)⟩
  · rw [if_neg c2] at H
    have c2b0 : decide (500 < (a0.size : Int)) = false := decide_eq_false c2
    have c2b1 : decide (500 < a0.size) = false := decide_eq_false (by omega)
    clear c2
    replace H := Option.bind_eq_some_iff.mp H
    obtain ⟨t423, A50, H⟩ := H
    replace H : (if t423 = true then ((spec_ReadDec.f k a0).bind fun bt424 => (some (3, bt424.1, a0))) else (some (2, 0, a0))) = some (r1, r2, r3) := H
    have A5 := Aside0.mk A50
    clear A50
    by_cases c6 : t423 = true
    · subst c6
      have H1 : ((spec_ReadDec.f k a0).bind fun bt424 => (some (3, bt424.1, a0))) = some (r1, r2, r3) := by rw [if_pos rfl] at H; exact H
      clear H
      have H := H1
      clear H1
      replace H := Option.bind_eq_some_iff.mp H
      obtain ⟨⟨t424, t425⟩, A70, H⟩ := H
      replace H : (some (3, t424, a0)) = some (r1, r2, r3) := H
      have A7 := Aside0.mk A70
      clear A70
      simp only [Option.some.injEq, Prod.mk.injEq] at H
      obtain ⟨rfl, rfl, rfl⟩ := H
      go_enter Tryd.func129, Tryd.ntmps129
      go_wp2_with (first | ((with_reducible refine gate_dst (N := 2) rfl ?_); refine box_event ?hg (N := 2) ?hd (cs := #[.int .i64 0, .int .i64 0, .string (⟨#[]⟩ : ByteArray)]) (t := 26) ?hr ?_; (case hd => rfl); (case hg => rfl); (case hr => first | (go_simp; done) | (go_simp; rfl)); intro gb422 hg w8 hbox hb; have n0_ := Aside0.mk (below_step (by repeat (first | (with_reducible first | exact HB.out | apply below_alloc | apply pw_below_drewN | apply below_drew1) | exact HB.out)) hb); have n1_ := Aside0.mk (hbox); have n2_ := Aside0.mk ((by rw [hg]; exact (below_size (by repeat (first | (with_reducible first | exact HB.out | apply below_alloc | apply pw_below_drewN | apply below_drew1) | exact HB.out))) : w.heap.size ≤ gb422)); have n3_ := Aside0.mk ((by rw [hg]; exact (below_size (by repeat (first | (with_reducible first | exact HB.out | apply below_alloc | apply pw_below_drewN | apply below_drew1) | exact HB.out))) : w.heap.size ≤ gb422)); clear HB; have HB := n0_; have BK422 := n1_; have GW422 := n2_; have GE422 := n3_; clear n0_ n1_ n2_ n3_; clear hb hbox hg) | ((with_reducible refine gate_callee (f := 24) rfl ?_); refine goesL_ (some 10) rfl rfl Tryd.func24 (by kernel_rfl) rfl #[.string a0] rfl (by (try simp only [List.map_toArray, List.map_cons, List.map_nil]); first | done | rfl | (simp only [List.length_drop, List.length_take]; rfl)) ?_; (with_reducible refine (spec_LooksNum.calls k a0 true _ A5.out).mono ?_); rintro e w' ⟨rfl, ⟨nd, rfl⟩⟩; refine ⟨_, rfl, ?_⟩; (try (rw [drewN_self w8]; generalize hq_ : World.drewN w8 _ = w8; have n0_ : Aside0 (w8.heap[gb422]? = some (.cells #[.int .i64 0, .int .i64 0, .string (⟨#[]⟩ : ByteArray)] 26 (0, 0))) := ⟨by rw [← hq_]; exact (by (with_reducible repeat (first | refine blk_drewN ?_ _ | refine blk_drew ?_ | refine blk_alloc ?_ _)); exact BK422.out)⟩; have n1_ : Aside0 (Below w.heap.size w w8) := ⟨by rw [← hq_]; exact (by repeat (first | (with_reducible first | exact HB.out | apply below_alloc | apply pw_below_drewN | apply below_drew1 | refine below_set ?_ GE422.out) | exact HB.out))⟩; clear BK422 HB hq_; have BK422 := n0_; have HB := n1_; clear n0_ n1_))) | ((with_reducible refine gate_callee (f := 19) rfl ?_); refine goesL_ (some 13) rfl rfl Tryd.func19 (by kernel_rfl) rfl #[.string a0] rfl (by (try simp only [List.map_toArray, List.map_cons, List.map_nil]); first | done | rfl | (simp only [List.length_drop, List.length_take]; rfl)) ?_; (with_reducible refine (spec_ReadDec.calls k a0 t424 t425 _ A7.out).mono ?_); rintro e w' ⟨rfl, ⟨nd, rfl⟩⟩; refine ⟨_, rfl, ?_⟩; (try (rw [drewN_self w8]; generalize hq_ : World.drewN w8 _ = w8; have n0_ : Aside0 (w8.heap[gb422]? = some (.cells #[.int .i64 0, .int .i64 0, .string (⟨#[]⟩ : ByteArray)] 26 (0, 0))) := ⟨by rw [← hq_]; exact (by (with_reducible repeat (first | refine blk_drewN ?_ _ | refine blk_drew ?_ | refine blk_alloc ?_ _)); exact BK422.out)⟩; have n1_ : Aside0 (Below w.heap.size w w8) := ⟨by rw [← hq_]; exact (by repeat (first | (with_reducible first | exact HB.out | apply below_alloc | apply pw_below_drewN | apply below_drew1 | refine below_set ?_ GE422.out) | exact HB.out))⟩; clear BK422 HB hq_; have BK422 := n0_; have HB := n1_; clear n0_ n1_)); have hcz9_0 : w8.cell? ⟨gb422, 0, none⟩ = some (.int .i64 0) := (blk_cell BK422.out 0).trans rfl; have hcz9_1 : w8.cell? ⟨gb422, 1, none⟩ = some (.int .i64 0) := (blk_cell BK422.out 1).trans rfl; have hcz9_2 : w8.cell? ⟨gb422, 2, none⟩ = some (.string (⟨#[]⟩ : ByteArray)) := (blk_cell BK422.out 2).trans rfl; have hfz9_0 := blk_frozen BK422.out 0; have hfz9_1 := blk_frozen BK422.out 1; have hfz9_2 := blk_frozen BK422.out 2))
      refine bodyPost_ret (results_cell_row rfl _ _ gb422 26 #[.int .i64 3, .int .i64 t424, .string a0] (0, 0) _ rfl (by (with_reducible repeat (first | refine blk_drewN ?_ _ | refine blk_drew ?_ | refine blk_alloc ?_ _)); refine blk_put (cs := #[.int .i64 3, .int .i64 t424, .string (⟨#[]⟩ : ByteArray)]) ?_ 2 _ rfl; (with_reducible repeat (first | refine blk_drewN ?_ _ | refine blk_drew ?_ | refine blk_alloc ?_ _)); refine blk_put (cs := #[.int .i64 3, .int .i64 0, .string (⟨#[]⟩ : ByteArray)]) ?_ 1 _ rfl; (with_reducible repeat (first | refine blk_drewN ?_ _ | refine blk_drew ?_ | refine blk_alloc ?_ _)); refine blk_put (cs := #[.int .i64 0, .int .i64 0, .string (⟨#[]⟩ : ByteArray)]) ?_ 0 _ rfl; (with_reducible repeat (first | refine blk_drewN ?_ _ | refine blk_drew ?_ | refine blk_alloc ?_ _)); exact BK422.out) Tryd.underlying26 rfl (by kernel_rfl)) rfl ?_
      exact ⟨by first | rfl | (simp [errW_none, errW_some] <;> rfl) | (simp [*, errW_none, errW_some] <;> rfl), by repeat (first | (with_reducible first | exact HB.out | apply below_alloc | apply pw_below_drewN | apply below_drew1 | refine below_set ?_ GE422.out) | exact HB.out)⟩
    · replace c6 := Bool.eq_false_iff.mpr c6
      subst c6
      have H1 : (some (2, 0, a0)) = some (r1, r2, r3) := by rw [if_neg (show ¬ (false = true) by decide)] at H; exact H
      clear H
      have H := H1
      clear H1
      simp only [Option.some.injEq, Prod.mk.injEq] at H
      obtain ⟨rfl, rfl, rfl⟩ := H
      go_enter Tryd.func129, Tryd.ntmps129
      go_wp2_with (first | ((with_reducible refine gate_dst (N := 2) rfl ?_); refine box_event ?hg (N := 2) ?hd (cs := #[.int .i64 0, .int .i64 0, .string (⟨#[]⟩ : ByteArray)]) (t := 26) ?hr ?_; (case hd => rfl); (case hg => rfl); (case hr => first | (go_simp; done) | (go_simp; rfl)); intro gb422 hg w10 hbox hb; have n0_ := Aside0.mk (below_step (by repeat (first | (with_reducible first | exact HB.out | apply below_alloc | apply pw_below_drewN | apply below_drew1) | exact HB.out)) hb); have n1_ := Aside0.mk (hbox); have n2_ := Aside0.mk ((by rw [hg]; exact (below_size (by repeat (first | (with_reducible first | exact HB.out | apply below_alloc | apply pw_below_drewN | apply below_drew1) | exact HB.out))) : w.heap.size ≤ gb422)); have n3_ := Aside0.mk ((by rw [hg]; exact (below_size (by repeat (first | (with_reducible first | exact HB.out | apply below_alloc | apply pw_below_drewN | apply below_drew1) | exact HB.out))) : w.heap.size ≤ gb422)); clear HB; have HB := n0_; have BK422 := n1_; have GW422 := n2_; have GE422 := n3_; clear n0_ n1_ n2_ n3_; clear hb hbox hg) | ((with_reducible refine gate_callee (f := 24) rfl ?_); refine goesL_ (some 10) rfl rfl Tryd.func24 (by kernel_rfl) rfl #[.string a0] rfl (by (try simp only [List.map_toArray, List.map_cons, List.map_nil]); first | done | rfl | (simp only [List.length_drop, List.length_take]; rfl)) ?_; (with_reducible refine (spec_LooksNum.calls k a0 false _ A5.out).mono ?_); rintro e w' ⟨rfl, ⟨nd, rfl⟩⟩; refine ⟨_, rfl, ?_⟩; (try (rw [drewN_self w10]; generalize hq_ : World.drewN w10 _ = w10; have n0_ : Aside0 (w10.heap[gb422]? = some (.cells #[.int .i64 0, .int .i64 0, .string (⟨#[]⟩ : ByteArray)] 26 (0, 0))) := ⟨by rw [← hq_]; exact (by (with_reducible repeat (first | refine blk_drewN ?_ _ | refine blk_drew ?_ | refine blk_alloc ?_ _)); exact BK422.out)⟩; have n1_ : Aside0 (Below w.heap.size w w10) := ⟨by rw [← hq_]; exact (by repeat (first | (with_reducible first | exact HB.out | apply below_alloc | apply pw_below_drewN | apply below_drew1 | refine below_set ?_ GE422.out) | exact HB.out))⟩; clear BK422 HB hq_; have BK422 := n0_; have HB := n1_; clear n0_ n1_)); have hcz11_0 : w10.cell? ⟨gb422, 0, none⟩ = some (.int .i64 0) := (blk_cell BK422.out 0).trans rfl; have hcz11_1 : w10.cell? ⟨gb422, 1, none⟩ = some (.int .i64 0) := (blk_cell BK422.out 1).trans rfl; have hcz11_2 : w10.cell? ⟨gb422, 2, none⟩ = some (.string (⟨#[]⟩ : ByteArray)) := (blk_cell BK422.out 2).trans rfl; have hfz11_0 := blk_frozen BK422.out 0; have hfz11_1 := blk_frozen BK422.out 1; have hfz11_2 := blk_frozen BK422.out 2))
      refine bodyPost_ret (results_cell_row rfl _ _ gb422 26 #[.int .i64 2, .int .i64 0, .string a0] (0, 0) _ rfl (by (with_reducible repeat (first | refine blk_drewN ?_ _ | refine blk_drew ?_ | refine blk_alloc ?_ _)); refine blk_put (cs := #[.int .i64 2, .int .i64 0, .string (⟨#[]⟩ : ByteArray)]) ?_ 2 _ rfl; (with_reducible repeat (first | refine blk_drewN ?_ _ | refine blk_drew ?_ | refine blk_alloc ?_ _)); refine blk_put (cs := #[.int .i64 2, .int .i64 0, .string (⟨#[]⟩ : ByteArray)]) ?_ 1 _ rfl; (with_reducible repeat (first | refine blk_drewN ?_ _ | refine blk_drew ?_ | refine blk_alloc ?_ _)); refine blk_put (cs := #[.int .i64 0, .int .i64 0, .string (⟨#[]⟩ : ByteArray)]) ?_ 0 _ rfl; (with_reducible repeat (first | refine blk_drewN ?_ _ | refine blk_drew ?_ | refine blk_alloc ?_ _)); exact BK422.out) Tryd.underlying26 rfl (by kernel_rfl)) rfl ?_
      exact ⟨by first | rfl | (simp [errW_none, errW_some] <;> rfl) | (simp [*, errW_none, errW_some] <;> rfl), by repeat (first | (with_reducible first | exact HB.out | apply below_alloc | apply pw_below_drewN | apply below_drew1 | refine below_set ?_ GE422.out) | exact HB.out)⟩
def spec_l7draw.f (k : Nat) (s0_0 : List Int) (s0_1 : Int) (s0_2 : Int) : Option (Int × Int × ByteArray × Int × Int) := (spec_l1Below.f s0_0 s0_1 s0_2 4).bind fun bt427 => (if bt427.1 = 0 then (some (0, 0, (⟨#[]⟩ : ByteArray), bt427.2.1, bt427.2.2)) else (if bt427.1 = 1 then ((spec_l1Below.f s0_0 bt427.2.1 bt427.2.2 20).bind fun bt430 => ((spec_l1Below.f s0_0 bt430.2.1 bt430.2.2 2).bind fun bt433 => (some (1, wrap64 ((wrap64 ((wrap64 (bt430.1 - 5)) * 500000)) + bt433.1), (⟨#[]⟩ : ByteArray), bt433.2.1, bt433.2.2)))) else (if bt427.1 = 2 then ((spec_l1text.f s0_0 bt427.2.1 bt427.2.2 (([(⟨#[51]⟩ : ByteArray), (⟨#[32, 51, 32]⟩ : ByteArray), (⟨#[45, 49, 46, 53]⟩ : ByteArray), (⟨#[120]⟩ : ByteArray), (⟨#[]⟩ : ByteArray), (⟨#[51, 120]⟩ : ByteArray), (⟨#[49, 48]⟩ : ByteArray)] : List ByteArray))).bind fun bt439 => ((spec_FieldCell.f k bt439.1).bind fun bt442 => (some (bt442.1, bt442.2.1, bt442.2.2, bt439.2.1, bt439.2.2)))) else ((spec_l1text.f s0_0 bt427.2.1 bt427.2.2 (([(⟨#[]⟩ : ByteArray), (⟨#[51]⟩ : ByteArray), (⟨#[97]⟩ : ByteArray), (⟨#[97, 98]⟩ : ByteArray), (⟨#[49, 48]⟩ : ByteArray), (⟨#[32, 50]⟩ : ByteArray)] : List ByteArray))).bind fun bt448 => (some (2, 0, bt448.1, bt448.2.1, bt448.2.2))))))
set_option maxHeartbeats 8000000 in
set_option maxRecDepth 100000 in
theorem spec_l7draw.calls (k : Nat) (g : Nat) (s0_0 : List Int) (s0_1 : Int) (s0_2 : Int) (r1 : Int) (r2 : Int) (r3 : ByteArray) (r4 : Int) (r5 : Int) (w0 w : World) (hI : IsS90 w0 w g s0_0 s0_1 s0_2) (hB : Below w0.heap.size w0 w) (h : spec_l7draw.f k s0_0 s0_1 s0_2 = some (r1, r2, r3, r4, r5)) :
    Calls Tryd.prog 101 #[.pointer (some ⟨g, 0, none⟩)] w fun e w' => e = .returned (.agg #[.int .i64 r1, .int .i64 r2, .string r3]) ∧ IsS90 w0 w' g s0_0 r4 r5 ∧ Below w0.heap.size w0 w' ∧ KeepBut w w' g none := by
  have hu26 := Tryd.underlying26
  have HI0 := Aside0.mk hI
  have HK := Aside0.mk (KeepBut.refl w g none)
  have HL := Aside0.mk hB.size
  clear hI
  have HW0 := Aside0.mk hB.size
  have HB := Aside0.mk hB
  clear hB
  have H : ((spec_l1Below.f s0_0 s0_1 s0_2 4).bind fun bt427 => (if bt427.1 = 0 then (some (0, 0, (⟨#[]⟩ : ByteArray), bt427.2.1, bt427.2.2)) else (if bt427.1 = 1 then ((spec_l1Below.f s0_0 bt427.2.1 bt427.2.2 20).bind fun bt430 => ((spec_l1Below.f s0_0 bt430.2.1 bt430.2.2 2).bind fun bt433 => (some (1, wrap64 ((wrap64 ((wrap64 (bt430.1 - 5)) * 500000)) + bt433.1), (⟨#[]⟩ : ByteArray), bt433.2.1, bt433.2.2)))) else (if bt427.1 = 2 then ((spec_l1text.f s0_0 bt427.2.1 bt427.2.2 (([(⟨#[51]⟩ : ByteArray), (⟨#[32, 51, 32]⟩ : ByteArray), (⟨#[45, 49, 46, 53]⟩ : ByteArray), (⟨#[120]⟩ : ByteArray), (⟨#[]⟩ : ByteArray), (⟨#[51, 120]⟩ : ByteArray), (⟨#[49, 48]⟩ : ByteArray)] : List ByteArray))).bind fun bt439 => ((spec_FieldCell.f k bt439.1).bind fun bt442 => (some (bt442.1, bt442.2.1, bt442.2.2, bt439.2.1, bt439.2.2)))) else ((spec_l1text.f s0_0 bt427.2.1 bt427.2.2 (([(⟨#[]⟩ : ByteArray), (⟨#[51]⟩ : ByteArray), (⟨#[97]⟩ : ByteArray), (⟨#[97, 98]⟩ : ByteArray), (⟨#[49, 48]⟩ : ByteArray), (⟨#[32, 50]⟩ : ByteArray)] : List ByteArray))).bind fun bt448 => (some (2, 0, bt448.1, bt448.2.1, bt448.2.2))))))) = some (r1, r2, r3, r4, r5) := h
  clear h
  replace H := Option.bind_eq_some_iff.mp H
  obtain ⟨⟨t427, t428, t429⟩, A20, H⟩ := H
  replace H : (if t427 = 0 then (some (0, 0, (⟨#[]⟩ : ByteArray), t428, t429)) else (if t427 = 1 then ((spec_l1Below.f s0_0 t428 t429 20).bind fun bt430 => ((spec_l1Below.f s0_0 bt430.2.1 bt430.2.2 2).bind fun bt433 => (some (1, wrap64 ((wrap64 ((wrap64 (bt430.1 - 5)) * 500000)) + bt433.1), (⟨#[]⟩ : ByteArray), bt433.2.1, bt433.2.2)))) else (if t427 = 2 then ((spec_l1text.f s0_0 t428 t429 (([(⟨#[51]⟩ : ByteArray), (⟨#[32, 51, 32]⟩ : ByteArray), (⟨#[45, 49, 46, 53]⟩ : ByteArray), (⟨#[120]⟩ : ByteArray), (⟨#[]⟩ : ByteArray), (⟨#[51, 120]⟩ : ByteArray), (⟨#[49, 48]⟩ : ByteArray)] : List ByteArray))).bind fun bt439 => ((spec_FieldCell.f k bt439.1).bind fun bt442 => (some (bt442.1, bt442.2.1, bt442.2.2, bt439.2.1, bt439.2.2)))) else ((spec_l1text.f s0_0 t428 t429 (([(⟨#[]⟩ : ByteArray), (⟨#[51]⟩ : ByteArray), (⟨#[97]⟩ : ByteArray), (⟨#[97, 98]⟩ : ByteArray), (⟨#[49, 48]⟩ : ByteArray), (⟨#[32, 50]⟩ : ByteArray)] : List ByteArray))).bind fun bt448 => (some (2, 0, bt448.1, bt448.2.1, bt448.2.2)))))) = some (r1, r2, r3, r4, r5) := H
  have A2 := Aside0.mk A20
  clear A20
  by_cases c3 : t427 = 0
  · rw [if_pos c3] at H
    have c3b0 : (t427 == 0) = true := beq_iff_eq.mpr c3
    have c3b1 : (t427 != 0) = false := bne_eq_false_iff_eq.mpr c3
    clear c3
    simp only [Option.some.injEq, Prod.mk.injEq] at H
    obtain ⟨rfl, rfl, rfl, rfl, rfl⟩ := H
    go_enter Tryd.func101, Tryd.ntmps101
    go_wp2_with (first | ((with_reducible refine gate_dst (N := 2) rfl ?_); refine box_event ?hg (N := 2) ?hd (cs := #[.int .i64 0, .int .i64 0, .string (⟨#[]⟩ : ByteArray)]) (t := 26) ?hr ?_; (case hd => rfl); (case hg => rfl); (case hr => first | (go_simp; done) | (go_simp; rfl)); intro gb426 hg w4 hbox hb; have n0_ := Aside0.mk (IsS90.below (by repeat (first | (with_reducible first | exact HI0.out | apply IsS90.alloc | apply IsS90.drewN | apply IsS90.drew | apply IsS90.set_1 | apply IsS90.set_2) | exact HI0.out)) hb); have n1_ := Aside0.mk (KeepBut.trans (by repeat (first | (with_reducible first | exact HK.out | apply KeepBut.set_ | apply keep_drewN | apply keep_drew | apply keep_alloc) | exact HK.out)) (KeepBut.of_below hb g none) (.inl rfl)); have n2_ := Aside0.mk (below_step (by repeat (first | (with_reducible first | exact HB.out | apply below_alloc | apply pw_below_drewN | apply below_drew1 | refine below_set ?_ (IsS90.ge HI0.out)) | exact HB.out)) hb); have n3_ := Aside0.mk (hbox); have n4_ := Aside0.mk ((by rw [hg]; exact (keep_size (w := w) (g := g) (row := none) (by repeat (first | (with_reducible first | exact HK.out | apply KeepBut.set_ | apply keep_drewN | apply keep_drew | apply keep_alloc) | exact HK.out))) : w.heap.size ≤ gb426)); have n5_ := Aside0.mk ((Nat.le_trans HW0.out (by rw [hg]; exact (keep_size (w := w) (g := g) (row := none) (by repeat (first | (with_reducible first | exact HK.out | apply KeepBut.set_ | apply keep_drewN | apply keep_drew | apply keep_alloc) | exact HK.out))) : w.heap.size ≤ gb426) : w0.heap.size ≤ gb426)); have n6_ := Aside0.mk ((by rw [hg]; exact Nat.ne_of_lt (IsS90.lt (show IsS90 w0 _ g s0_0 s0_1 s0_2 from by repeat (first | (with_reducible first | exact HI0.out | apply IsS90.alloc | apply IsS90.drewN | apply IsS90.drew | apply IsS90.set_1 | apply IsS90.set_2) | exact HI0.out))) : g ≠ gb426)); have n7_ := Aside0.mk ((by rw [hg]; exact Nat.ne_of_gt (IsS90.lt (show IsS90 w0 _ g s0_0 s0_1 s0_2 from by repeat (first | (with_reducible first | exact HI0.out | apply IsS90.alloc | apply IsS90.drewN | apply IsS90.drew | apply IsS90.set_1 | apply IsS90.set_2) | exact HI0.out))) : gb426 ≠ g)); clear HI0; clear HK; clear HB; have HI0 := n0_; have HK := n1_; have HB := n2_; have BK426 := n3_; have GW426 := n4_; have GE426 := n5_; have NB0_426 := n6_; have NB426_0 := n7_; clear n0_ n1_ n2_ n3_ n4_ n5_ n6_ n7_; clear hb hbox hg) | ((with_reducible refine gate_callee (f := 48) rfl ?_); refine goesL_ (some 4) rfl rfl Tryd.func48 (by kernel_rfl) rfl #[.pointer (some ⟨g, 0, none⟩), .int .i64 4] rfl (by (try simp only [List.map_toArray, List.map_cons, List.map_nil]); first | done | rfl | (simp only [List.length_drop, List.length_take]; rfl)) ?_; (with_reducible refine (spec_l1Below.calls g s0_0 s0_1 s0_2 4 t427 t428 t429 w0 _ ?side1 ?side2 A2.out).mono ?_); (case side1 => repeat (first | (with_reducible first | exact HI0.out | apply IsS90.alloc | apply IsS90.drewN | apply IsS90.drew | apply IsS90.set_1 | apply IsS90.set_2 | refine IsS90.far ?_ NB0_426.out _) | exact HI0.out)); (case side2 => repeat (first | (with_reducible first | exact HB.out | apply below_alloc | apply pw_below_drewN | apply below_drew1 | refine below_set ?_ (IsS90.ge HI0.out) | refine below_set ?_ GE426.out) | exact HB.out)); rintro e w5 ⟨rfl, hi, hb, hk⟩; refine ⟨_, rfl, ?_⟩; have n0_ := Aside0.mk (KeepBut.blk hk (g' := gb426) (o := .cells #[.int .i64 0, .int .i64 0, .string (⟨#[]⟩ : ByteArray)] 26 (0, 0)) (by (with_reducible repeat (first | refine blk_drewN ?_ _ | refine blk_drew ?_ | refine blk_alloc ?_ _)); exact BK426.out) NB426_0.out (by simp)); have n1_ := Aside0.mk (KeepBut.trans (by repeat (first | (with_reducible first | exact HK.out | apply KeepBut.set_ | apply keep_drewN | apply keep_drew | apply keep_alloc | refine keep_far ?_ GW426.out _) | exact HK.out)) hk (.inl rfl)); have n2_ := Aside0.mk (hb); have n3_ := Aside0.mk (hi); clear BK426; clear HK; clear HB; clear HI0; have BK426 := n0_; have HK := n1_; have HB := n2_; have HI0 := n3_; clear n0_ n1_ n2_ n3_; (try clear hb); (try clear hb2); (try clear hk); (try clear hi); have hnb6 := NB426_0.out; have hnc6 := NB0_426.out; have hcz7_0 : w5.cell? ⟨gb426, 0, none⟩ = some (.int .i64 0) := (blk_cell BK426.out 0).trans rfl; have hcz7_1 : w5.cell? ⟨gb426, 1, none⟩ = some (.int .i64 0) := (blk_cell BK426.out 1).trans rfl; have hcz7_2 : w5.cell? ⟨gb426, 2, none⟩ = some (.string (⟨#[]⟩ : ByteArray)) := (blk_cell BK426.out 2).trans rfl; have hfz7_0 := blk_frozen BK426.out 0; have hfz7_1 := blk_frozen BK426.out 1; have hfz7_2 := blk_frozen BK426.out 2))
    refine bodyPost_ret (results_cell_row rfl _ _ gb426 26 #[.int .i64 0, .int .i64 0, .string (⟨#[]⟩ : ByteArray)] (0, 0) _ rfl (by (with_reducible repeat (first | refine blk_drewN ?_ _ | refine blk_drew ?_ | refine blk_alloc ?_ _)); refine blk_put (cs := #[.int .i64 0, .int .i64 0, .string (⟨#[]⟩ : ByteArray)]) ?_ 2 _ rfl; (with_reducible repeat (first | refine blk_drewN ?_ _ | refine blk_drew ?_ | refine blk_alloc ?_ _)); refine blk_put (cs := #[.int .i64 0, .int .i64 0, .string (⟨#[]⟩ : ByteArray)]) ?_ 1 _ rfl; (with_reducible repeat (first | refine blk_drewN ?_ _ | refine blk_drew ?_ | refine blk_alloc ?_ _)); refine blk_put (cs := #[.int .i64 0, .int .i64 0, .string (⟨#[]⟩ : ByteArray)]) ?_ 0 _ rfl; (with_reducible repeat (first | refine blk_drewN ?_ _ | refine blk_drew ?_ | refine blk_alloc ?_ _)); exact BK426.out) Tryd.underlying26 rfl (by kernel_rfl)) rfl ?_
    exact ⟨by first | rfl | (simp [errW_none, errW_some] <;> rfl) | (simp [*, errW_none, errW_some] <;> rfl), by repeat (first | (with_reducible first | exact HI0.out | apply IsS90.alloc | apply IsS90.drewN | apply IsS90.drew | apply IsS90.set_1 | apply IsS90.set_2 | refine IsS90.far ?_ NB0_426.out _) | exact HI0.out), by repeat (first | (with_reducible first | exact HB.out | apply below_alloc | apply pw_below_drewN | apply below_drew1 | refine below_set ?_ (IsS90.ge HI0.out) | refine below_set ?_ GE426.out) | exact HB.out), by repeat (first | (with_reducible first | exact HK.out | apply KeepBut.set_ | apply keep_drewN | apply keep_drew | apply keep_alloc | refine keep_far ?_ GW426.out _) | exact HK.out)⟩
  · rw [if_neg c3] at H
    have c3b0 : (t427 == 0) = false := beq_eq_false_iff_ne.mpr c3
    have c3b1 : (t427 != 0) = true := bne_iff_ne.mpr c3
    by_cases c8 : t427 = 1
    · rw [if_pos c8] at H
      have c8b0 : (t427 == 1) = true := beq_iff_eq.mpr c8
      have c8b1 : (t427 != 1) = false := bne_eq_false_iff_eq.mpr c8
      clear c8
      replace H := Option.bind_eq_some_iff.mp H
      obtain ⟨⟨t430, t431, t432⟩, A90, H⟩ := H
      replace H : ((spec_l1Below.f s0_0 t431 t432 2).bind fun bt433 => (some (1, wrap64 ((wrap64 ((wrap64 (t430 - 5)) * 500000)) + bt433.1), (⟨#[]⟩ : ByteArray), bt433.2.1, bt433.2.2))) = some (r1, r2, r3, r4, r5) := H
      have A9 := Aside0.mk A90
      clear A90
      replace H := Option.bind_eq_some_iff.mp H
      obtain ⟨⟨t433, t434, t435⟩, A100, H⟩ := H
      replace H : (some (1, wrap64 ((wrap64 ((wrap64 (t430 - 5)) * 500000)) + t433), (⟨#[]⟩ : ByteArray), t434, t435)) = some (r1, r2, r3, r4, r5) := H
      have A10 := Aside0.mk A100
      clear A100
      simp only [Option.some.injEq, Prod.mk.injEq] at H
      obtain ⟨rfl, rfl, rfl, rfl, rfl⟩ := H
      go_enter Tryd.func101, Tryd.ntmps101
      go_wp2_with (first | ((with_reducible refine gate_dst (N := 2) rfl ?_); refine box_event ?hg (N := 2) ?hd (cs := #[.int .i64 0, .int .i64 0, .string (⟨#[]⟩ : ByteArray)]) (t := 26) ?hr ?_; (case hd => rfl); (case hg => rfl); (case hr => first | (go_simp; done) | (go_simp; rfl)); intro gb426 hg w11 hbox hb; have n0_ := Aside0.mk (IsS90.below (by repeat (first | (with_reducible first | exact HI0.out | apply IsS90.alloc | apply IsS90.drewN | apply IsS90.drew | apply IsS90.set_1 | apply IsS90.set_2) | exact HI0.out)) hb); have n1_ := Aside0.mk (KeepBut.trans (by repeat (first | (with_reducible first | exact HK.out | apply KeepBut.set_ | apply keep_drewN | apply keep_drew | apply keep_alloc) | exact HK.out)) (KeepBut.of_below hb g none) (.inl rfl)); have n2_ := Aside0.mk (below_step (by repeat (first | (with_reducible first | exact HB.out | apply below_alloc | apply pw_below_drewN | apply below_drew1 | refine below_set ?_ (IsS90.ge HI0.out)) | exact HB.out)) hb); have n3_ := Aside0.mk (hbox); have n4_ := Aside0.mk ((by rw [hg]; exact (keep_size (w := w) (g := g) (row := none) (by repeat (first | (with_reducible first | exact HK.out | apply KeepBut.set_ | apply keep_drewN | apply keep_drew | apply keep_alloc) | exact HK.out))) : w.heap.size ≤ gb426)); have n5_ := Aside0.mk ((Nat.le_trans HW0.out (by rw [hg]; exact (keep_size (w := w) (g := g) (row := none) (by repeat (first | (with_reducible first | exact HK.out | apply KeepBut.set_ | apply keep_drewN | apply keep_drew | apply keep_alloc) | exact HK.out))) : w.heap.size ≤ gb426) : w0.heap.size ≤ gb426)); have n6_ := Aside0.mk ((by rw [hg]; exact Nat.ne_of_lt (IsS90.lt (show IsS90 w0 _ g s0_0 s0_1 s0_2 from by repeat (first | (with_reducible first | exact HI0.out | apply IsS90.alloc | apply IsS90.drewN | apply IsS90.drew | apply IsS90.set_1 | apply IsS90.set_2) | exact HI0.out))) : g ≠ gb426)); have n7_ := Aside0.mk ((by rw [hg]; exact Nat.ne_of_gt (IsS90.lt (show IsS90 w0 _ g s0_0 s0_1 s0_2 from by repeat (first | (with_reducible first | exact HI0.out | apply IsS90.alloc | apply IsS90.drewN | apply IsS90.drew | apply IsS90.set_1 | apply IsS90.set_2) | exact HI0.out))) : gb426 ≠ g)); clear HI0; clear HK; clear HB; have HI0 := n0_; have HK := n1_; have HB := n2_; have BK426 := n3_; have GW426 := n4_; have GE426 := n5_; have NB0_426 := n6_; have NB426_0 := n7_; clear n0_ n1_ n2_ n3_ n4_ n5_ n6_ n7_; clear hb hbox hg) | ((with_reducible refine gate_callee (f := 48) rfl ?_); refine goesL_ (some 4) rfl rfl Tryd.func48 (by kernel_rfl) rfl #[.pointer (some ⟨g, 0, none⟩), .int .i64 4] rfl (by (try simp only [List.map_toArray, List.map_cons, List.map_nil]); first | done | rfl | (simp only [List.length_drop, List.length_take]; rfl)) ?_; (with_reducible refine (spec_l1Below.calls g s0_0 s0_1 s0_2 4 t427 t428 t429 w0 _ ?side1 ?side2 A2.out).mono ?_); (case side1 => repeat (first | (with_reducible first | exact HI0.out | apply IsS90.alloc | apply IsS90.drewN | apply IsS90.drew | apply IsS90.set_1 | apply IsS90.set_2 | refine IsS90.far ?_ NB0_426.out _) | exact HI0.out)); (case side2 => repeat (first | (with_reducible first | exact HB.out | apply below_alloc | apply pw_below_drewN | apply below_drew1 | refine below_set ?_ (IsS90.ge HI0.out) | refine below_set ?_ GE426.out) | exact HB.out)); rintro e w12 ⟨rfl, hi, hb, hk⟩; refine ⟨_, rfl, ?_⟩; have n0_ := Aside0.mk (KeepBut.blk hk (g' := gb426) (o := .cells #[.int .i64 0, .int .i64 0, .string (⟨#[]⟩ : ByteArray)] 26 (0, 0)) (by (with_reducible repeat (first | refine blk_drewN ?_ _ | refine blk_drew ?_ | refine blk_alloc ?_ _)); exact BK426.out) NB426_0.out (by simp)); have n1_ := Aside0.mk (KeepBut.trans (by repeat (first | (with_reducible first | exact HK.out | apply KeepBut.set_ | apply keep_drewN | apply keep_drew | apply keep_alloc | refine keep_far ?_ GW426.out _) | exact HK.out)) hk (.inl rfl)); have n2_ := Aside0.mk (hb); have n3_ := Aside0.mk (hi); clear BK426; clear HK; clear HB; clear HI0; have BK426 := n0_; have HK := n1_; have HB := n2_; have HI0 := n3_; clear n0_ n1_ n2_ n3_; (try clear hb); (try clear hb2); (try clear hk); (try clear hi)) | ((with_reducible refine gate_callee (f := 48) rfl ?_); refine goesL_ (some 11) rfl rfl Tryd.func48 (by kernel_rfl) rfl #[.pointer (some ⟨g, 0, none⟩), .int .i64 20] rfl (by (try simp only [List.map_toArray, List.map_cons, List.map_nil]); first | done | rfl | (simp only [List.length_drop, List.length_take]; rfl)) ?_; (with_reducible refine (spec_l1Below.calls g s0_0 t428 t429 20 t430 t431 t432 w0 _ ?side1 ?side2 A9.out).mono ?_); (case side1 => repeat (first | (with_reducible first | exact HI0.out | apply IsS90.alloc | apply IsS90.drewN | apply IsS90.drew | apply IsS90.set_1 | apply IsS90.set_2 | refine IsS90.far ?_ NB0_426.out _) | exact HI0.out)); (case side2 => repeat (first | (with_reducible first | exact HB.out | apply below_alloc | apply pw_below_drewN | apply below_drew1 | refine below_set ?_ (IsS90.ge HI0.out) | refine below_set ?_ GE426.out) | exact HB.out)); rintro e w13 ⟨rfl, hi, hb, hk⟩; refine ⟨_, rfl, ?_⟩; have n0_ := Aside0.mk (KeepBut.blk hk (g' := gb426) (o := .cells #[.int .i64 0, .int .i64 0, .string (⟨#[]⟩ : ByteArray)] 26 (0, 0)) (by (with_reducible repeat (first | refine blk_drewN ?_ _ | refine blk_drew ?_ | refine blk_alloc ?_ _)); exact BK426.out) NB426_0.out (by simp)); have n1_ := Aside0.mk (KeepBut.trans (by repeat (first | (with_reducible first | exact HK.out | apply KeepBut.set_ | apply keep_drewN | apply keep_drew | apply keep_alloc | refine keep_far ?_ GW426.out _) | exact HK.out)) hk (.inl rfl)); have n2_ := Aside0.mk (hb); have n3_ := Aside0.mk (hi); clear BK426; clear HK; clear HB; clear HI0; have BK426 := n0_; have HK := n1_; have HB := n2_; have HI0 := n3_; clear n0_ n1_ n2_ n3_; (try clear hb); (try clear hb2); (try clear hk); (try clear hi)) | ((with_reducible refine gate_callee (f := 48) rfl ?_); refine goesL_ (some 15) rfl rfl Tryd.func48 (by kernel_rfl) rfl #[.pointer (some ⟨g, 0, none⟩), .int .i64 2] rfl (by (try simp only [List.map_toArray, List.map_cons, List.map_nil]); first | done | rfl | (simp only [List.length_drop, List.length_take]; rfl)) ?_; (with_reducible refine (spec_l1Below.calls g s0_0 t431 t432 2 t433 t434 t435 w0 _ ?side1 ?side2 A10.out).mono ?_); (case side1 => repeat (first | (with_reducible first | exact HI0.out | apply IsS90.alloc | apply IsS90.drewN | apply IsS90.drew | apply IsS90.set_1 | apply IsS90.set_2 | refine IsS90.far ?_ NB0_426.out _) | exact HI0.out)); (case side2 => repeat (first | (with_reducible first | exact HB.out | apply below_alloc | apply pw_below_drewN | apply below_drew1 | refine below_set ?_ (IsS90.ge HI0.out) | refine below_set ?_ GE426.out) | exact HB.out)); rintro e w14 ⟨rfl, hi, hb, hk⟩; refine ⟨_, rfl, ?_⟩; have n0_ := Aside0.mk (KeepBut.blk hk (g' := gb426) (o := .cells #[.int .i64 0, .int .i64 0, .string (⟨#[]⟩ : ByteArray)] 26 (0, 0)) (by (with_reducible repeat (first | refine blk_drewN ?_ _ | refine blk_drew ?_ | refine blk_alloc ?_ _)); exact BK426.out) NB426_0.out (by simp)); have n1_ := Aside0.mk (KeepBut.trans (by repeat (first | (with_reducible first | exact HK.out | apply KeepBut.set_ | apply keep_drewN | apply keep_drew | apply keep_alloc | refine keep_far ?_ GW426.out _) | exact HK.out)) hk (.inl rfl)); have n2_ := Aside0.mk (hb); have n3_ := Aside0.mk (hi); clear BK426; clear HK; clear HB; clear HI0; have BK426 := n0_; have HK := n1_; have HB := n2_; have HI0 := n3_; clear n0_ n1_ n2_ n3_; (try clear hb); (try clear hb2); (try clear hk); (try clear hi); have hnb15 := NB426_0.out; have hnc15 := NB0_426.out; have hcz16_0 : w14.cell? ⟨gb426, 0, none⟩ = some (.int .i64 0) := (blk_cell BK426.out 0).trans rfl; have hcz16_1 : w14.cell? ⟨gb426, 1, none⟩ = some (.int .i64 0) := (blk_cell BK426.out 1).trans rfl; have hcz16_2 : w14.cell? ⟨gb426, 2, none⟩ = some (.string (⟨#[]⟩ : ByteArray)) := (blk_cell BK426.out 2).trans rfl; have hfz16_0 := blk_frozen BK426.out 0; have hfz16_1 := blk_frozen BK426.out 1; have hfz16_2 := blk_frozen BK426.out 2))
      refine bodyPost_ret (results_cell_row rfl _ _ gb426 26 #[.int .i64 1, .int .i64 (wrap64 ((wrap64 ((wrap64 (t430 - 5)) * 500000)) + t433)), .string (⟨#[]⟩ : ByteArray)] (0, 0) _ rfl (by (with_reducible repeat (first | refine blk_drewN ?_ _ | refine blk_drew ?_ | refine blk_alloc ?_ _)); refine blk_put (cs := #[.int .i64 1, .int .i64 (wrap64 ((wrap64 ((wrap64 (t430 - 5)) * 500000)) + t433)), .string (⟨#[]⟩ : ByteArray)]) ?_ 2 _ rfl; (with_reducible repeat (first | refine blk_drewN ?_ _ | refine blk_drew ?_ | refine blk_alloc ?_ _)); refine blk_put (cs := #[.int .i64 1, .int .i64 0, .string (⟨#[]⟩ : ByteArray)]) ?_ 1 _ rfl; (with_reducible repeat (first | refine blk_drewN ?_ _ | refine blk_drew ?_ | refine blk_alloc ?_ _)); refine blk_put (cs := #[.int .i64 0, .int .i64 0, .string (⟨#[]⟩ : ByteArray)]) ?_ 0 _ rfl; (with_reducible repeat (first | refine blk_drewN ?_ _ | refine blk_drew ?_ | refine blk_alloc ?_ _)); exact BK426.out) Tryd.underlying26 rfl (by kernel_rfl)) rfl ?_
      exact ⟨by first | rfl | (simp [errW_none, errW_some] <;> rfl) | (simp [*, errW_none, errW_some] <;> rfl), by repeat (first | (with_reducible first | exact HI0.out | apply IsS90.alloc | apply IsS90.drewN | apply IsS90.drew | apply IsS90.set_1 | apply IsS90.set_2 | refine IsS90.far ?_ NB0_426.out _) | exact HI0.out), by repeat (first | (with_reducible first | exact HB.out | apply below_alloc | apply pw_below_drewN | apply below_drew1 | refine below_set ?_ (IsS90.ge HI0.out) | refine below_set ?_ GE426.out) | exact HB.out), by repeat (first | (with_reducible first | exact HK.out | apply KeepBut.set_ | apply keep_drewN | apply keep_drew | apply keep_alloc | refine keep_far ?_ GW426.out _) | exact HK.out)⟩
    · rw [if_neg c8] at H
      have c8b0 : (t427 == 1) = false := beq_eq_false_iff_ne.mpr c8
      have c8b1 : (t427 != 1) = true := bne_iff_ne.mpr c8
      by_cases c17 : t427 = 2
      · rw [if_pos c17] at H
        have c17b0 : (t427 == 2) = true := beq_iff_eq.mpr c17
        have c17b1 : (t427 != 2) = false := bne_eq_false_iff_eq.mpr c17
        clear c17
        obtain ⟨y436, hy436⟩ : ∃ y_ : List ByteArray, y_ = (([(⟨#[51]⟩ : ByteArray), (⟨#[32, 51, 32]⟩ : ByteArray), (⟨#[45, 49, 46, 53]⟩ : ByteArray), (⟨#[120]⟩ : ByteArray), (⟨#[]⟩ : ByteArray), (⟨#[51, 120]⟩ : ByteArray), (⟨#[49, 48]⟩ : ByteArray)] : List ByteArray)) := ⟨_, rfl⟩
        replace H : ((spec_l1text.f s0_0 t428 t429 y436).bind fun bt439 => ((spec_FieldCell.f k bt439.1).bind fun bt442 => (some (bt442.1, bt442.2.1, bt442.2.2, bt439.2.1, bt439.2.2)))) = some (r1, r2, r3, r4, r5) := by first | (rw [hy436]; with_reducible exact H) | (have H2_ := (Option.bind_some _ _).symm.trans H; rw [hy436]; with_reducible exact H2_) | (have H2_ := (Option.bind_some _ _).symm.trans H; with_reducible exact H2_) | with_reducible exact H | (rw [hy436]; exact H) | exact H
        have Ny436 := Aside0.mk hy436
        clear hy436
        replace H := Option.bind_eq_some_iff.mp H
        obtain ⟨⟨t439, t440, t441⟩, A180, H⟩ := H
        replace H : ((spec_FieldCell.f k t439).bind fun bt442 => (some (bt442.1, bt442.2.1, bt442.2.2, t440, t441))) = some (r1, r2, r3, r4, r5) := H
        have A18 := Aside0.mk A180
        clear A180
        replace H := Option.bind_eq_some_iff.mp H
        obtain ⟨⟨t442, t443, t444⟩, A190, H⟩ := H
        replace H : (some (t442, t443, t444, t440, t441)) = some (r1, r2, r3, r4, r5) := H
        have A19 := Aside0.mk A190
        clear A190
        simp only [Option.some.injEq, Prod.mk.injEq] at H
        obtain ⟨rfl, rfl, rfl, rfl, rfl⟩ := H
        go_enter Tryd.func101, Tryd.ntmps101
        go_wp2_with (first | ((with_reducible refine gate_dst (N := 2) rfl ?_); refine box_event ?hg (N := 2) ?hd (cs := #[.int .i64 0, .int .i64 0, .string (⟨#[]⟩ : ByteArray)]) (t := 26) ?hr ?_; (case hd => rfl); (case hg => rfl); (case hr => first | (go_simp; done) | (go_simp; rfl)); intro gb426 hg w20 hbox hb; have n0_ := Aside0.mk (IsS90.below (by repeat (first | (with_reducible first | exact HI0.out | apply IsS90.alloc | apply IsS90.drewN | apply IsS90.drew | apply IsS90.set_1 | apply IsS90.set_2) | exact HI0.out)) hb); have n1_ := Aside0.mk (KeepBut.trans (by repeat (first | (with_reducible first | exact HK.out | apply KeepBut.set_ | apply keep_drewN | apply keep_drew | apply keep_alloc) | exact HK.out)) (KeepBut.of_below hb g none) (.inl rfl)); have n2_ := Aside0.mk (below_step (by repeat (first | (with_reducible first | exact HB.out | apply below_alloc | apply pw_below_drewN | apply below_drew1 | refine below_set ?_ (IsS90.ge HI0.out)) | exact HB.out)) hb); have n3_ := Aside0.mk (hbox); have n4_ := Aside0.mk ((by rw [hg]; exact (keep_size (w := w) (g := g) (row := none) (by repeat (first | (with_reducible first | exact HK.out | apply KeepBut.set_ | apply keep_drewN | apply keep_drew | apply keep_alloc) | exact HK.out))) : w.heap.size ≤ gb426)); have n5_ := Aside0.mk ((Nat.le_trans HW0.out (by rw [hg]; exact (keep_size (w := w) (g := g) (row := none) (by repeat (first | (with_reducible first | exact HK.out | apply KeepBut.set_ | apply keep_drewN | apply keep_drew | apply keep_alloc) | exact HK.out))) : w.heap.size ≤ gb426) : w0.heap.size ≤ gb426)); have n6_ := Aside0.mk ((by rw [hg]; exact Nat.ne_of_lt (IsS90.lt (show IsS90 w0 _ g s0_0 s0_1 s0_2 from by repeat (first | (with_reducible first | exact HI0.out | apply IsS90.alloc | apply IsS90.drewN | apply IsS90.drew | apply IsS90.set_1 | apply IsS90.set_2) | exact HI0.out))) : g ≠ gb426)); have n7_ := Aside0.mk ((by rw [hg]; exact Nat.ne_of_gt (IsS90.lt (show IsS90 w0 _ g s0_0 s0_1 s0_2 from by repeat (first | (with_reducible first | exact HI0.out | apply IsS90.alloc | apply IsS90.drewN | apply IsS90.drew | apply IsS90.set_1 | apply IsS90.set_2) | exact HI0.out))) : gb426 ≠ g)); clear HI0; clear HK; clear HB; have HI0 := n0_; have HK := n1_; have HB := n2_; have BK426 := n3_; have GW426 := n4_; have GE426 := n5_; have NB0_426 := n6_; have NB426_0 := n7_; clear n0_ n1_ n2_ n3_ n4_ n5_ n6_ n7_; clear hb hbox hg) | ((with_reducible refine gate_callee (f := 48) rfl ?_); refine goesL_ (some 4) rfl rfl Tryd.func48 (by kernel_rfl) rfl #[.pointer (some ⟨g, 0, none⟩), .int .i64 4] rfl (by (try simp only [List.map_toArray, List.map_cons, List.map_nil]); first | done | rfl | (simp only [List.length_drop, List.length_take]; rfl)) ?_; (with_reducible refine (spec_l1Below.calls g s0_0 s0_1 s0_2 4 t427 t428 t429 w0 _ ?side1 ?side2 A2.out).mono ?_); (case side1 => repeat (first | (with_reducible first | exact HI0.out | apply IsS90.alloc | apply IsS90.drewN | apply IsS90.drew | apply IsS90.set_1 | apply IsS90.set_2 | refine IsS90.far ?_ NB0_426.out _) | exact HI0.out)); (case side2 => repeat (first | (with_reducible first | exact HB.out | apply below_alloc | apply pw_below_drewN | apply below_drew1 | refine below_set ?_ (IsS90.ge HI0.out) | refine below_set ?_ GE426.out) | exact HB.out)); rintro e w21 ⟨rfl, hi, hb, hk⟩; refine ⟨_, rfl, ?_⟩; have n0_ := Aside0.mk (KeepBut.blk hk (g' := gb426) (o := .cells #[.int .i64 0, .int .i64 0, .string (⟨#[]⟩ : ByteArray)] 26 (0, 0)) (by (with_reducible repeat (first | refine blk_drewN ?_ _ | refine blk_drew ?_ | refine blk_alloc ?_ _)); exact BK426.out) NB426_0.out (by simp)); have n1_ := Aside0.mk (KeepBut.trans (by repeat (first | (with_reducible first | exact HK.out | apply KeepBut.set_ | apply keep_drewN | apply keep_drew | apply keep_alloc | refine keep_far ?_ GW426.out _) | exact HK.out)) hk (.inl rfl)); have n2_ := Aside0.mk (hb); have n3_ := Aside0.mk (hi); clear BK426; clear HK; clear HB; clear HI0; have BK426 := n0_; have HK := n1_; have HB := n2_; have HI0 := n3_; clear n0_ n1_ n2_ n3_; (try clear hb); (try clear hb2); (try clear hk); (try clear hi)) | ((with_reducible refine gate_dst (N := 21) rfl ?_); refine Kd.R_lit Kd.string _ 9 ?hg (N := 21) ?hd (xs := ([(⟨#[51]⟩ : ByteArray), (⟨#[32, 51, 32]⟩ : ByteArray), (⟨#[45, 49, 46, 53]⟩ : ByteArray), (⟨#[120]⟩ : ByteArray), (⟨#[]⟩ : ByteArray), (⟨#[51, 120]⟩ : ByteArray), (⟨#[49, 48]⟩ : ByteArray)] : List ByteArray)) (inner := [.string (⟨#[51]⟩ : ByteArray), .string (⟨#[32, 51, 32]⟩ : ByteArray), .string (⟨#[45, 49, 46, 53]⟩ : ByteArray), .string (⟨#[120]⟩ : ByteArray), .string (⟨#[]⟩ : ByteArray), .string (⟨#[51, 120]⟩ : ByteArray), .string (⟨#[49, 48]⟩ : ByteArray)]) (ok := fun _ => True) (okp := fun _ => True) ?hr ?hp (fun _ hk => hk) trivial (Below.refl _ _) (Nat.le_refl _) (by simp) ?_; (case hd => rfl); (case hg => rfl); (case hr => first | (go_simp; done) | (go_simp; rfl)); (case hp => exact (Reps.one (show Kd.M Kd.string _ _ _ (⟨#[51]⟩ : ByteArray) [.string (⟨#[51]⟩ : ByteArray)] from rfl) (Reps.one (show Kd.M Kd.string _ _ _ (⟨#[32, 51, 32]⟩ : ByteArray) [.string (⟨#[32, 51, 32]⟩ : ByteArray)] from rfl) (Reps.one (show Kd.M Kd.string _ _ _ (⟨#[45, 49, 46, 53]⟩ : ByteArray) [.string (⟨#[45, 49, 46, 53]⟩ : ByteArray)] from rfl) (Reps.one (show Kd.M Kd.string _ _ _ (⟨#[120]⟩ : ByteArray) [.string (⟨#[120]⟩ : ByteArray)] from rfl) (Reps.one (show Kd.M Kd.string _ _ _ (⟨#[]⟩ : ByteArray) [.string (⟨#[]⟩ : ByteArray)] from rfl) (Reps.one (show Kd.M Kd.string _ _ _ (⟨#[51, 120]⟩ : ByteArray) [.string (⟨#[51, 120]⟩ : ByteArray)] from rfl) (Reps.one (show Kd.M Kd.string _ _ _ (⟨#[49, 48]⟩ : ByteArray) [.string (⟨#[49, 48]⟩ : ByteArray)] from rfl) (Reps.none _ _))))))))); intro v437 w22 ho23 hb hg_ hnew_; clear hg_ hnew_; (first | rw [← Ny436.out] at ho23 | (simp only [Int.reduceToNat] at ho23; rw [← Ny436.out] at ho23)); have n0_ := Aside0.mk (Kd.R_lower ho23 (keep_size (w := w) (g := g) (row := none) (by repeat (first | (with_reducible first | exact HK.out | apply KeepBut.set_ | apply keep_drewN | apply keep_drew | apply keep_alloc | refine keep_far ?_ GW426.out _) | exact HK.out)))); have n1_ := Aside0.mk (IsS90.below (by repeat (first | (with_reducible first | exact HI0.out | apply IsS90.alloc | apply IsS90.drewN | apply IsS90.drew | apply IsS90.set_1 | apply IsS90.set_2 | refine IsS90.far ?_ NB0_426.out _) | exact HI0.out)) hb); have n2_ := Aside0.mk (blk_below (g := gb426) (o := .cells #[.int .i64 0, .int .i64 0, .string (⟨#[]⟩ : ByteArray)] 26 (0, 0)) (by (with_reducible repeat (first | refine blk_drewN ?_ _ | refine blk_drew ?_ | refine blk_alloc ?_ _)); exact BK426.out) hb); have n3_ := Aside0.mk (KeepBut.trans (by repeat (first | (with_reducible first | exact HK.out | apply KeepBut.set_ | apply keep_drewN | apply keep_drew | apply keep_alloc | refine keep_far ?_ GW426.out _) | exact HK.out)) (KeepBut.of_below hb g none) (.inl rfl)); have n4_ := Aside0.mk (below_step (by repeat (first | (with_reducible first | exact HB.out | apply below_alloc | apply pw_below_drewN | apply below_drew1 | refine below_set ?_ (IsS90.ge HI0.out) | refine below_set ?_ GE426.out) | exact HB.out)) hb); clear HI0; clear BK426; clear HK; clear HB; have HO438 := n0_; have HI0 := n1_; have BK426 := n2_; have HK := n3_; have HB := n4_; clear n0_ n1_ n2_ n3_ n4_; clear hb ho23; obtain ⟨Ao24, co24, eo24⟩ := Kd.R_slice HO438.out; subst eo24) | ((with_reducible refine gate_callee (f := 73) rfl ?_); refine goesL_ (some 22) rfl rfl Tryd.func73 (by kernel_rfl) rfl #[.pointer (some ⟨g, 0, none⟩), .slice Ao24 y436.length co24] rfl (by (try simp only [List.map_toArray, List.map_cons, List.map_nil]); first | done | rfl | (simp only [List.length_drop, List.length_take]; rfl)) ?_; (with_reducible refine (spec_l1text.calls g s0_0 t428 t429 _ _ y436 t439 t440 t441 w0 _ ?side1 ?side2 ?side3 ?side4 ?side5 A18.out).mono ?_); (case side1 => repeat (first | (with_reducible first | exact HI0.out | apply IsS90.alloc | apply IsS90.drewN | apply IsS90.drew | apply IsS90.set_1 | apply IsS90.set_2 | refine IsS90.far ?_ NB0_426.out _) | exact HI0.out)); (case side2 => repeat (first | (with_reducible first | exact HB.out | apply below_alloc | apply pw_below_drewN | apply below_drew1 | refine below_set ?_ (IsS90.ge HI0.out) | refine below_set ?_ GE426.out) | exact HB.out)); (case side3 => repeat (first | exact (Kd.R_reads' HO438.out).2.2 | (with_reducible refine Kd.C_alloc ?_ _) | (with_reducible refine Kd.C_drewN ?_ _) | (with_reducible refine Kd.C_drew ?_))); (case side4 => exact (Kd.R_reads' HO438.out).2.1); (case side5 => exact far_slice (IsS90.own_ne HI0.out HO438.out (by decide))); rintro e w25 ⟨rfl, hi, hb, hk⟩; refine ⟨_, rfl, ?_⟩; have n0_ := Aside0.mk (KeepBut.blk hk (g' := gb426) (o := .cells #[.int .i64 0, .int .i64 0, .string (⟨#[]⟩ : ByteArray)] 26 (0, 0)) (by (with_reducible repeat (first | refine blk_drewN ?_ _ | refine blk_drew ?_ | refine blk_alloc ?_ _)); exact BK426.out) NB426_0.out (by simp)); have n1_ := Aside0.mk (Kd.R_mono (Kd.R_keep (IsS90.apart (show IsS90 w0 _ g s0_0 t428 t429 from by repeat (first | (with_reducible first | exact HI0.out | apply IsS90.alloc | apply IsS90.drewN | apply IsS90.drew | apply IsS90.set_1 | apply IsS90.set_2 | refine IsS90.far ?_ NB0_426.out _) | exact HI0.out)) (by (with_reducible repeat (first | apply Kd.R_alloc | apply Kd.R_drewN | apply Kd.R_drew)); exact HO438.out) (by decide)) hk (fun _ h => h.2)) (fun _ h => h.1)); have n2_ := Aside0.mk (KeepBut.trans (by repeat (first | (with_reducible first | exact HK.out | apply KeepBut.set_ | apply keep_drewN | apply keep_drew | apply keep_alloc | refine keep_far ?_ GW426.out _) | exact HK.out)) hk (.inl rfl)); have n3_ := Aside0.mk (hb); have n4_ := Aside0.mk (hi); clear BK426; clear HO438; clear HK; clear HB; clear HI0; have BK426 := n0_; have HO438 := n1_; have HK := n2_; have HB := n3_; have HI0 := n4_; clear n0_ n1_ n2_ n3_ n4_; (try clear hb); (try clear hb2); (try clear hk); (try clear hi)) | ((with_reducible refine gate_callee (f := 129) rfl ?_); refine goesL_ (some 23) rfl rfl Tryd.func129 (by kernel_rfl) rfl #[.string t439] rfl (by (try simp only [List.map_toArray, List.map_cons, List.map_nil]); first | done | rfl | (simp only [List.length_drop, List.length_take]; rfl)) ?_; (with_reducible refine (spec_FieldCell.calls k t439 t442 t443 t444 _ A19.out).mono ?_); rintro e w26 ⟨rfl, hb⟩; refine ⟨_, rfl, ?_⟩; have n0_ := Aside0.mk (Kd.R_below (by (with_reducible repeat (first | apply Kd.R_alloc | apply Kd.R_drewN | apply Kd.R_drew)); exact HO438.out) hb); have n1_ := Aside0.mk (IsS90.below (by repeat (first | (with_reducible first | exact HI0.out | apply IsS90.alloc | apply IsS90.drewN | apply IsS90.drew | apply IsS90.set_1 | apply IsS90.set_2 | refine IsS90.far ?_ NB0_426.out _) | exact HI0.out)) hb); have n2_ := Aside0.mk (blk_below (g := gb426) (o := .cells #[.int .i64 0, .int .i64 0, .string (⟨#[]⟩ : ByteArray)] 26 (0, 0)) (by (with_reducible repeat (first | refine blk_drewN ?_ _ | refine blk_drew ?_ | refine blk_alloc ?_ _)); exact BK426.out) hb); have n3_ := Aside0.mk (KeepBut.trans (by repeat (first | (with_reducible first | exact HK.out | apply KeepBut.set_ | apply keep_drewN | apply keep_drew | apply keep_alloc | refine keep_far ?_ GW426.out _) | exact HK.out)) (KeepBut.of_below hb g none) (.inl rfl)); have n4_ := Aside0.mk (below_step (by repeat (first | (with_reducible first | exact HB.out | apply below_alloc | apply pw_below_drewN | apply below_drew1 | refine below_set ?_ (IsS90.ge HI0.out) | refine below_set ?_ GE426.out) | exact HB.out)) hb); clear HO438; clear HI0; clear BK426; clear HK; clear HB; have HO438 := n0_; have HI0 := n1_; have BK426 := n2_; have HK := n3_; have HB := n4_; clear n0_ n1_ n2_ n3_ n4_; (try clear hb); (try clear hb2); (try clear hk); (try clear hi); have hnb27 := NB426_0.out; have hnc27 := NB0_426.out; have hcz28_0 : w26.cell? ⟨gb426, 0, none⟩ = some (.int .i64 0) := (blk_cell BK426.out 0).trans rfl; have hcz28_1 : w26.cell? ⟨gb426, 1, none⟩ = some (.int .i64 0) := (blk_cell BK426.out 1).trans rfl; have hcz28_2 : w26.cell? ⟨gb426, 2, none⟩ = some (.string (⟨#[]⟩ : ByteArray)) := (blk_cell BK426.out 2).trans rfl; have hfz28_0 := blk_frozen BK426.out 0; have hfz28_1 := blk_frozen BK426.out 1; have hfz28_2 := blk_frozen BK426.out 2))
        refine bodyPost_ret (results_cell_row rfl _ _ gb426 26 #[.int .i64 t442, .int .i64 t443, .string t444] (0, 0) _ rfl (by (with_reducible repeat (first | refine blk_drewN ?_ _ | refine blk_drew ?_ | refine blk_alloc ?_ _)); refine blk_put (cs := #[.int .i64 t442, .int .i64 t443, .string (⟨#[]⟩ : ByteArray)]) ?_ 2 _ rfl; (with_reducible repeat (first | refine blk_drewN ?_ _ | refine blk_drew ?_ | refine blk_alloc ?_ _)); refine blk_put (cs := #[.int .i64 t442, .int .i64 0, .string (⟨#[]⟩ : ByteArray)]) ?_ 1 _ rfl; (with_reducible repeat (first | refine blk_drewN ?_ _ | refine blk_drew ?_ | refine blk_alloc ?_ _)); refine blk_put (cs := #[.int .i64 0, .int .i64 0, .string (⟨#[]⟩ : ByteArray)]) ?_ 0 _ rfl; (with_reducible repeat (first | refine blk_drewN ?_ _ | refine blk_drew ?_ | refine blk_alloc ?_ _)); exact BK426.out) Tryd.underlying26 rfl (by kernel_rfl)) rfl ?_
        exact ⟨by first | rfl | (simp [errW_none, errW_some] <;> rfl) | (simp [*, errW_none, errW_some] <;> rfl), by repeat (first | (with_reducible first | exact HI0.out | apply IsS90.alloc | apply IsS90.drewN | apply IsS90.drew | apply IsS90.set_1 | apply IsS90.set_2 | refine IsS90.far ?_ NB0_426.out _) | exact HI0.out), by repeat (first | (with_reducible first | exact HB.out | apply below_alloc | apply pw_below_drewN | apply below_drew1 | refine below_set ?_ (IsS90.ge HI0.out) | refine below_set ?_ GE426.out) | exact HB.out), by repeat (first | (with_reducible first | exact HK.out | apply KeepBut.set_ | apply keep_drewN | apply keep_drew | apply keep_alloc | refine keep_far ?_ GW426.out _) | exact HK.out)⟩
      · rw [if_neg c17] at H
        have c17b0 : (t427 == 2) = false := beq_eq_false_iff_ne.mpr c17
        have c17b1 : (t427 != 2) = true := bne_iff_ne.mpr c17
        obtain ⟨y445, hy445⟩ : ∃ y_ : List ByteArray, y_ = (([(⟨#[]⟩ : ByteArray), (⟨#[51]⟩ : ByteArray), (⟨#[97]⟩ : ByteArray), (⟨#[97, 98]⟩ : ByteArray), (⟨#[49, 48]⟩ : ByteArray), (⟨#[32, 50]⟩ : ByteArray)] : List ByteArray)) := ⟨_, rfl⟩
        replace H : ((spec_l1text.f s0_0 t428 t429 y445).bind fun bt448 => (some (2, 0, bt448.1, bt448.2.1, bt448.2.2))) = some (r1, r2, r3, r4, r5) := by first | (rw [hy445]; with_reducible exact H) | (have H2_ := (Option.bind_some _ _).symm.trans H; rw [hy445]; with_reducible exact H2_) | (have H2_ := (Option.bind_some _ _).symm.trans H; with_reducible exact H2_) | with_reducible exact H | (rw [hy445]; exact H) | exact H
        have Ny445 := Aside0.mk hy445
        clear hy445
        replace H := Option.bind_eq_some_iff.mp H
        obtain ⟨⟨t448, t449, t450⟩, A290, H⟩ := H
        replace H : (some (2, 0, t448, t449, t450)) = some (r1, r2, r3, r4, r5) := H
        have A29 := Aside0.mk A290
        clear A290
        simp only [Option.some.injEq, Prod.mk.injEq] at H
        obtain ⟨rfl, rfl, rfl, rfl, rfl⟩ := H
        go_enter Tryd.func101, Tryd.ntmps101
        go_wp2_with (first | ((with_reducible refine gate_dst (N := 2) rfl ?_); refine box_event ?hg (N := 2) ?hd (cs := #[.int .i64 0, .int .i64 0, .string (⟨#[]⟩ : ByteArray)]) (t := 26) ?hr ?_; (case hd => rfl); (case hg => rfl); (case hr => first | (go_simp; done) | (go_simp; rfl)); intro gb426 hg w30 hbox hb; have n0_ := Aside0.mk (IsS90.below (by repeat (first | (with_reducible first | exact HI0.out | apply IsS90.alloc | apply IsS90.drewN | apply IsS90.drew | apply IsS90.set_1 | apply IsS90.set_2) | exact HI0.out)) hb); have n1_ := Aside0.mk (KeepBut.trans (by repeat (first | (with_reducible first | exact HK.out | apply KeepBut.set_ | apply keep_drewN | apply keep_drew | apply keep_alloc) | exact HK.out)) (KeepBut.of_below hb g none) (.inl rfl)); have n2_ := Aside0.mk (below_step (by repeat (first | (with_reducible first | exact HB.out | apply below_alloc | apply pw_below_drewN | apply below_drew1 | refine below_set ?_ (IsS90.ge HI0.out)) | exact HB.out)) hb); have n3_ := Aside0.mk (hbox); have n4_ := Aside0.mk ((by rw [hg]; exact (keep_size (w := w) (g := g) (row := none) (by repeat (first | (with_reducible first | exact HK.out | apply KeepBut.set_ | apply keep_drewN | apply keep_drew | apply keep_alloc) | exact HK.out))) : w.heap.size ≤ gb426)); have n5_ := Aside0.mk ((Nat.le_trans HW0.out (by rw [hg]; exact (keep_size (w := w) (g := g) (row := none) (by repeat (first | (with_reducible first | exact HK.out | apply KeepBut.set_ | apply keep_drewN | apply keep_drew | apply keep_alloc) | exact HK.out))) : w.heap.size ≤ gb426) : w0.heap.size ≤ gb426)); have n6_ := Aside0.mk ((by rw [hg]; exact Nat.ne_of_lt (IsS90.lt (show IsS90 w0 _ g s0_0 s0_1 s0_2 from by repeat (first | (with_reducible first | exact HI0.out | apply IsS90.alloc | apply IsS90.drewN | apply IsS90.drew | apply IsS90.set_1 | apply IsS90.set_2) | exact HI0.out))) : g ≠ gb426)); have n7_ := Aside0.mk ((by rw [hg]; exact Nat.ne_of_gt (IsS90.lt (show IsS90 w0 _ g s0_0 s0_1 s0_2 from by repeat (first | (with_reducible first | exact HI0.out | apply IsS90.alloc | apply IsS90.drewN | apply IsS90.drew | apply IsS90.set_1 | apply IsS90.set_2) | exact HI0.out))) : gb426 ≠ g)); clear HI0; clear HK; clear HB; have HI0 := n0_; have HK := n1_; have HB := n2_; have BK426 := n3_; have GW426 := n4_; have GE426 := n5_; have NB0_426 := n6_; have NB426_0 := n7_; clear n0_ n1_ n2_ n3_ n4_ n5_ n6_ n7_; clear hb hbox hg) | ((with_reducible refine gate_callee (f := 48) rfl ?_); refine goesL_ (some 4) rfl rfl Tryd.func48 (by kernel_rfl) rfl #[.pointer (some ⟨g, 0, none⟩), .int .i64 4] rfl (by (try simp only [List.map_toArray, List.map_cons, List.map_nil]); first | done | rfl | (simp only [List.length_drop, List.length_take]; rfl)) ?_; (with_reducible refine (spec_l1Below.calls g s0_0 s0_1 s0_2 4 t427 t428 t429 w0 _ ?side1 ?side2 A2.out).mono ?_); (case side1 => repeat (first | (with_reducible first | exact HI0.out | apply IsS90.alloc | apply IsS90.drewN | apply IsS90.drew | apply IsS90.set_1 | apply IsS90.set_2 | refine IsS90.far ?_ NB0_426.out _) | exact HI0.out)); (case side2 => repeat (first | (with_reducible first | exact HB.out | apply below_alloc | apply pw_below_drewN | apply below_drew1 | refine below_set ?_ (IsS90.ge HI0.out) | refine below_set ?_ GE426.out) | exact HB.out)); rintro e w31 ⟨rfl, hi, hb, hk⟩; refine ⟨_, rfl, ?_⟩; have n0_ := Aside0.mk (KeepBut.blk hk (g' := gb426) (o := .cells #[.int .i64 0, .int .i64 0, .string (⟨#[]⟩ : ByteArray)] 26 (0, 0)) (by (with_reducible repeat (first | refine blk_drewN ?_ _ | refine blk_drew ?_ | refine blk_alloc ?_ _)); exact BK426.out) NB426_0.out (by simp)); have n1_ := Aside0.mk (KeepBut.trans (by repeat (first | (with_reducible first | exact HK.out | apply KeepBut.set_ | apply keep_drewN | apply keep_drew | apply keep_alloc | refine keep_far ?_ GW426.out _) | exact HK.out)) hk (.inl rfl)); have n2_ := Aside0.mk (hb); have n3_ := Aside0.mk (hi); clear BK426; clear HK; clear HB; clear HI0; have BK426 := n0_; have HK := n1_; have HB := n2_; have HI0 := n3_; clear n0_ n1_ n2_ n3_; (try clear hb); (try clear hb2); (try clear hk); (try clear hi)) | ((with_reducible refine gate_dst (N := 25) rfl ?_); refine Kd.R_lit Kd.string _ 9 ?hg (N := 25) ?hd (xs := ([(⟨#[]⟩ : ByteArray), (⟨#[51]⟩ : ByteArray), (⟨#[97]⟩ : ByteArray), (⟨#[97, 98]⟩ : ByteArray), (⟨#[49, 48]⟩ : ByteArray), (⟨#[32, 50]⟩ : ByteArray)] : List ByteArray)) (inner := [.string (⟨#[]⟩ : ByteArray), .string (⟨#[51]⟩ : ByteArray), .string (⟨#[97]⟩ : ByteArray), .string (⟨#[97, 98]⟩ : ByteArray), .string (⟨#[49, 48]⟩ : ByteArray), .string (⟨#[32, 50]⟩ : ByteArray)]) (ok := fun _ => True) (okp := fun _ => True) ?hr ?hp (fun _ hk => hk) trivial (Below.refl _ _) (Nat.le_refl _) (by simp) ?_; (case hd => rfl); (case hg => rfl); (case hr => first | (go_simp; done) | (go_simp; rfl)); (case hp => exact (Reps.one (show Kd.M Kd.string _ _ _ (⟨#[]⟩ : ByteArray) [.string (⟨#[]⟩ : ByteArray)] from rfl) (Reps.one (show Kd.M Kd.string _ _ _ (⟨#[51]⟩ : ByteArray) [.string (⟨#[51]⟩ : ByteArray)] from rfl) (Reps.one (show Kd.M Kd.string _ _ _ (⟨#[97]⟩ : ByteArray) [.string (⟨#[97]⟩ : ByteArray)] from rfl) (Reps.one (show Kd.M Kd.string _ _ _ (⟨#[97, 98]⟩ : ByteArray) [.string (⟨#[97, 98]⟩ : ByteArray)] from rfl) (Reps.one (show Kd.M Kd.string _ _ _ (⟨#[49, 48]⟩ : ByteArray) [.string (⟨#[49, 48]⟩ : ByteArray)] from rfl) (Reps.one (show Kd.M Kd.string _ _ _ (⟨#[32, 50]⟩ : ByteArray) [.string (⟨#[32, 50]⟩ : ByteArray)] from rfl) (Reps.none _ _)))))))); intro v446 w32 ho33 hb hg_ hnew_; clear hg_ hnew_; (first | rw [← Ny445.out] at ho33 | (simp only [Int.reduceToNat] at ho33; rw [← Ny445.out] at ho33)); have n0_ := Aside0.mk (Kd.R_lower ho33 (keep_size (w := w) (g := g) (row := none) (by repeat (first | (with_reducible first | exact HK.out | apply KeepBut.set_ | apply keep_drewN | apply keep_drew | apply keep_alloc | refine keep_far ?_ GW426.out _) | exact HK.out)))); have n1_ := Aside0.mk (IsS90.below (by repeat (first | (with_reducible first | exact HI0.out | apply IsS90.alloc | apply IsS90.drewN | apply IsS90.drew | apply IsS90.set_1 | apply IsS90.set_2 | refine IsS90.far ?_ NB0_426.out _) | exact HI0.out)) hb); have n2_ := Aside0.mk (blk_below (g := gb426) (o := .cells #[.int .i64 0, .int .i64 0, .string (⟨#[]⟩ : ByteArray)] 26 (0, 0)) (by (with_reducible repeat (first | refine blk_drewN ?_ _ | refine blk_drew ?_ | refine blk_alloc ?_ _)); exact BK426.out) hb); have n3_ := Aside0.mk (KeepBut.trans (by repeat (first | (with_reducible first | exact HK.out | apply KeepBut.set_ | apply keep_drewN | apply keep_drew | apply keep_alloc | refine keep_far ?_ GW426.out _) | exact HK.out)) (KeepBut.of_below hb g none) (.inl rfl)); have n4_ := Aside0.mk (below_step (by repeat (first | (with_reducible first | exact HB.out | apply below_alloc | apply pw_below_drewN | apply below_drew1 | refine below_set ?_ (IsS90.ge HI0.out) | refine below_set ?_ GE426.out) | exact HB.out)) hb); clear HI0; clear BK426; clear HK; clear HB; have HO447 := n0_; have HI0 := n1_; have BK426 := n2_; have HK := n3_; have HB := n4_; clear n0_ n1_ n2_ n3_ n4_; clear hb ho33; obtain ⟨Ao34, co34, eo34⟩ := Kd.R_slice HO447.out; subst eo34) | ((with_reducible refine gate_callee (f := 73) rfl ?_); refine goesL_ (some 26) rfl rfl Tryd.func73 (by kernel_rfl) rfl #[.pointer (some ⟨g, 0, none⟩), .slice Ao34 y445.length co34] rfl (by (try simp only [List.map_toArray, List.map_cons, List.map_nil]); first | done | rfl | (simp only [List.length_drop, List.length_take]; rfl)) ?_; (with_reducible refine (spec_l1text.calls g s0_0 t428 t429 _ _ y445 t448 t449 t450 w0 _ ?side1 ?side2 ?side3 ?side4 ?side5 A29.out).mono ?_); (case side1 => repeat (first | (with_reducible first | exact HI0.out | apply IsS90.alloc | apply IsS90.drewN | apply IsS90.drew | apply IsS90.set_1 | apply IsS90.set_2 | refine IsS90.far ?_ NB0_426.out _) | exact HI0.out)); (case side2 => repeat (first | (with_reducible first | exact HB.out | apply below_alloc | apply pw_below_drewN | apply below_drew1 | refine below_set ?_ (IsS90.ge HI0.out) | refine below_set ?_ GE426.out) | exact HB.out)); (case side3 => repeat (first | exact (Kd.R_reads' HO447.out).2.2 | (with_reducible refine Kd.C_alloc ?_ _) | (with_reducible refine Kd.C_drewN ?_ _) | (with_reducible refine Kd.C_drew ?_))); (case side4 => exact (Kd.R_reads' HO447.out).2.1); (case side5 => exact far_slice (IsS90.own_ne HI0.out HO447.out (by decide))); rintro e w35 ⟨rfl, hi, hb, hk⟩; refine ⟨_, rfl, ?_⟩; have n0_ := Aside0.mk (KeepBut.blk hk (g' := gb426) (o := .cells #[.int .i64 0, .int .i64 0, .string (⟨#[]⟩ : ByteArray)] 26 (0, 0)) (by (with_reducible repeat (first | refine blk_drewN ?_ _ | refine blk_drew ?_ | refine blk_alloc ?_ _)); exact BK426.out) NB426_0.out (by simp)); have n1_ := Aside0.mk (Kd.R_mono (Kd.R_keep (IsS90.apart (show IsS90 w0 _ g s0_0 t428 t429 from by repeat (first | (with_reducible first | exact HI0.out | apply IsS90.alloc | apply IsS90.drewN | apply IsS90.drew | apply IsS90.set_1 | apply IsS90.set_2 | refine IsS90.far ?_ NB0_426.out _) | exact HI0.out)) (by (with_reducible repeat (first | apply Kd.R_alloc | apply Kd.R_drewN | apply Kd.R_drew)); exact HO447.out) (by decide)) hk (fun _ h => h.2)) (fun _ h => h.1)); have n2_ := Aside0.mk (KeepBut.trans (by repeat (first | (with_reducible first | exact HK.out | apply KeepBut.set_ | apply keep_drewN | apply keep_drew | apply keep_alloc | refine keep_far ?_ GW426.out _) | exact HK.out)) hk (.inl rfl)); have n3_ := Aside0.mk (hb); have n4_ := Aside0.mk (hi); clear BK426; clear HO447; clear HK; clear HB; clear HI0; have BK426 := n0_; have HO447 := n1_; have HK := n2_; have HB := n3_; have HI0 := n4_; clear n0_ n1_ n2_ n3_ n4_; (try clear hb); (try clear hb2); (try clear hk); (try clear hi); have hnb36 := NB426_0.out; have hnc36 := NB0_426.out; have hcz37_0 : w35.cell? ⟨gb426, 0, none⟩ = some (.int .i64 0) := (blk_cell BK426.out 0).trans rfl; have hcz37_1 : w35.cell? ⟨gb426, 1, none⟩ = some (.int .i64 0) := (blk_cell BK426.out 1).trans rfl; have hcz37_2 : w35.cell? ⟨gb426, 2, none⟩ = some (.string (⟨#[]⟩ : ByteArray)) := (blk_cell BK426.out 2).trans rfl; have hfz37_0 := blk_frozen BK426.out 0; have hfz37_1 := blk_frozen BK426.out 1; have hfz37_2 := blk_frozen BK426.out 2))
        refine bodyPost_ret (results_cell_row rfl _ _ gb426 26 #[.int .i64 2, .int .i64 0, .string t448] (0, 0) _ rfl (by (with_reducible repeat (first | refine blk_drewN ?_ _ | refine blk_drew ?_ | refine blk_alloc ?_ _)); refine blk_put (cs := #[.int .i64 2, .int .i64 0, .string (⟨#[]⟩ : ByteArray)]) ?_ 2 _ rfl; (with_reducible repeat (first | refine blk_drewN ?_ _ | refine blk_drew ?_ | refine blk_alloc ?_ _)); refine blk_put (cs := #[.int .i64 2, .int .i64 0, .string (⟨#[]⟩ : ByteArray)]) ?_ 1 _ rfl; (with_reducible repeat (first | refine blk_drewN ?_ _ | refine blk_drew ?_ | refine blk_alloc ?_ _)); refine blk_put (cs := #[.int .i64 0, .int .i64 0, .string (⟨#[]⟩ : ByteArray)]) ?_ 0 _ rfl; (with_reducible repeat (first | refine blk_drewN ?_ _ | refine blk_drew ?_ | refine blk_alloc ?_ _)); exact BK426.out) Tryd.underlying26 rfl (by kernel_rfl)) rfl ?_
        exact ⟨by first | rfl | (simp [errW_none, errW_some] <;> rfl) | (simp [*, errW_none, errW_some] <;> rfl), by repeat (first | (with_reducible first | exact HI0.out | apply IsS90.alloc | apply IsS90.drewN | apply IsS90.drew | apply IsS90.set_1 | apply IsS90.set_2 | refine IsS90.far ?_ NB0_426.out _) | exact HI0.out), by repeat (first | (with_reducible first | exact HB.out | apply below_alloc | apply pw_below_drewN | apply below_drew1 | refine below_set ?_ (IsS90.ge HI0.out) | refine below_set ?_ GE426.out) | exact HB.out), by repeat (first | (with_reducible first | exact HK.out | apply KeepBut.set_ | apply keep_drewN | apply keep_drew | apply keep_alloc | refine keep_far ?_ GW426.out _) | exact HK.out)⟩
end Go.Proofs.YtnfiljnncpieoaaDoor.Q
namespace Go.Proofs.YtnfiljnncpieoaaDoor.Q
open Go.RowKit Go.Proofs.YtnfiljnncpieoaaDoorW.PrintWords Go.Proofs.YtnfiljnncpieoaaDoorW.PrintLast Go.Proofs.YtnfiljnncpieoaaDoorW.PrintMore
attribute [local go_sem] max2_int min2_int max_two min_two max_three min_three max_four min_four   -- for this text's walks alone
set_option linter.unusedVariables false
set_option linter.unusedSimpArgs false
def spec_l7bent.f (k : Nat) (s0_0 : List Int) (s0_1 : Int) (s0_2 : Int) : Option (Int × Int × ByteArray × Int × Int) := (spec_l7draw.f k s0_0 s0_1 s0_2).bind fun bt452 => ((spec_l1Below.f s0_0 bt452.2.2.2.1 bt452.2.2.2.2 16).bind fun bt458 => (if bt458.1 = 0 then ((spec_l1Below.f s0_0 bt458.2.1 bt458.2.2 6).bind fun bt461 => (some (wrap64 (bt461.1 - 1), bt452.2.1, bt452.2.2.1, bt461.2.1, bt461.2.2))) else (if bt458.1 = 1 then ((spec_l1num.f s0_0 bt458.2.1 bt458.2.2).bind fun bt464 => (some (bt452.1, bt464.1, bt452.2.2.1, bt464.2.1, bt464.2.2))) else (if bt458.1 = 2 then ((spec_l1Below.f s0_0 bt458.2.1 bt458.2.2 2).bind fun bt467 => ((spec_l1of.f k s0_0 bt467.2.1 bt467.2.2 (wrap64 (500 + bt467.1)) (⟨#[97]⟩ : ByteArray)).bind fun bt470 => (some (bt452.1, bt452.2.1, bt470.1, bt470.2.1, bt470.2.2)))) else (some (bt452.1, bt452.2.1, bt452.2.2.1, bt458.2.1, bt458.2.2))))))
set_option maxHeartbeats 8000000 in
set_option maxRecDepth 100000 in
theorem spec_l7bent.calls (k : Nat) (g : Nat) (s0_0 : List Int) (s0_1 : Int) (s0_2 : Int) (r1 : Int) (r2 : Int) (r3 : ByteArray) (r4 : Int) (r5 : Int) (w0 w : World) (hI : IsS90 w0 w g s0_0 s0_1 s0_2) (hB : Below w0.heap.size w0 w) (h : spec_l7bent.f k s0_0 s0_1 s0_2 = some (r1, r2, r3, r4, r5)) :
    Calls Tryd.prog 63 #[.pointer (some ⟨g, 0, none⟩)] w fun e w' => e = .returned (.agg #[.int .i64 r1, .int .i64 r2, .string r3]) ∧ IsS90 w0 w' g s0_0 r4 r5 ∧ Below w0.heap.size w0 w' ∧ KeepBut w w' g none := by
  have hu26 := Tryd.underlying26
  have HI0 := Aside0.mk hI
  have HK := Aside0.mk (KeepBut.refl w g none)
  have HL := Aside0.mk hB.size
  clear hI
  have HW0 := Aside0.mk hB.size
  have HB := Aside0.mk hB
  clear hB
  have H : ((spec_l7draw.f k s0_0 s0_1 s0_2).bind fun bt452 => ((spec_l1Below.f s0_0 bt452.2.2.2.1 bt452.2.2.2.2 16).bind fun bt458 => (if bt458.1 = 0 then ((spec_l1Below.f s0_0 bt458.2.1 bt458.2.2 6).bind fun bt461 => (some (wrap64 (bt461.1 - 1), bt452.2.1, bt452.2.2.1, bt461.2.1, bt461.2.2))) else (if bt458.1 = 1 then ((spec_l1num.f s0_0 bt458.2.1 bt458.2.2).bind fun bt464 => (some (bt452.1, bt464.1, bt452.2.2.1, bt464.2.1, bt464.2.2))) else (if bt458.1 = 2 then ((spec_l1Below.f s0_0 bt458.2.1 bt458.2.2 2).bind fun bt467 => ((spec_l1of.f k s0_0 bt467.2.1 bt467.2.2 (wrap64 (500 + bt467.1)) (⟨#[97]⟩ : ByteArray)).bind fun bt470 => (some (bt452.1, bt452.2.1, bt470.1, bt470.2.1, bt470.2.2)))) else (some (bt452.1, bt452.2.1, bt452.2.2.1, bt458.2.1, bt458.2.2))))))) = some (r1, r2, r3, r4, r5) := h
  clear h
  replace H := Option.bind_eq_some_iff.mp H
  obtain ⟨⟨t452, t453, t454, t455, t456⟩, A20, H⟩ := H
  replace H : ((spec_l1Below.f s0_0 t455 t456 16).bind fun bt458 => (if bt458.1 = 0 then ((spec_l1Below.f s0_0 bt458.2.1 bt458.2.2 6).bind fun bt461 => (some (wrap64 (bt461.1 - 1), t453, t454, bt461.2.1, bt461.2.2))) else (if bt458.1 = 1 then ((spec_l1num.f s0_0 bt458.2.1 bt458.2.2).bind fun bt464 => (some (t452, bt464.1, t454, bt464.2.1, bt464.2.2))) else (if bt458.1 = 2 then ((spec_l1Below.f s0_0 bt458.2.1 bt458.2.2 2).bind fun bt467 => ((spec_l1of.f k s0_0 bt467.2.1 bt467.2.2 (wrap64 (500 + bt467.1)) (⟨#[97]⟩ : ByteArray)).bind fun bt470 => (some (t452, t453, bt470.1, bt470.2.1, bt470.2.2)))) else (some (t452, t453, t454, bt458.2.1, bt458.2.2)))))) = some (r1, r2, r3, r4, r5) := H
  have A2 := Aside0.mk A20
  clear A20
  replace H := Option.bind_eq_some_iff.mp H
  obtain ⟨⟨t458, t459, t460⟩, A30, H⟩ := H
  replace H : (if t458 = 0 then ((spec_l1Below.f s0_0 t459 t460 6).bind fun bt461 => (some (wrap64 (bt461.1 - 1), t453, t454, bt461.2.1, bt461.2.2))) else (if t458 = 1 then ((spec_l1num.f s0_0 t459 t460).bind fun bt464 => (some (t452, bt464.1, t454, bt464.2.1, bt464.2.2))) else (if t458 = 2 then ((spec_l1Below.f s0_0 t459 t460 2).bind fun bt467 => ((spec_l1of.f k s0_0 bt467.2.1 bt467.2.2 (wrap64 (500 + bt467.1)) (⟨#[97]⟩ : ByteArray)).bind fun bt470 => (some (t452, t453, bt470.1, bt470.2.1, bt470.2.2)))) else (some (t452, t453, t454, t459, t460))))) = some (r1, r2, r3, r4, r5) := H
  have A3 := Aside0.mk A30
  clear A30
  by_cases c4 : t458 = 0
  · rw [if_pos c4] at H
    have c4b0 : (t458 == 0) = true := beq_iff_eq.mpr c4
    have c4b1 : (t458 != 0) = false := bne_eq_false_iff_eq.mpr c4
    clear c4
    replace H := Option.bind_eq_some_iff.mp H
    obtain ⟨⟨t461, t462, t463⟩, A50, H⟩ := H
    replace H : (some (wrap64 (t461 - 1), t453, t454, t462, t463)) = some (r1, r2, r3, r4, r5) := H
    have A5 := Aside0.mk A50
    clear A50
    simp only [Option.some.injEq, Prod.mk.injEq] at H
    obtain ⟨rfl, rfl, rfl, rfl, rfl⟩ := H
    go_enter Tryd.func63, Tryd.ntmps63
    go_wp2_with (first | ((with_reducible refine gate_dst (N := 2) rfl ?_); refine box_event ?hg (N := 2) ?hd (cs := #[.int .i64 0, .int .i64 0, .string (⟨#[]⟩ : ByteArray)]) (t := 26) ?hr ?_; (case hd => rfl); (case hg => rfl); (case hr => first | (go_simp; done) | (go_simp; rfl)); intro gb451 hg w6 hbox hb; have n0_ := Aside0.mk (IsS90.below (by repeat (first | (with_reducible first | exact HI0.out | apply IsS90.alloc | apply IsS90.drewN | apply IsS90.drew | apply IsS90.set_1 | apply IsS90.set_2) | exact HI0.out)) hb); have n1_ := Aside0.mk (KeepBut.trans (by repeat (first | (with_reducible first | exact HK.out | apply KeepBut.set_ | apply keep_drewN | apply keep_drew | apply keep_alloc) | exact HK.out)) (KeepBut.of_below hb g none) (.inl rfl)); have n2_ := Aside0.mk (below_step (by repeat (first | (with_reducible first | exact HB.out | apply below_alloc | apply pw_below_drewN | apply below_drew1 | refine below_set ?_ (IsS90.ge HI0.out)) | exact HB.out)) hb); have n3_ := Aside0.mk (hbox); have n4_ := Aside0.mk ((by rw [hg]; exact (keep_size (w := w) (g := g) (row := none) (by repeat (first | (with_reducible first | exact HK.out | apply KeepBut.set_ | apply keep_drewN | apply keep_drew | apply keep_alloc) | exact HK.out))) : w.heap.size ≤ gb451)); have n5_ := Aside0.mk ((Nat.le_trans HW0.out (by rw [hg]; exact (keep_size (w := w) (g := g) (row := none) (by repeat (first | (with_reducible first | exact HK.out | apply KeepBut.set_ | apply keep_drewN | apply keep_drew | apply keep_alloc) | exact HK.out))) : w.heap.size ≤ gb451) : w0.heap.size ≤ gb451)); have n6_ := Aside0.mk ((by rw [hg]; exact Nat.ne_of_lt (IsS90.lt (show IsS90 w0 _ g s0_0 s0_1 s0_2 from by repeat (first | (with_reducible first | exact HI0.out | apply IsS90.alloc | apply IsS90.drewN | apply IsS90.drew | apply IsS90.set_1 | apply IsS90.set_2) | exact HI0.out))) : g ≠ gb451)); have n7_ := Aside0.mk ((by rw [hg]; exact Nat.ne_of_gt (IsS90.lt (show IsS90 w0 _ g s0_0 s0_1 s0_2 from by repeat (first | (with_reducible first | exact HI0.out | apply IsS90.alloc | apply IsS90.drewN | apply IsS90.drew | apply IsS90.set_1 | apply IsS90.set_2) | exact HI0.out))) : gb451 ≠ g)); clear HI0; clear HK; clear HB; have HI0 := n0_; have HK := n1_; have HB := n2_; have BK451 := n3_; have GW451 := n4_; have GE451 := n5_; have NB0_451 := n6_; have NB451_0 := n7_; clear n0_ n1_ n2_ n3_ n4_ n5_ n6_ n7_; clear hb hbox hg) | ((with_reducible refine gate_callee (f := 101) rfl ?_); refine goesL_ (some 5) rfl rfl Tryd.func101 (by kernel_rfl) rfl #[.pointer (some ⟨g, 0, none⟩)] rfl (by (try simp only [List.map_toArray, List.map_cons, List.map_nil]); first | done | rfl | (simp only [List.length_drop, List.length_take]; rfl)) ?_; (with_reducible refine (spec_l7draw.calls k g s0_0 s0_1 s0_2 t452 t453 t454 t455 t456 w0 _ ?side1 ?side2 A2.out).mono ?_); (case side1 => repeat (first | (with_reducible first | exact HI0.out | apply IsS90.alloc | apply IsS90.drewN | apply IsS90.drew | apply IsS90.set_1 | apply IsS90.set_2 | refine IsS90.far ?_ NB0_451.out _) | exact HI0.out)); (case side2 => repeat (first | (with_reducible first | exact HB.out | apply below_alloc | apply pw_below_drewN | apply below_drew1 | refine below_set ?_ (IsS90.ge HI0.out) | refine below_set ?_ GE451.out) | exact HB.out)); rintro e w7 ⟨rfl, hi, hb, hk⟩; refine ⟨_, rfl, ?_⟩; have n0_ := Aside0.mk (KeepBut.blk hk (g' := gb451) (o := .cells #[.int .i64 0, .int .i64 0, .string (⟨#[]⟩ : ByteArray)] 26 (0, 0)) (by (with_reducible repeat (first | refine blk_drewN ?_ _ | refine blk_drew ?_ | refine blk_alloc ?_ _)); exact BK451.out) NB451_0.out (by simp)); have n1_ := Aside0.mk (KeepBut.trans (by repeat (first | (with_reducible first | exact HK.out | apply KeepBut.set_ | apply keep_drewN | apply keep_drew | apply keep_alloc | refine keep_far ?_ GW451.out _) | exact HK.out)) hk (.inl rfl)); have n2_ := Aside0.mk (hb); have n3_ := Aside0.mk (hi); clear BK451; clear HK; clear HB; clear HI0; have BK451 := n0_; have HK := n1_; have HB := n2_; have HI0 := n3_; clear n0_ n1_ n2_ n3_; (try clear hb); (try clear hb2); (try clear hk); (try clear hi)) | ((with_reducible refine gate_dst (N := 3) rfl ?_); refine box_event ?hg (N := 3) ?hd (cs := #[.int .i64 0, .int .i64 0, .string (⟨#[]⟩ : ByteArray)]) (t := 26) ?hr ?_; (case hd => rfl); (case hg => rfl); (case hr => first | (go_simp; done) | (go_simp; rfl)); intro gb457 hg w8 hbox hb; have n0_ := Aside0.mk (IsS90.below (by repeat (first | (with_reducible first | exact HI0.out | apply IsS90.alloc | apply IsS90.drewN | apply IsS90.drew | apply IsS90.set_1 | apply IsS90.set_2 | refine IsS90.far ?_ NB0_451.out _) | exact HI0.out)) hb); have n1_ := Aside0.mk (blk_below (g := gb451) (o := .cells #[.int .i64 0, .int .i64 0, .string (⟨#[]⟩ : ByteArray)] 26 (0, 0)) (by (with_reducible repeat (first | refine blk_drewN ?_ _ | refine blk_drew ?_ | refine blk_alloc ?_ _)); exact BK451.out) hb); have n2_ := Aside0.mk (KeepBut.trans (by repeat (first | (with_reducible first | exact HK.out | apply KeepBut.set_ | apply keep_drewN | apply keep_drew | apply keep_alloc | refine keep_far ?_ GW451.out _) | exact HK.out)) (KeepBut.of_below hb g none) (.inl rfl)); have n3_ := Aside0.mk (below_step (by repeat (first | (with_reducible first | exact HB.out | apply below_alloc | apply pw_below_drewN | apply below_drew1 | refine below_set ?_ (IsS90.ge HI0.out) | refine below_set ?_ GE451.out) | exact HB.out)) hb); have n4_ := Aside0.mk (hbox); have n5_ := Aside0.mk ((by rw [hg]; exact (keep_size (w := w) (g := g) (row := none) (by repeat (first | (with_reducible first | exact HK.out | apply KeepBut.set_ | apply keep_drewN | apply keep_drew | apply keep_alloc | refine keep_far ?_ GW451.out _) | exact HK.out))) : w.heap.size ≤ gb457)); have n6_ := Aside0.mk ((Nat.le_trans HW0.out (by rw [hg]; exact (keep_size (w := w) (g := g) (row := none) (by repeat (first | (with_reducible first | exact HK.out | apply KeepBut.set_ | apply keep_drewN | apply keep_drew | apply keep_alloc | refine keep_far ?_ GW451.out _) | exact HK.out))) : w.heap.size ≤ gb457) : w0.heap.size ≤ gb457)); have n7_ := Aside0.mk ((by rw [hg]; exact Nat.ne_of_lt (blk_lt (g := gb451) (o := .cells #[.int .i64 0, .int .i64 0, .string (⟨#[]⟩ : ByteArray)] 26 (0, 0)) (by (with_reducible repeat (first | refine blk_drewN ?_ _ | refine blk_drew ?_ | refine blk_alloc ?_ _)); exact BK451.out)) : gb451 ≠ gb457)); have n8_ := Aside0.mk ((by rw [hg]; exact Nat.ne_of_gt (blk_lt (g := gb451) (o := .cells #[.int .i64 0, .int .i64 0, .string (⟨#[]⟩ : ByteArray)] 26 (0, 0)) (by (with_reducible repeat (first | refine blk_drewN ?_ _ | refine blk_drew ?_ | refine blk_alloc ?_ _)); exact BK451.out)) : gb457 ≠ gb451)); have n9_ := Aside0.mk ((by rw [hg]; exact Nat.ne_of_lt (IsS90.lt (show IsS90 w0 _ g s0_0 t455 t456 from by repeat (first | (with_reducible first | exact HI0.out | apply IsS90.alloc | apply IsS90.drewN | apply IsS90.drew | apply IsS90.set_1 | apply IsS90.set_2 | refine IsS90.far ?_ NB0_451.out _) | exact HI0.out))) : g ≠ gb457)); have n10_ := Aside0.mk ((by rw [hg]; exact Nat.ne_of_gt (IsS90.lt (show IsS90 w0 _ g s0_0 t455 t456 from by repeat (first | (with_reducible first | exact HI0.out | apply IsS90.alloc | apply IsS90.drewN | apply IsS90.drew | apply IsS90.set_1 | apply IsS90.set_2 | refine IsS90.far ?_ NB0_451.out _) | exact HI0.out))) : gb457 ≠ g)); clear HI0; clear BK451; clear HK; clear HB; have HI0 := n0_; have BK451 := n1_; have HK := n2_; have HB := n3_; have BK457 := n4_; have GW457 := n5_; have GE457 := n6_; have NB451_457 := n7_; have NB457_451 := n8_; have NB0_457 := n9_; have NB457_0 := n10_; clear n0_ n1_ n2_ n3_ n4_ n5_ n6_ n7_ n8_ n9_ n10_; clear hb hbox hg; have hnb9 := NB457_451.out; have hnc9 := NB451_457.out; have hnb10 := NB457_0.out; have hnc10 := NB0_457.out; have hcz11_0 : w8.cell? ⟨gb457, 0, none⟩ = some (.int .i64 0) := (blk_cell BK457.out 0).trans rfl; have hcz11_1 : w8.cell? ⟨gb457, 1, none⟩ = some (.int .i64 0) := (blk_cell BK457.out 1).trans rfl; have hcz11_2 : w8.cell? ⟨gb457, 2, none⟩ = some (.string (⟨#[]⟩ : ByteArray)) := (blk_cell BK457.out 2).trans rfl; have hfz11_0 := blk_frozen BK457.out 0; have hfz11_1 := blk_frozen BK457.out 1; have hfz11_2 := blk_frozen BK457.out 2) | ((with_reducible refine gate_callee (f := 48) rfl ?_); refine goesL_ (some 7) rfl rfl Tryd.func48 (by kernel_rfl) rfl #[.pointer (some ⟨g, 0, none⟩), .int .i64 16] rfl (by (try simp only [List.map_toArray, List.map_cons, List.map_nil]); first | done | rfl | (simp only [List.length_drop, List.length_take]; rfl)) ?_; (with_reducible refine (spec_l1Below.calls g s0_0 t455 t456 16 t458 t459 t460 w0 _ ?side1 ?side2 A3.out).mono ?_); (case side1 => repeat (first | (with_reducible first | exact HI0.out | apply IsS90.alloc | apply IsS90.drewN | apply IsS90.drew | apply IsS90.set_1 | apply IsS90.set_2 | refine IsS90.far ?_ NB0_451.out _ | refine IsS90.far ?_ NB0_457.out _) | exact HI0.out)); (case side2 => repeat (first | (with_reducible first | exact HB.out | apply below_alloc | apply pw_below_drewN | apply below_drew1 | refine below_set ?_ (IsS90.ge HI0.out) | refine below_set ?_ GE451.out | refine below_set ?_ GE457.out) | exact HB.out)); rintro e w12 ⟨rfl, hi, hb, hk⟩; refine ⟨_, rfl, ?_⟩; have n0_ := Aside0.mk (KeepBut.blk hk (g' := gb451) (o := .cells #[.int .i64 0, .int .i64 0, .string (⟨#[]⟩ : ByteArray)] 26 (0, 0)) (by (with_reducible repeat (first | refine blk_drewN ?_ _ | refine blk_drew ?_ | refine blk_alloc ?_ _)); refine blk_far ?_ NB451_457.out _; (with_reducible repeat (first | refine blk_drewN ?_ _ | refine blk_drew ?_ | refine blk_alloc ?_ _)); refine blk_far ?_ NB451_457.out _; (with_reducible repeat (first | refine blk_drewN ?_ _ | refine blk_drew ?_ | refine blk_alloc ?_ _)); refine blk_far ?_ NB451_457.out _; (with_reducible repeat (first | refine blk_drewN ?_ _ | refine blk_drew ?_ | refine blk_alloc ?_ _)); exact BK451.out) NB451_0.out (by simp)); have n1_ := Aside0.mk (KeepBut.blk hk (g' := gb457) (o := .cells #[.int .i64 t452, .int .i64 t453, .string t454] 26 (0, 0)) (by (with_reducible repeat (first | refine blk_drewN ?_ _ | refine blk_drew ?_ | refine blk_alloc ?_ _)); refine blk_put (cs := #[.int .i64 t452, .int .i64 t453, .string (⟨#[]⟩ : ByteArray)]) ?_ 2 _ rfl; (with_reducible repeat (first | refine blk_drewN ?_ _ | refine blk_drew ?_ | refine blk_alloc ?_ _)); refine blk_put (cs := #[.int .i64 t452, .int .i64 0, .string (⟨#[]⟩ : ByteArray)]) ?_ 1 _ rfl; (with_reducible repeat (first | refine blk_drewN ?_ _ | refine blk_drew ?_ | refine blk_alloc ?_ _)); refine blk_put (cs := #[.int .i64 0, .int .i64 0, .string (⟨#[]⟩ : ByteArray)]) ?_ 0 _ rfl; (with_reducible repeat (first | refine blk_drewN ?_ _ | refine blk_drew ?_ | refine blk_alloc ?_ _)); exact BK457.out) NB457_0.out (by simp)); have n2_ := Aside0.mk (KeepBut.trans (by repeat (first | (with_reducible first | exact HK.out | apply KeepBut.set_ | apply keep_drewN | apply keep_drew | apply keep_alloc | refine keep_far ?_ GW451.out _ | refine keep_far ?_ GW457.out _) | exact HK.out)) hk (.inl rfl)); have n3_ := Aside0.mk (hb); have n4_ := Aside0.mk (hi); clear BK451; clear BK457; clear HK; clear HB; clear HI0; have BK451 := n0_; have BK457 := n1_; have HK := n2_; have HB := n3_; have HI0 := n4_; clear n0_ n1_ n2_ n3_ n4_; (try clear hb); (try clear hb2); (try clear hk); (try clear hi)) | ((with_reducible refine gate_callee (f := 48) rfl ?_); refine goesL_ (some 11) rfl rfl Tryd.func48 (by kernel_rfl) rfl #[.pointer (some ⟨g, 0, none⟩), .int .i64 6] rfl (by (try simp only [List.map_toArray, List.map_cons, List.map_nil]); first | done | rfl | (simp only [List.length_drop, List.length_take]; rfl)) ?_; (with_reducible refine (spec_l1Below.calls g s0_0 t459 t460 6 t461 t462 t463 w0 _ ?side1 ?side2 A5.out).mono ?_); (case side1 => repeat (first | (with_reducible first | exact HI0.out | apply IsS90.alloc | apply IsS90.drewN | apply IsS90.drew | apply IsS90.set_1 | apply IsS90.set_2 | refine IsS90.far ?_ NB0_451.out _ | refine IsS90.far ?_ NB0_457.out _) | exact HI0.out)); (case side2 => repeat (first | (with_reducible first | exact HB.out | apply below_alloc | apply pw_below_drewN | apply below_drew1 | refine below_set ?_ (IsS90.ge HI0.out) | refine below_set ?_ GE451.out | refine below_set ?_ GE457.out) | exact HB.out)); rintro e w13 ⟨rfl, hi, hb, hk⟩; refine ⟨_, rfl, ?_⟩; have n0_ := Aside0.mk (KeepBut.blk hk (g' := gb451) (o := .cells #[.int .i64 0, .int .i64 0, .string (⟨#[]⟩ : ByteArray)] 26 (0, 0)) (by (with_reducible repeat (first | refine blk_drewN ?_ _ | refine blk_drew ?_ | refine blk_alloc ?_ _)); exact BK451.out) NB451_0.out (by simp)); have n1_ := Aside0.mk (KeepBut.blk hk (g' := gb457) (o := .cells #[.int .i64 t452, .int .i64 t453, .string t454] 26 (0, 0)) (by (with_reducible repeat (first | refine blk_drewN ?_ _ | refine blk_drew ?_ | refine blk_alloc ?_ _)); exact BK457.out) NB457_0.out (by simp)); have n2_ := Aside0.mk (KeepBut.trans (by repeat (first | (with_reducible first | exact HK.out | apply KeepBut.set_ | apply keep_drewN | apply keep_drew | apply keep_alloc | refine keep_far ?_ GW451.out _ | refine keep_far ?_ GW457.out _) | exact HK.out)) hk (.inl rfl)); have n3_ := Aside0.mk (hb); have n4_ := Aside0.mk (hi); clear BK451; clear BK457; clear HK; clear HB; clear HI0; have BK451 := n0_; have BK457 := n1_; have HK := n2_; have HB := n3_; have HI0 := n4_; clear n0_ n1_ n2_ n3_ n4_; (try clear hb); (try clear hb2); (try clear hk); (try clear hi); have hcz14_0 : w13.cell? ⟨gb457, 0, none⟩ = some (.int .i64 t452) := (blk_cell BK457.out 0).trans rfl; have hcz14_1 : w13.cell? ⟨gb457, 1, none⟩ = some (.int .i64 t453) := (blk_cell BK457.out 1).trans rfl; have hcz14_2 : w13.cell? ⟨gb457, 2, none⟩ = some (.string t454) := (blk_cell BK457.out 2).trans rfl; have hfz14_0 := blk_frozen BK457.out 0; have hfz14_1 := blk_frozen BK457.out 1; have hfz14_2 := blk_frozen BK457.out 2; have hnb15 := NB451_0.out; have hnc15 := NB0_451.out; have hcz16_0 : w13.cell? ⟨gb451, 0, none⟩ = some (.int .i64 0) := (blk_cell BK451.out 0).trans rfl; have hcz16_1 : w13.cell? ⟨gb451, 1, none⟩ = some (.int .i64 0) := (blk_cell BK451.out 1).trans rfl; have hcz16_2 : w13.cell? ⟨gb451, 2, none⟩ = some (.string (⟨#[]⟩ : ByteArray)) := (blk_cell BK451.out 2).trans rfl; have hfz16_0 := blk_frozen BK451.out 0; have hfz16_1 := blk_frozen BK451.out 1; have hfz16_2 := blk_frozen BK451.out 2))
    refine bodyPost_ret (results_cell_row rfl _ _ gb451 26 #[.int .i64 (wrap64 (t461 - 1)), .int .i64 t453, .string t454] (0, 0) _ rfl (by (with_reducible repeat (first | refine blk_drewN ?_ _ | refine blk_drew ?_ | refine blk_alloc ?_ _)); refine blk_put (cs := #[.int .i64 (wrap64 (t461 - 1)), .int .i64 t453, .string (⟨#[]⟩ : ByteArray)]) ?_ 2 _ rfl; (with_reducible repeat (first | refine blk_drewN ?_ _ | refine blk_drew ?_ | refine blk_alloc ?_ _)); refine blk_put (cs := #[.int .i64 (wrap64 (t461 - 1)), .int .i64 0, .string (⟨#[]⟩ : ByteArray)]) ?_ 1 _ rfl; (with_reducible repeat (first | refine blk_drewN ?_ _ | refine blk_drew ?_ | refine blk_alloc ?_ _)); refine blk_put (cs := #[.int .i64 0, .int .i64 0, .string (⟨#[]⟩ : ByteArray)]) ?_ 0 _ rfl; (with_reducible repeat (first | refine blk_drewN ?_ _ | refine blk_drew ?_ | refine blk_alloc ?_ _)); refine blk_far ?_ NB451_457.out _; (with_reducible repeat (first | refine blk_drewN ?_ _ | refine blk_drew ?_ | refine blk_alloc ?_ _)); exact BK451.out) Tryd.underlying26 rfl (by kernel_rfl)) rfl ?_
    exact ⟨by first | rfl | (simp [errW_none, errW_some] <;> rfl) | (simp [*, errW_none, errW_some] <;> rfl), by repeat (first | (with_reducible first | exact HI0.out | apply IsS90.alloc | apply IsS90.drewN | apply IsS90.drew | apply IsS90.set_1 | apply IsS90.set_2 | refine IsS90.far ?_ NB0_451.out _ | refine IsS90.far ?_ NB0_457.out _) | exact HI0.out), by repeat (first | (with_reducible first | exact HB.out | apply below_alloc | apply pw_below_drewN | apply below_drew1 | refine below_set ?_ (IsS90.ge HI0.out) | refine below_set ?_ GE451.out | refine below_set ?_ GE457.out) | exact HB.out), by repeat (first | (with_reducible first | exact HK.out | apply KeepBut.set_ | apply keep_drewN | apply keep_drew | apply keep_alloc | refine keep_far ?_ GW451.out _ | refine keep_far ?_ GW457.out _) | exact HK.out)⟩
  · rw [if_neg c4] at H
    have c4b0 : (t458 == 0) = false := beq_eq_false_iff_ne.mpr c4
    have c4b1 : (t458 != 0) = true := bne_iff_ne.mpr c4
    by_cases c17 : t458 = 1
    · rw [if_pos c17] at H
      have c17b0 : (t458 == 1) = true := beq_iff_eq.mpr c17
      have c17b1 : (t458 != 1) = false := bne_eq_false_iff_eq.mpr c17
      clear c17
      replace H := Option.bind_eq_some_iff.mp H
      obtain ⟨⟨t464, t465, t466⟩, A180, H⟩ := H
      replace H : (some (t452, t464, t454, t465, t466)) = some (r1, r2, r3, r4, r5) := H
      have A18 := Aside0.mk A180
      clear A180
      simp only [Option.some.injEq, Prod.mk.injEq] at H
      obtain ⟨rfl, rfl, rfl, rfl, rfl⟩ := H
      go_enter Tryd.func63, Tryd.ntmps63
      go_wp2_with (first | ((with_reducible refine gate_dst (N := 2) rfl ?_); refine box_event ?hg (N := 2) ?hd (cs := #[.int .i64 0, .int .i64 0, .string (⟨#[]⟩ : ByteArray)]) (t := 26) ?hr ?_; (case hd => rfl); (case hg => rfl); (case hr => first | (go_simp; done) | (go_simp; rfl)); intro gb451 hg w19 hbox hb; have n0_ := Aside0.mk (IsS90.below (by repeat (first | (with_reducible first | exact HI0.out | apply IsS90.alloc | apply IsS90.drewN | apply IsS90.drew | apply IsS90.set_1 | apply IsS90.set_2) | exact HI0.out)) hb); have n1_ := Aside0.mk (KeepBut.trans (by repeat (first | (with_reducible first | exact HK.out | apply KeepBut.set_ | apply keep_drewN | apply keep_drew | apply keep_alloc) | exact HK.out)) (KeepBut.of_below hb g none) (.inl rfl)); have n2_ := Aside0.mk (below_step (by repeat (first | (with_reducible first | exact HB.out | apply below_alloc | apply pw_below_drewN | apply below_drew1 | refine below_set ?_ (IsS90.ge HI0.out)) | exact HB.out)) hb); have n3_ := Aside0.mk (hbox); have n4_ := Aside0.mk ((by rw [hg]; exact (keep_size (w := w) (g := g) (row := none) (by repeat (first | (with_reducible first | exact HK.out | apply KeepBut.set_ | apply keep_drewN | apply keep_drew | apply keep_alloc) | exact HK.out))) : w.heap.size ≤ gb451)); have n5_ := Aside0.mk ((Nat.le_trans HW0.out (by rw [hg]; exact (keep_size (w := w) (g := g) (row := none) (by repeat (first | (with_reducible first | exact HK.out | apply KeepBut.set_ | apply keep_drewN | apply keep_drew | apply keep_alloc) | exact HK.out))) : w.heap.size ≤ gb451) : w0.heap.size ≤ gb451)); have n6_ := Aside0.mk ((by rw [hg]; exact Nat.ne_of_lt (IsS90.lt (show IsS90 w0 _ g s0_0 s0_1 s0_2 from by repeat (first | (with_reducible first | exact HI0.out | apply IsS90.alloc | apply IsS90.drewN | apply IsS90.drew | apply IsS90.set_1 | apply IsS90.set_2) | exact HI0.out))) : g ≠ gb451)); have n7_ := Aside0.mk ((by rw [hg]; exact Nat.ne_of_gt (IsS90.lt (show IsS90 w0 _ g s0_0 s0_1 s0_2 from by repeat (first | (with_reducible first | exact HI0.out | apply IsS90.alloc | apply IsS90.drewN | apply IsS90.drew | apply IsS90.set_1 | apply IsS90.set_2) | exact HI0.out))) : gb451 ≠ g)); clear HI0; clear HK; clear HB; have HI0 := n0_; have HK := n1_; have HB := n2_; have BK451 := n3_; have GW451 := n4_; have GE451 := n5_; have NB0_451 := n6_; have NB451_0 := n7_; clear n0_ n1_ n2_ n3_ n4_ n5_ n6_ n7_; clear hb hbox hg) | ((with_reducible refine gate_callee (f := 101) rfl ?_); refine goesL_ (some 5) rfl rfl Tryd.func101 (by kernel_rfl) rfl #[.pointer (some ⟨g, 0, none⟩)] rfl (by (try simp only [List.map_toArray, List.map_cons, List.map_nil]); first | done | rfl | (simp only [List.length_drop, List.length_take]; rfl)) ?_; (with_reducible refine (spec_l7draw.calls k g s0_0 s0_1 s0_2 t452 t453 t454 t455 t456 w0 _ ?side1 ?side2 A2.out).mono ?_); (case side1 => repeat (first | (with_reducible first | exact HI0.out | apply IsS90.alloc | apply IsS90.drewN | apply IsS90.drew | apply IsS90.set_1 | apply IsS90.set_2 | refine IsS90.far ?_ NB0_451.out _) | exact HI0.out)); (case side2 => repeat (first | (with_reducible first | exact HB.out | apply below_alloc | apply pw_below_drewN | apply below_drew1 | refine below_set ?_ (IsS90.ge HI0.out) | refine below_set ?_ GE451.out) | exact HB.out)); rintro e w20 ⟨rfl, hi, hb, hk⟩; refine ⟨_, rfl, ?_⟩; have n0_ := Aside0.mk (KeepBut.blk hk (g' := gb451) (o := .cells #[.int .i64 0, .int .i64 0, .string (⟨#[]⟩ : ByteArray)] 26 (0, 0)) (by (with_reducible repeat (first | refine blk_drewN ?_ _ | refine blk_drew ?_ | refine blk_alloc ?_ _)); exact BK451.out) NB451_0.out (by simp)); have n1_ := Aside0.mk (KeepBut.trans (by repeat (first | (with_reducible first | exact HK.out | apply KeepBut.set_ | apply keep_drewN | apply keep_drew | apply keep_alloc | refine keep_far ?_ GW451.out _) | exact HK.out)) hk (.inl rfl)); have n2_ := Aside0.mk (hb); have n3_ := Aside0.mk (hi); clear BK451; clear HK; clear HB; clear HI0; have BK451 := n0_; have HK := n1_; have HB := n2_; have HI0 := n3_; clear n0_ n1_ n2_ n3_; (try clear hb); (try clear hb2); (try clear hk); (try clear hi)) | ((with_reducible refine gate_dst (N := 3) rfl ?_); refine box_event ?hg (N := 3) ?hd (cs := #[.int .i64 0, .int .i64 0, .string (⟨#[]⟩ : ByteArray)]) (t := 26) ?hr ?_; (case hd => rfl); (case hg => rfl); (case hr => first | (go_simp; done) | (go_simp; rfl)); intro gb457 hg w21 hbox hb; have n0_ := Aside0.mk (IsS90.below (by repeat (first | (with_reducible first | exact HI0.out | apply IsS90.alloc | apply IsS90.drewN | apply IsS90.drew | apply IsS90.set_1 | apply IsS90.set_2 | refine IsS90.far ?_ NB0_451.out _) | exact HI0.out)) hb); have n1_ := Aside0.mk (blk_below (g := gb451) (o := .cells #[.int .i64 0, .int .i64 0, .string (⟨#[]⟩ : ByteArray)] 26 (0, 0)) (by (with_reducible repeat (first | refine blk_drewN ?_ _ | refine blk_drew ?_ | refine blk_alloc ?_ _)); exact BK451.out) hb); have n2_ := Aside0.mk (KeepBut.trans (by repeat (first | (with_reducible first | exact HK.out | apply KeepBut.set_ | apply keep_drewN | apply keep_drew | apply keep_alloc | refine keep_far ?_ GW451.out _) | exact HK.out)) (KeepBut.of_below hb g none) (.inl rfl)); have n3_ := Aside0.mk (below_step (by repeat (first | (with_reducible first | exact HB.out | apply below_alloc | apply pw_below_drewN | apply below_drew1 | refine below_set ?_ (IsS90.ge HI0.out) | refine below_set ?_ GE451.out) | exact HB.out)) hb); have n4_ := Aside0.mk (hbox); have n5_ := Aside0.mk ((by rw [hg]; exact (keep_size (w := w) (g := g) (row := none) (by repeat (first | (with_reducible first | exact HK.out | apply KeepBut.set_ | apply keep_drewN | apply keep_drew | apply keep_alloc | refine keep_far ?_ GW451.out _) | exact HK.out))) : w.heap.size ≤ gb457)); have n6_ := Aside0.mk ((Nat.le_trans HW0.out (by rw [hg]; exact (keep_size (w := w) (g := g) (row := none) (by repeat (first | (with_reducible first | exact HK.out | apply KeepBut.set_ | apply keep_drewN | apply keep_drew | apply keep_alloc | refine keep_far ?_ GW451.out _) | exact HK.out))) : w.heap.size ≤ gb457) : w0.heap.size ≤ gb457)); have n7_ := Aside0.mk ((by rw [hg]; exact Nat.ne_of_lt (blk_lt (g := gb451) (o := .cells #[.int .i64 0, .int .i64 0, .string (⟨#[]⟩ : ByteArray)] 26 (0, 0)) (by (with_reducible repeat (first | refine blk_drewN ?_ _ | refine blk_drew ?_ | refine blk_alloc ?_ _)); exact BK451.out)) : gb451 ≠ gb457)); have n8_ := Aside0.mk ((by rw [hg]; exact Nat.ne_of_gt (blk_lt (g := gb451) (o := .cells #[.int .i64 0, .int .i64 0, .string (⟨#[]⟩ : ByteArray)] 26 (0, 0)) (by (with_reducible repeat (first | refine blk_drewN ?_ _ | refine blk_drew ?_ | refine blk_alloc ?_ _)); exact BK451.out)) : gb457 ≠ gb451)); have n9_ := Aside0.mk ((by rw [hg]; exact Nat.ne_of_lt (IsS90.lt (show IsS90 w0 _ g s0_0 t455 t456 from by repeat (first | (with_reducible first | exact HI0.out | apply IsS90.alloc | apply IsS90.drewN | apply IsS90.drew | apply IsS90.set_1 | apply IsS90.set_2 | refine IsS90.far ?_ NB0_451.out _) | exact HI0.out))) : g ≠ gb457)); have n10_ := Aside0.mk ((by rw [hg]; exact Nat.ne_of_gt (IsS90.lt (show IsS90 w0 _ g s0_0 t455 t456 from by repeat (first | (with_reducible first | exact HI0.out | apply IsS90.alloc | apply IsS90.drewN | apply IsS90.drew | apply IsS90.set_1 | apply IsS90.set_2 | refine IsS90.far ?_ NB0_451.out _) | exact HI0.out))) : gb457 ≠ g)); clear HI0; clear BK451; clear HK; clear HB; have HI0 := n0_; have BK451 := n1_; have HK := n2_; have HB := n3_; have BK457 := n4_; have GW457 := n5_; have GE457 := n6_; have NB451_457 := n7_; have NB457_451 := n8_; have NB0_457 := n9_; have NB457_0 := n10_; clear n0_ n1_ n2_ n3_ n4_ n5_ n6_ n7_ n8_ n9_ n10_; clear hb hbox hg; have hnb22 := NB457_451.out; have hnc22 := NB451_457.out; have hnb23 := NB457_0.out; have hnc23 := NB0_457.out; have hcz24_0 : w21.cell? ⟨gb457, 0, none⟩ = some (.int .i64 0) := (blk_cell BK457.out 0).trans rfl; have hcz24_1 : w21.cell? ⟨gb457, 1, none⟩ = some (.int .i64 0) := (blk_cell BK457.out 1).trans rfl; have hcz24_2 : w21.cell? ⟨gb457, 2, none⟩ = some (.string (⟨#[]⟩ : ByteArray)) := (blk_cell BK457.out 2).trans rfl; have hfz24_0 := blk_frozen BK457.out 0; have hfz24_1 := blk_frozen BK457.out 1; have hfz24_2 := blk_frozen BK457.out 2) | ((with_reducible refine gate_callee (f := 48) rfl ?_); refine goesL_ (some 7) rfl rfl Tryd.func48 (by kernel_rfl) rfl #[.pointer (some ⟨g, 0, none⟩), .int .i64 16] rfl (by (try simp only [List.map_toArray, List.map_cons, List.map_nil]); first | done | rfl | (simp only [List.length_drop, List.length_take]; rfl)) ?_; (with_reducible refine (spec_l1Below.calls g s0_0 t455 t456 16 t458 t459 t460 w0 _ ?side1 ?side2 A3.out).mono ?_); (case side1 => repeat (first | (with_reducible first | exact HI0.out | apply IsS90.alloc | apply IsS90.drewN | apply IsS90.drew | apply IsS90.set_1 | apply IsS90.set_2 | refine IsS90.far ?_ NB0_451.out _ | refine IsS90.far ?_ NB0_457.out _) | exact HI0.out)); (case side2 => repeat (first | (with_reducible first | exact HB.out | apply below_alloc | apply pw_below_drewN | apply below_drew1 | refine below_set ?_ (IsS90.ge HI0.out) | refine below_set ?_ GE451.out | refine below_set ?_ GE457.out) | exact HB.out)); rintro e w25 ⟨rfl, hi, hb, hk⟩; refine ⟨_, rfl, ?_⟩; have n0_ := Aside0.mk (KeepBut.blk hk (g' := gb451) (o := .cells #[.int .i64 0, .int .i64 0, .string (⟨#[]⟩ : ByteArray)] 26 (0, 0)) (by (with_reducible repeat (first | refine blk_drewN ?_ _ | refine blk_drew ?_ | refine blk_alloc ?_ _)); refine blk_far ?_ NB451_457.out _; (with_reducible repeat (first | refine blk_drewN ?_ _ | refine blk_drew ?_ | refine blk_alloc ?_ _)); refine blk_far ?_ NB451_457.out _; (with_reducible repeat (first | refine blk_drewN ?_ _ | refine blk_drew ?_ | refine blk_alloc ?_ _)); refine blk_far ?_ NB451_457.out _; (with_reducible repeat (first | refine blk_drewN ?_ _ | refine blk_drew ?_ | refine blk_alloc ?_ _)); exact BK451.out) NB451_0.out (by simp)); have n1_ := Aside0.mk (KeepBut.blk hk (g' := gb457) (o := .cells #[.int .i64 t452, .int .i64 t453, .string t454] 26 (0, 0)) (by (with_reducible repeat (first | refine blk_drewN ?_ _ | refine blk_drew ?_ | refine blk_alloc ?_ _)); refine blk_put (cs := #[.int .i64 t452, .int .i64 t453, .string (⟨#[]⟩ : ByteArray)]) ?_ 2 _ rfl; (with_reducible repeat (first | refine blk_drewN ?_ _ | refine blk_drew ?_ | refine blk_alloc ?_ _)); refine blk_put (cs := #[.int .i64 t452, .int .i64 0, .string (⟨#[]⟩ : ByteArray)]) ?_ 1 _ rfl; (with_reducible repeat (first | refine blk_drewN ?_ _ | refine blk_drew ?_ | refine blk_alloc ?_ _)); refine blk_put (cs := #[.int .i64 0, .int .i64 0, .string (⟨#[]⟩ : ByteArray)]) ?_ 0 _ rfl; (with_reducible repeat (first | refine blk_drewN ?_ _ | refine blk_drew ?_ | refine blk_alloc ?_ _)); exact BK457.out) NB457_0.out (by simp)); have n2_ := Aside0.mk (KeepBut.trans (by repeat (first | (with_reducible first | exact HK.out | apply KeepBut.set_ | apply keep_drewN | apply keep_drew | apply keep_alloc | refine keep_far ?_ GW451.out _ | refine keep_far ?_ GW457.out _) | exact HK.out)) hk (.inl rfl)); have n3_ := Aside0.mk (hb); have n4_ := Aside0.mk (hi); clear BK451; clear BK457; clear HK; clear HB; clear HI0; have BK451 := n0_; have BK457 := n1_; have HK := n2_; have HB := n3_; have HI0 := n4_; clear n0_ n1_ n2_ n3_ n4_; (try clear hb); (try clear hb2); (try clear hk); (try clear hi)) | ((with_reducible refine gate_callee (f := 92) rfl ?_); refine goesL_ (some 17) rfl rfl Tryd.func92 (by kernel_rfl) rfl #[.pointer (some ⟨g, 0, none⟩)] rfl (by (try simp only [List.map_toArray, List.map_cons, List.map_nil]); first | done | rfl | (simp only [List.length_drop, List.length_take]; rfl)) ?_; (with_reducible refine (spec_l1num.calls g s0_0 t459 t460 t464 t465 t466 w0 _ ?side1 ?side2 A18.out).mono ?_); (case side1 => repeat (first | (with_reducible first | exact HI0.out | apply IsS90.alloc | apply IsS90.drewN | apply IsS90.drew | apply IsS90.set_1 | apply IsS90.set_2 | refine IsS90.far ?_ NB0_451.out _ | refine IsS90.far ?_ NB0_457.out _) | exact HI0.out)); (case side2 => repeat (first | (with_reducible first | exact HB.out | apply below_alloc | apply pw_below_drewN | apply below_drew1 | refine below_set ?_ (IsS90.ge HI0.out) | refine below_set ?_ GE451.out | refine below_set ?_ GE457.out) | exact HB.out)); rintro e w26 ⟨rfl, hi, hb, hk⟩; refine ⟨_, rfl, ?_⟩; have n0_ := Aside0.mk (KeepBut.blk hk (g' := gb451) (o := .cells #[.int .i64 0, .int .i64 0, .string (⟨#[]⟩ : ByteArray)] 26 (0, 0)) (by (with_reducible repeat (first | refine blk_drewN ?_ _ | refine blk_drew ?_ | refine blk_alloc ?_ _)); exact BK451.out) NB451_0.out (by simp)); have n1_ := Aside0.mk (KeepBut.blk hk (g' := gb457) (o := .cells #[.int .i64 t452, .int .i64 t453, .string t454] 26 (0, 0)) (by (with_reducible repeat (first | refine blk_drewN ?_ _ | refine blk_drew ?_ | refine blk_alloc ?_ _)); exact BK457.out) NB457_0.out (by simp)); have n2_ := Aside0.mk (KeepBut.trans (by repeat (first | (with_reducible first | exact HK.out | apply KeepBut.set_ | apply keep_drewN | apply keep_drew | apply keep_alloc | refine keep_far ?_ GW451.out _ | refine keep_far ?_ GW457.out _) | exact HK.out)) hk (.inl rfl)); have n3_ := Aside0.mk (hb); have n4_ := Aside0.mk (hi); clear BK451; clear BK457; clear HK; clear HB; clear HI0; have BK451 := n0_; have BK457 := n1_; have HK := n2_; have HB := n3_; have HI0 := n4_; clear n0_ n1_ n2_ n3_ n4_; (try clear hb); (try clear hb2); (try clear hk); (try clear hi); have hcz27_0 : w26.cell? ⟨gb457, 0, none⟩ = some (.int .i64 t452) := (blk_cell BK457.out 0).trans rfl; have hcz27_1 : w26.cell? ⟨gb457, 1, none⟩ = some (.int .i64 t453) := (blk_cell BK457.out 1).trans rfl; have hcz27_2 : w26.cell? ⟨gb457, 2, none⟩ = some (.string t454) := (blk_cell BK457.out 2).trans rfl; have hfz27_0 := blk_frozen BK457.out 0; have hfz27_1 := blk_frozen BK457.out 1; have hfz27_2 := blk_frozen BK457.out 2; have hnb28 := NB451_0.out; have hnc28 := NB0_451.out; have hcz29_0 : w26.cell? ⟨gb451, 0, none⟩ = some (.int .i64 0) := (blk_cell BK451.out 0).trans rfl; have hcz29_1 : w26.cell? ⟨gb451, 1, none⟩ = some (.int .i64 0) := (blk_cell BK451.out 1).trans rfl; have hcz29_2 : w26.cell? ⟨gb451, 2, none⟩ = some (.string (⟨#[]⟩ : ByteArray)) := (blk_cell BK451.out 2).trans rfl; have hfz29_0 := blk_frozen BK451.out 0; have hfz29_1 := blk_frozen BK451.out 1; have hfz29_2 := blk_frozen BK451.out 2))
      refine bodyPost_ret (results_cell_row rfl _ _ gb451 26 #[.int .i64 t452, .int .i64 t464, .string t454] (0, 0) _ rfl (by (with_reducible repeat (first | refine blk_drewN ?_ _ | refine blk_drew ?_ | refine blk_alloc ?_ _)); refine blk_put (cs := #[.int .i64 t452, .int .i64 t464, .string (⟨#[]⟩ : ByteArray)]) ?_ 2 _ rfl; (with_reducible repeat (first | refine blk_drewN ?_ _ | refine blk_drew ?_ | refine blk_alloc ?_ _)); refine blk_put (cs := #[.int .i64 t452, .int .i64 0, .string (⟨#[]⟩ : ByteArray)]) ?_ 1 _ rfl; (with_reducible repeat (first | refine blk_drewN ?_ _ | refine blk_drew ?_ | refine blk_alloc ?_ _)); refine blk_put (cs := #[.int .i64 0, .int .i64 0, .string (⟨#[]⟩ : ByteArray)]) ?_ 0 _ rfl; (with_reducible repeat (first | refine blk_drewN ?_ _ | refine blk_drew ?_ | refine blk_alloc ?_ _)); refine blk_far ?_ NB451_457.out _; (with_reducible repeat (first | refine blk_drewN ?_ _ | refine blk_drew ?_ | refine blk_alloc ?_ _)); exact BK451.out) Tryd.underlying26 rfl (by kernel_rfl)) rfl ?_
      exact ⟨by first | rfl | (simp [errW_none, errW_some] <;> rfl) | (simp [*, errW_none, errW_some] <;> rfl), by repeat (first | (with_reducible first | exact HI0.out | apply IsS90.alloc | apply IsS90.drewN | apply IsS90.drew | apply IsS90.set_1 | apply IsS90.set_2 | refine IsS90.far ?_ NB0_451.out _ | refine IsS90.far ?_ NB0_457.out _) | exact HI0.out), by repeat (first | (with_reducible first | exact HB.out | apply below_alloc | apply pw_below_drewN | apply below_drew1 | refine below_set ?_ (IsS90.ge HI0.out) | refine below_set ?_ GE451.out | refine below_set ?_ GE457.out) | exact HB.out), by repeat (first | (with_reducible first | exact HK.out | apply KeepBut.set_ | apply keep_drewN | apply keep_drew | apply keep_alloc | refine keep_far ?_ GW451.out _ | refine keep_far ?_ GW457.out _) | exact HK.out)⟩
    · rw [if_neg c17] at H
      have c17b0 : (t458 == 1) = false := beq_eq_false_iff_ne.mpr c17
      have c17b1 : (t458 != 1) = true := bne_iff_ne.mpr c17
      by_cases c30 : t458 = 2
      · rw [if_pos c30] at H
        have c30b0 : (t458 == 2) = true := beq_iff_eq.mpr c30
        have c30b1 : (t458 != 2) = false := bne_eq_false_iff_eq.mpr c30
        clear c30
        replace H := Option.bind_eq_some_iff.mp H
        obtain ⟨⟨t467, t468, t469⟩, A310, H⟩ := H
        replace H : ((spec_l1of.f k s0_0 t468 t469 (wrap64 (500 + t467)) (⟨#[97]⟩ : ByteArray)).bind fun bt470 => (some (t452, t453, bt470.1, bt470.2.1, bt470.2.2))) = some (r1, r2, r3, r4, r5) := H
        have A31 := Aside0.mk A310
        clear A310
        replace H := Option.bind_eq_some_iff.mp H
        obtain ⟨⟨t470, t471, t472⟩, A320, H⟩ := H
        replace H : (some (t452, t453, t470, t471, t472)) = some (r1, r2, r3, r4, r5) := H
        have A32 := Aside0.mk A320
        clear A320
        simp only [Option.some.injEq, Prod.mk.injEq] at H
        obtain ⟨rfl, rfl, rfl, rfl, rfl⟩ := H
        go_enter Tryd.func63, Tryd.ntmps63
        go_wp2_with (first | ((with_reducible refine gate_dst (N := 2) rfl ?_); refine box_event ?hg (N := 2) ?hd (cs := #[.int .i64 0, .int .i64 0, .string (⟨#[]⟩ : ByteArray)]) (t := 26) ?hr ?_; (case hd => rfl); (case hg => rfl); (case hr => first | (go_simp; done) | (go_simp; rfl)); intro gb451 hg w33 hbox hb; have n0_ := Aside0.mk (IsS90.below (by repeat (first | (with_reducible first | exact HI0.out | apply IsS90.alloc | apply IsS90.drewN | apply IsS90.drew | apply IsS90.set_1 | apply IsS90.set_2) | exact HI0.out)) hb); have n1_ := Aside0.mk (KeepBut.trans (by repeat (first | (with_reducible first | exact HK.out | apply KeepBut.set_ | apply keep_drewN | apply keep_drew | apply keep_alloc) | exact HK.out)) (KeepBut.of_below hb g none) (.inl rfl)); have n2_ := Aside0.mk (below_step (by repeat (first | (with_reducible first | exact HB.out | apply below_alloc | apply pw_below_drewN | apply below_drew1 | refine below_set ?_ (IsS90.ge HI0.out)) | exact HB.out)) hb); have n3_ := Aside0.mk (hbox); have n4_ := Aside0.mk ((by rw [hg]; exact (keep_size (w := w) (g := g) (row := none) (by repeat (first | (with_reducible first | exact HK.out | apply KeepBut.set_ | apply keep_drewN | apply keep_drew | apply keep_alloc) | exact HK.out))) : w.heap.size ≤ gb451)); have n5_ := Aside0.mk ((Nat.le_trans HW0.out (by rw [hg]; exact (keep_size (w := w) (g := g) (row := none) (by repeat (first | (with_reducible first | exact HK.out | apply KeepBut.set_ | apply keep_drewN | apply keep_drew | apply keep_alloc) | exact HK.out))) : w.heap.size ≤ gb451) : w0.heap.size ≤ gb451)); have n6_ := Aside0.mk ((by rw [hg]; exact Nat.ne_of_lt (IsS90.lt (show IsS90 w0 _ g s0_0 s0_1 s0_2 from by repeat (first | (with_reducible first | exact HI0.out | apply IsS90.alloc | apply IsS90.drewN | apply IsS90.drew | apply IsS90.set_1 | apply IsS90.set_2) | exact HI0.out))) : g ≠ gb451)); have n7_ := Aside0.mk ((by rw [hg]; exact Nat.ne_of_gt (IsS90.lt (show IsS90 w0 _ g s0_0 s0_1 s0_2 from by repeat (first | (with_reducible first | exact HI0.out | apply IsS90.alloc | apply IsS90.drewN | apply IsS90.drew | apply IsS90.set_1 | apply IsS90.set_2) | exact HI0.out))) : gb451 ≠ g)); clear HI0; clear HK; clear HB; have HI0 := n0_; have HK := n1_; have HB := n2_; have BK451 := n3_; have GW451 := n4_; have GE451 := n5_; have NB0_451 := n6_; have NB451_0 := n7_; clear n0_ n1_ n2_ n3_ n4_ n5_ n6_ n7_; clear hb hbox hg) | ((with_reducible refine gate_callee (f := 101) rfl ?_); refine goesL_ (some 5) rfl rfl Tryd.func101 (by kernel_rfl) rfl #[.pointer (some ⟨g, 0, none⟩)] rfl (by (try simp only [List.map_toArray, List.map_cons, List.map_nil]); first | done | rfl | (simp only [List.length_drop, List.length_take]; rfl)) ?_; (with_reducible refine (spec_l7draw.calls k g s0_0 s0_1 s0_2 t452 t453 t454 t455 t456 w0 _ ?side1 ?side2 A2.out).mono ?_); (case side1 => repeat (first | (with_reducible first | exact HI0.out | apply IsS90.alloc | apply IsS90.drewN | apply IsS90.drew | apply IsS90.set_1 | apply IsS90.set_2 | refine IsS90.far ?_ NB0_451.out _) | exact HI0.out)); (case side2 => repeat (first | (with_reducible first | exact HB.out | apply below_alloc | apply pw_below_drewN | apply below_drew1 | refine below_set ?_ (IsS90.ge HI0.out) | refine below_set ?_ GE451.out) | exact HB.out)); rintro e w34 ⟨rfl, hi, hb, hk⟩; refine ⟨_, rfl, ?_⟩; have n0_ := Aside0.mk (KeepBut.blk hk (g' := gb451) (o := .cells #[.int .i64 0, .int .i64 0, .string (⟨#[]⟩ : ByteArray)] 26 (0, 0)) (by (with_reducible repeat (first | refine blk_drewN ?_ _ | refine blk_drew ?_ | refine blk_alloc ?_ _)); exact BK451.out) NB451_0.out (by simp)); have n1_ := Aside0.mk (KeepBut.trans (by repeat (first | (with_reducible first | exact HK.out | apply KeepBut.set_ | apply keep_drewN | apply keep_drew | apply keep_alloc | refine keep_far ?_ GW451.out _) | exact HK.out)) hk (.inl rfl)); have n2_ := Aside0.mk (hb); have n3_ := Aside0.mk (hi); clear BK451; clear HK; clear HB; clear HI0; have BK451 := n0_; have HK := n1_; have HB := n2_; have HI0 := n3_; clear n0_ n1_ n2_ n3_; (try clear hb); (try clear hb2); (try clear hk); (try clear hi)) | ((with_reducible refine gate_dst (N := 3) rfl ?_); refine box_event ?hg (N := 3) ?hd (cs := #[.int .i64 0, .int .i64 0, .string (⟨#[]⟩ : ByteArray)]) (t := 26) ?hr ?_; (case hd => rfl); (case hg => rfl); (case hr => first | (go_simp; done) | (go_simp; rfl)); intro gb457 hg w35 hbox hb; have n0_ := Aside0.mk (IsS90.below (by repeat (first | (with_reducible first | exact HI0.out | apply IsS90.alloc | apply IsS90.drewN | apply IsS90.drew | apply IsS90.set_1 | apply IsS90.set_2 | refine IsS90.far ?_ NB0_451.out _) | exact HI0.out)) hb); have n1_ := Aside0.mk (blk_below (g := gb451) (o := .cells #[.int .i64 0, .int .i64 0, .string (⟨#[]⟩ : ByteArray)] 26 (0, 0)) (by (with_reducible repeat (first | refine blk_drewN ?_ _ | refine blk_drew ?_ | refine blk_alloc ?_ _)); exact BK451.out) hb); have n2_ := Aside0.mk (KeepBut.trans (by repeat (first | (with_reducible first | exact HK.out | apply KeepBut.set_ | apply keep_drewN | apply keep_drew | apply keep_alloc | refine keep_far ?_ GW451.out _) | exact HK.out)) (KeepBut.of_below hb g none) (.inl rfl)); have n3_ := Aside0.mk (below_step (by repeat (first | (with_reducible first | exact HB.out | apply below_alloc | apply pw_below_drewN | apply below_drew1 | refine below_set ?_ (IsS90.ge HI0.out) | refine below_set ?_ GE451.out) | exact HB.out)) hb); have n4_ := Aside0.mk (hbox); have n5_ := Aside0.mk ((by rw [hg]; exact (keep_size (w := w) (g := g) (row := none) (by repeat (first | (with_reducible first | exact HK.out | apply KeepBut.set_ | apply keep_drewN | apply keep_drew | apply keep_alloc | refine keep_far ?_ GW451.out _) | exact HK.out))) : w.heap.size ≤ gb457)); have n6_ := Aside0.mk ((Nat.le_trans HW0.out (by rw [hg]; exact (keep_size (w := w) (g := g) (row := none) (by repeat (first | (with_reducible first | exact HK.out | apply KeepBut.set_ | apply keep_drewN | apply keep_drew | apply keep_alloc | refine keep_far ?_ GW451.out _) | exact HK.out))) : w.heap.size ≤ gb457) : w0.heap.size ≤ gb457)); have n7_ := Aside0.mk ((by rw [hg]; exact Nat.ne_of_lt (blk_lt (g := gb451) (o := .cells #[.int .i64 0, .int .i64 0, .string (⟨#[]⟩ : ByteArray)] 26 (0, 0)) (by (with_reducible repeat (first | refine blk_drewN ?_ _ | refine blk_drew ?_ | refine blk_alloc ?_ _)); exact BK451.out)) : gb451 ≠ gb457)); have n8_ := Aside0.mk ((by rw [hg]; exact Nat.ne_of_gt (blk_lt (g := gb451) (o := .cells #[.int .i64 0, .int .i64 0, .string (⟨#[]⟩ : ByteArray)] 26 (0, 0)) (by (with_reducible repeat (first | refine blk_drewN ?_ _ | refine blk_drew ?_ | refine blk_alloc ?_ _)); exact BK451.out)) : gb457 ≠ gb451)); have n9_ := Aside0.mk ((by rw [hg]; exact Nat.ne_of_lt (IsS90.lt (show IsS90 w0 _ g s0_0 t455 t456 from by repeat (first | (with_reducible first | exact HI0.out | apply IsS90.alloc | apply IsS90.drewN | apply IsS90.drew | apply IsS90.set_1 | apply IsS90.set_2 | refine IsS90.far ?_ NB0_451.out _) | exact HI0.out))) : g ≠ gb457)); have n10_ := Aside0.mk ((by rw [hg]; exact Nat.ne_of_gt (IsS90.lt (show IsS90 w0 _ g s0_0 t455 t456 from by repeat (first | (with_reducible first | exact HI0.out | apply IsS90.alloc | apply IsS90.drewN | apply IsS90.drew | apply IsS90.set_1 | apply IsS90.set_2 | refine IsS90.far ?_ NB0_451.out _) | exact HI0.out))) : gb457 ≠ g)); clear HI0; clear BK451; clear HK; clear HB; have HI0 := n0_; have BK451 := n1_; have HK := n2_; have HB := n3_; have BK457 := n4_; have GW457 := n5_; have GE457 := n6_; have NB451_457 := n7_; have NB457_451 := n8_; have NB0_457 := n9_; have NB457_0 := n10_; clear n0_ n1_ n2_ n3_ n4_ n5_ n6_ n7_ n8_ n9_ n10_; clear hb hbox hg; have hnb36 := NB457_451.out; have hnc36 := NB451_457.out; have hnb37 := NB457_0.out; have hnc37 := NB0_457.out; have hcz38_0 : w35.cell? ⟨gb457, 0, none⟩ = some (.int .i64 0) := (blk_cell BK457.out 0).trans rfl; have hcz38_1 : w35.cell? ⟨gb457, 1, none⟩ = some (.int .i64 0) := (blk_cell BK457.out 1).trans rfl; have hcz38_2 : w35.cell? ⟨gb457, 2, none⟩ = some (.string (⟨#[]⟩ : ByteArray)) := (blk_cell BK457.out 2).trans rfl; have hfz38_0 := blk_frozen BK457.out 0; have hfz38_1 := blk_frozen BK457.out 1; have hfz38_2 := blk_frozen BK457.out 2) | ((with_reducible refine gate_callee (f := 48) rfl ?_); refine goesL_ (some 7) rfl rfl Tryd.func48 (by kernel_rfl) rfl #[.pointer (some ⟨g, 0, none⟩), .int .i64 16] rfl (by (try simp only [List.map_toArray, List.map_cons, List.map_nil]); first | done | rfl | (simp only [List.length_drop, List.length_take]; rfl)) ?_; (with_reducible refine (spec_l1Below.calls g s0_0 t455 t456 16 t458 t459 t460 w0 _ ?side1 ?side2 A3.out).mono ?_); (case side1 => repeat (first | (with_reducible first | exact HI0.out | apply IsS90.alloc | apply IsS90.drewN | apply IsS90.drew | apply IsS90.set_1 | apply IsS90.set_2 | refine IsS90.far ?_ NB0_451.out _ | refine IsS90.far ?_ NB0_457.out _) | exact HI0.out)); (case side2 => repeat (first | (with_reducible first | exact HB.out | apply below_alloc | apply pw_below_drewN | apply below_drew1 | refine below_set ?_ (IsS90.ge HI0.out) | refine below_set ?_ GE451.out | refine below_set ?_ GE457.out) | exact HB.out)); rintro e w39 ⟨rfl, hi, hb, hk⟩; refine ⟨_, rfl, ?_⟩; have n0_ := Aside0.mk (KeepBut.blk hk (g' := gb451) (o := .cells #[.int .i64 0, .int .i64 0, .string (⟨#[]⟩ : ByteArray)] 26 (0, 0)) (by (with_reducible repeat (first | refine blk_drewN ?_ _ | refine blk_drew ?_ | refine blk_alloc ?_ _)); refine blk_far ?_ NB451_457.out _; (with_reducible repeat (first | refine blk_drewN ?_ _ | refine blk_drew ?_ | refine blk_alloc ?_ _)); refine blk_far ?_ NB451_457.out _; (with_reducible repeat (first | refine blk_drewN ?_ _ | refine blk_drew ?_ | refine blk_alloc ?_ _)); refine blk_far ?_ NB451_457.out _; (with_reducible repeat (first | refine blk_drewN ?_ _ | refine blk_drew ?_ | refine blk_alloc ?_ _)); exact BK451.out) NB451_0.out (by simp)); have n1_ := Aside0.mk (KeepBut.blk hk (g' := gb457) (o := .cells #[.int .i64 t452, .int .i64 t453, .string t454] 26 (0, 0)) (by (with_reducible repeat (first | refine blk_drewN ?_ _ | refine blk_drew ?_ | refine blk_alloc ?_ _)); refine blk_put (cs := #[.int .i64 t452, .int .i64 t453, .string (⟨#[]⟩ : ByteArray)]) ?_ 2 _ rfl; (with_reducible repeat (first | refine blk_drewN ?_ _ | refine blk_drew ?_ | refine blk_alloc ?_ _)); refine blk_put (cs := #[.int .i64 t452, .int .i64 0, .string (⟨#[]⟩ : ByteArray)]) ?_ 1 _ rfl; (with_reducible repeat (first | refine blk_drewN ?_ _ | refine blk_drew ?_ | refine blk_alloc ?_ _)); refine blk_put (cs := #[.int .i64 0, .int .i64 0, .string (⟨#[]⟩ : ByteArray)]) ?_ 0 _ rfl; (with_reducible repeat (first | refine blk_drewN ?_ _ | refine blk_drew ?_ | refine blk_alloc ?_ _)); exact BK457.out) NB457_0.out (by simp)); have n2_ := Aside0.mk (KeepBut.trans (by repeat (first | (with_reducible first | exact HK.out | apply KeepBut.set_ | apply keep_drewN | apply keep_drew | apply keep_alloc | refine keep_far ?_ GW451.out _ | refine keep_far ?_ GW457.out _) | exact HK.out)) hk (.inl rfl)); have n3_ := Aside0.mk (hb); have n4_ := Aside0.mk (hi); clear BK451; clear BK457; clear HK; clear HB; clear HI0; have BK451 := n0_; have BK457 := n1_; have HK := n2_; have HB := n3_; have HI0 := n4_; clear n0_ n1_ n2_ n3_ n4_; (try clear hb); (try clear hb2); (try clear hk); (try clear hi)) | ((with_reducible refine gate_callee (f := 48) rfl ?_); refine goesL_ (some 23) rfl rfl Tryd.func48 (by kernel_rfl) rfl #[.pointer (some ⟨g, 0, none⟩), .int .i64 2] rfl (by (try simp only [List.map_toArray, List.map_cons, List.map_nil]); first | done | rfl | (simp only [List.length_drop, List.length_take]; rfl)) ?_; (with_reducible refine (spec_l1Below.calls g s0_0 t459 t460 2 t467 t468 t469 w0 _ ?side1 ?side2 A31.out).mono ?_); (case side1 => repeat (first | (with_reducible first | exact HI0.out | apply IsS90.alloc | apply IsS90.drewN | apply IsS90.drew | apply IsS90.set_1 | apply IsS90.set_2 | refine IsS90.far ?_ NB0_451.out _ | refine IsS90.far ?_ NB0_457.out _) | exact HI0.out)); (case side2 => repeat (first | (with_reducible first | exact HB.out | apply below_alloc | apply pw_below_drewN | apply below_drew1 | refine below_set ?_ (IsS90.ge HI0.out) | refine below_set ?_ GE451.out | refine below_set ?_ GE457.out) | exact HB.out)); rintro e w40 ⟨rfl, hi, hb, hk⟩; refine ⟨_, rfl, ?_⟩; have n0_ := Aside0.mk (KeepBut.blk hk (g' := gb451) (o := .cells #[.int .i64 0, .int .i64 0, .string (⟨#[]⟩ : ByteArray)] 26 (0, 0)) (by (with_reducible repeat (first | refine blk_drewN ?_ _ | refine blk_drew ?_ | refine blk_alloc ?_ _)); exact BK451.out) NB451_0.out (by simp)); have n1_ := Aside0.mk (KeepBut.blk hk (g' := gb457) (o := .cells #[.int .i64 t452, .int .i64 t453, .string t454] 26 (0, 0)) (by (with_reducible repeat (first | refine blk_drewN ?_ _ | refine blk_drew ?_ | refine blk_alloc ?_ _)); exact BK457.out) NB457_0.out (by simp)); have n2_ := Aside0.mk (KeepBut.trans (by repeat (first | (with_reducible first | exact HK.out | apply KeepBut.set_ | apply keep_drewN | apply keep_drew | apply keep_alloc | refine keep_far ?_ GW451.out _ | refine keep_far ?_ GW457.out _) | exact HK.out)) hk (.inl rfl)); have n3_ := Aside0.mk (hb); have n4_ := Aside0.mk (hi); clear BK451; clear BK457; clear HK; clear HB; clear HI0; have BK451 := n0_; have BK457 := n1_; have HK := n2_; have HB := n3_; have HI0 := n4_; clear n0_ n1_ n2_ n3_ n4_; (try clear hb); (try clear hb2); (try clear hk); (try clear hi)) | ((with_reducible refine gate_callee (f := 47) rfl ?_); refine goesL_ (some 25) rfl rfl Tryd.func47 (by kernel_rfl) rfl #[.pointer (some ⟨g, 0, none⟩), .int .i64 (wrap64 (500 + t467)), .string (⟨#[97]⟩ : ByteArray)] rfl (by (try simp only [List.map_toArray, List.map_cons, List.map_nil]); first | done | rfl | (simp only [List.length_drop, List.length_take]; rfl)) ?_; (with_reducible refine (spec_l1of.calls k g s0_0 t468 t469 (wrap64 (500 + t467)) (⟨#[97]⟩ : ByteArray) t470 t471 t472 w0 _ ?side1 ?side2 A32.out).mono ?_); (case side1 => repeat (first | (with_reducible first | exact HI0.out | apply IsS90.alloc | apply IsS90.drewN | apply IsS90.drew | apply IsS90.set_1 | apply IsS90.set_2 | refine IsS90.far ?_ NB0_451.out _ | refine IsS90.far ?_ NB0_457.out _) | exact HI0.out)); (case side2 => repeat (first | (with_reducible first | exact HB.out | apply below_alloc | apply pw_below_drewN | apply below_drew1 | refine below_set ?_ (IsS90.ge HI0.out) | refine below_set ?_ GE451.out | refine below_set ?_ GE457.out) | exact HB.out)); rintro e w41 ⟨rfl, hi, hb, hk⟩; refine ⟨_, rfl, ?_⟩; have n0_ := Aside0.mk (KeepBut.blk hk (g' := gb451) (o := .cells #[.int .i64 0, .int .i64 0, .string (⟨#[]⟩ : ByteArray)] 26 (0, 0)) (by (with_reducible repeat (first | refine blk_drewN ?_ _ | refine blk_drew ?_ | refine blk_alloc ?_ _)); exact BK451.out) NB451_0.out (by simp)); have n1_ := Aside0.mk (KeepBut.blk hk (g' := gb457) (o := .cells #[.int .i64 t452, .int .i64 t453, .string t454] 26 (0, 0)) (by (with_reducible repeat (first | refine blk_drewN ?_ _ | refine blk_drew ?_ | refine blk_alloc ?_ _)); exact BK457.out) NB457_0.out (by simp)); have n2_ := Aside0.mk (KeepBut.trans (by repeat (first | (with_reducible first | exact HK.out | apply KeepBut.set_ | apply keep_drewN | apply keep_drew | apply keep_alloc | refine keep_far ?_ GW451.out _ | refine keep_far ?_ GW457.out _) | exact HK.out)) hk (.inl rfl)); have n3_ := Aside0.mk (hb); have n4_ := Aside0.mk (hi); clear BK451; clear BK457; clear HK; clear HB; clear HI0; have BK451 := n0_; have BK457 := n1_; have HK := n2_; have HB := n3_; have HI0 := n4_; clear n0_ n1_ n2_ n3_ n4_; (try clear hb); (try clear hb2); (try clear hk); (try clear hi); have hcz42_0 : w41.cell? ⟨gb457, 0, none⟩ = some (.int .i64 t452) := (blk_cell BK457.out 0).trans rfl; have hcz42_1 : w41.cell? ⟨gb457, 1, none⟩ = some (.int .i64 t453) := (blk_cell BK457.out 1).trans rfl; have hcz42_2 : w41.cell? ⟨gb457, 2, none⟩ = some (.string t454) := (blk_cell BK457.out 2).trans rfl; have hfz42_0 := blk_frozen BK457.out 0; have hfz42_1 := blk_frozen BK457.out 1; have hfz42_2 := blk_frozen BK457.out 2; have hnb43 := NB451_0.out; have hnc43 := NB0_451.out; have hcz44_0 : w41.cell? ⟨gb451, 0, none⟩ = some (.int .i64 0) := (blk_cell BK451.out 0).trans rfl; have hcz44_1 : w41.cell? ⟨gb451, 1, none⟩ = some (.int .i64 0) := (blk_cell BK451.out 1).trans rfl; have hcz44_2 : w41.cell? ⟨gb451, 2, none⟩ = some (.string (⟨#[]⟩ : ByteArray)) := (blk_cell BK451.out 2).trans rfl; have hfz44_0 := blk_frozen BK451.out 0; have hfz44_1 := blk_frozen BK451.out 1; have hfz44_2 := blk_frozen BK451.out 2))
        refine bodyPost_ret (results_cell_row rfl _ _ gb451 26 #[.int .i64 t452, .int .i64 t453, .string t470] (0, 0) _ rfl (by (with_reducible repeat (first | refine blk_drewN ?_ _ | refine blk_drew ?_ | refine blk_alloc ?_ _)); refine blk_put (cs := #[.int .i64 t452, .int .i64 t453, .string (⟨#[]⟩ : ByteArray)]) ?_ 2 _ rfl; (with_reducible repeat (first | refine blk_drewN ?_ _ | refine blk_drew ?_ | refine blk_alloc ?_ _)); refine blk_put (cs := #[.int .i64 t452, .int .i64 0, .string (⟨#[]⟩ : ByteArray)]) ?_ 1 _ rfl; (with_reducible repeat (first | refine blk_drewN ?_ _ | refine blk_drew ?_ | refine blk_alloc ?_ _)); refine blk_put (cs := #[.int .i64 0, .int .i64 0, .string (⟨#[]⟩ : ByteArray)]) ?_ 0 _ rfl; (with_reducible repeat (first | refine blk_drewN ?_ _ | refine blk_drew ?_ | refine blk_alloc ?_ _)); refine blk_far ?_ NB451_457.out _; (with_reducible repeat (first | refine blk_drewN ?_ _ | refine blk_drew ?_ | refine blk_alloc ?_ _)); exact BK451.out) Tryd.underlying26 rfl (by kernel_rfl)) rfl ?_
        exact ⟨by first | rfl | (simp [errW_none, errW_some] <;> rfl) | (simp [*, errW_none, errW_some] <;> rfl), by repeat (first | (with_reducible first | exact HI0.out | apply IsS90.alloc | apply IsS90.drewN | apply IsS90.drew | apply IsS90.set_1 | apply IsS90.set_2 | refine IsS90.far ?_ NB0_451.out _ | refine IsS90.far ?_ NB0_457.out _) | exact HI0.out), by repeat (first | (with_reducible first | exact HB.out | apply below_alloc | apply pw_below_drewN | apply below_drew1 | refine below_set ?_ (IsS90.ge HI0.out) | refine below_set ?_ GE451.out | refine below_set ?_ GE457.out) | exact HB.out), by repeat (first | (with_reducible first | exact HK.out | apply KeepBut.set_ | apply keep_drewN | apply keep_drew | apply keep_alloc | refine keep_far ?_ GW451.out _ | refine keep_far ?_ GW457.out _) | exact HK.out)⟩
      · rw [if_neg c30] at H
        have c30b0 : (t458 == 2) = false := beq_eq_false_iff_ne.mpr c30
        have c30b1 : (t458 != 2) = true := bne_iff_ne.mpr c30
        simp only [Option.some.injEq, Prod.mk.injEq] at H
        obtain ⟨rfl, rfl, rfl, rfl, rfl⟩ := H
        go_enter Tryd.func63, Tryd.ntmps63
        go_wp2_with (first | ((with_reducible refine gate_dst (N := 2) rfl ?_); refine box_event ?hg (N := 2) ?hd (cs := #[.int .i64 0, .int .i64 0, .string (⟨#[]⟩ : ByteArray)]) (t := 26) ?hr ?_; (case hd => rfl); (case hg => rfl); (case hr => first | (go_simp; done) | (go_simp; rfl)); intro gb451 hg w45 hbox hb; have n0_ := Aside0.mk (IsS90.below (by repeat (first | (with_reducible first | exact HI0.out | apply IsS90.alloc | apply IsS90.drewN | apply IsS90.drew | apply IsS90.set_1 | apply IsS90.set_2) | exact HI0.out)) hb); have n1_ := Aside0.mk (KeepBut.trans (by repeat (first | (with_reducible first | exact HK.out | apply KeepBut.set_ | apply keep_drewN | apply keep_drew | apply keep_alloc) | exact HK.out)) (KeepBut.of_below hb g none) (.inl rfl)); have n2_ := Aside0.mk (below_step (by repeat (first | (with_reducible first | exact HB.out | apply below_alloc | apply pw_below_drewN | apply below_drew1 | refine below_set ?_ (IsS90.ge HI0.out)) | exact HB.out)) hb); have n3_ := Aside0.mk (hbox); have n4_ := Aside0.mk ((by rw [hg]; exact (keep_size (w := w) (g := g) (row := none) (by repeat (first | (with_reducible first | exact HK.out | apply KeepBut.set_ | apply keep_drewN | apply keep_drew | apply keep_alloc) | exact HK.out))) : w.heap.size ≤ gb451)); have n5_ := Aside0.mk ((Nat.le_trans HW0.out (by rw [hg]; exact (keep_size (w := w) (g := g) (row := none) (by repeat (first | (with_reducible first | exact HK.out | apply KeepBut.set_ | apply keep_drewN | apply keep_drew | apply keep_alloc) | exact HK.out))) : w.heap.size ≤ gb451) : w0.heap.size ≤ gb451)); have n6_ := Aside0.mk ((by rw [hg]; exact Nat.ne_of_lt (IsS90.lt (show IsS90 w0 _ g s0_0 s0_1 s0_2 from by repeat (first | (with_reducible first | exact HI0.out | apply IsS90.alloc | apply IsS90.drewN | apply IsS90.drew | apply IsS90.set_1 | apply IsS90.set_2) | exact HI0.out))) : g ≠ gb451)); have n7_ := Aside0.mk ((by rw [hg]; exact Nat.ne_of_gt (IsS90.lt (show IsS90 w0 _ g s0_0 s0_1 s0_2 from by repeat (first | (with_reducible first | exact HI0.out | apply IsS90.alloc | apply IsS90.drewN | apply IsS90.drew | apply IsS90.set_1 | apply IsS90.set_2) | exact HI0.out))) : gb451 ≠ g)); clear HI0; clear HK; clear HB; have HI0 := n0_; have HK := n1_; have HB := n2_; have BK451 := n3_; have GW451 := n4_; have GE451 := n5_; have NB0_451 := n6_; have NB451_0 := n7_; clear n0_ n1_ n2_ n3_ n4_ n5_ n6_ n7_; clear hb hbox hg) | ((with_reducible refine gate_callee (f := 101) rfl ?_); refine goesL_ (some 5) rfl rfl Tryd.func101 (by kernel_rfl) rfl #[.pointer (some ⟨g, 0, none⟩)] rfl (by (try simp only [List.map_toArray, List.map_cons, List.map_nil]); first | done | rfl | (simp only [List.length_drop, List.length_take]; rfl)) ?_; (with_reducible refine (spec_l7draw.calls k g s0_0 s0_1 s0_2 t452 t453 t454 t455 t456 w0 _ ?side1 ?side2 A2.out).mono ?_); (case side1 => repeat (first | (with_reducible first | exact HI0.out | apply IsS90.alloc | apply IsS90.drewN | apply IsS90.drew | apply IsS90.set_1 | apply IsS90.set_2 | refine IsS90.far ?_ NB0_451.out _) | exact HI0.out)); (case side2 => repeat (first | (with_reducible first | exact HB.out | apply below_alloc | apply pw_below_drewN | apply below_drew1 | refine below_set ?_ (IsS90.ge HI0.out) | refine below_set ?_ GE451.out) | exact HB.out)); rintro e w46 ⟨rfl, hi, hb, hk⟩; refine ⟨_, rfl, ?_⟩; have n0_ := Aside0.mk (KeepBut.blk hk (g' := gb451) (o := .cells #[.int .i64 0, .int .i64 0, .string (⟨#[]⟩ : ByteArray)] 26 (0, 0)) (by (with_reducible repeat (first | refine blk_drewN ?_ _ | refine blk_drew ?_ | refine blk_alloc ?_ _)); exact BK451.out) NB451_0.out (by simp)); have n1_ := Aside0.mk (KeepBut.trans (by repeat (first | (with_reducible first | exact HK.out | apply KeepBut.set_ | apply keep_drewN | apply keep_drew | apply keep_alloc | refine keep_far ?_ GW451.out _) | exact HK.out)) hk (.inl rfl)); have n2_ := Aside0.mk (hb); have n3_ := Aside0.mk (hi); clear BK451; clear HK; clear HB; clear HI0; have BK451 := n0_; have HK := n1_; have HB := n2_; have HI0 := n3_; clear n0_ n1_ n2_ n3_; (try clear hb); (try clear hb2); (try clear hk); (try clear hi)) | ((with_reducible refine gate_dst (N := 3) rfl ?_); refine box_event ?hg (N := 3) ?hd (cs := #[.int .i64 0, .int .i64 0, .string (⟨#[]⟩ : ByteArray)]) (t := 26) ?hr ?_; (case hd => rfl); (case hg => rfl); (case hr => first | (go_simp; done) | (go_simp; rfl)); intro gb457 hg w47 hbox hb; have n0_ := Aside0.mk (IsS90.below (by repeat (first | (with_reducible first | exact HI0.out | apply IsS90.alloc | apply IsS90.drewN | apply IsS90.drew | apply IsS90.set_1 | apply IsS90.set_2 | refine IsS90.far ?_ NB0_451.out _) | exact HI0.out)) hb); have n1_ := Aside0.mk (blk_below (g := gb451) (o := .cells #[.int .i64 0, .int .i64 0, .string (⟨#[]⟩ : ByteArray)] 26 (0, 0)) (by (with_reducible repeat (first | refine blk_drewN ?_ _ | refine blk_drew ?_ | refine blk_alloc ?_ _)); exact BK451.out) hb); have n2_ := Aside0.mk (KeepBut.trans (by repeat (first | (with_reducible first | exact HK.out | apply KeepBut.set_ | apply keep_drewN | apply keep_drew | apply keep_alloc | refine keep_far ?_ GW451.out _) | exact HK.out)) (KeepBut.of_below hb g none) (.inl rfl)); have n3_ := Aside0.mk (below_step (by repeat (first | (with_reducible first | exact HB.out | apply below_alloc | apply pw_below_drewN | apply below_drew1 | refine below_set ?_ (IsS90.ge HI0.out) | refine below_set ?_ GE451.out) | exact HB.out)) hb); have n4_ := Aside0.mk (hbox); have n5_ := Aside0.mk ((by rw [hg]; exact (keep_size (w := w) (g := g) (row := none) (by repeat (first | (with_reducible first | exact HK.out | apply KeepBut.set_ | apply keep_drewN | apply keep_drew | apply keep_alloc | refine keep_far ?_ GW451.out _) | exact HK.out))) : w.heap.size ≤ gb457)); have n6_ := Aside0.mk ((Nat.le_trans HW0.out (by rw [hg]; exact (keep_size (w := w) (g := g) (row := none) (by repeat (first | (with_reducible first | exact HK.out | apply KeepBut.set_ | apply keep_drewN | apply keep_drew | apply keep_alloc | refine keep_far ?_ GW451.out _) | exact HK.out))) : w.heap.size ≤ gb457) : w0.heap.size ≤ gb457)); have n7_ := Aside0.mk ((by rw [hg]; exact Nat.ne_of_lt (blk_lt (g := gb451) (o := .cells #[.int .i64 0, .int .i64 0, .string (⟨#[]⟩ : ByteArray)] 26 (0, 0)) (by (with_reducible repeat (first | refine blk_drewN ?_ _ | refine blk_drew ?_ | refine blk_alloc ?_ _)); exact BK451.out)) : gb451 ≠ gb457)); have n8_ := Aside0.mk ((by rw [hg]; exact Nat.ne_of_gt (blk_lt (g := gb451) (o := .cells #[.int .i64 0, .int .i64 0, .string (⟨#[]⟩ : ByteArray)] 26 (0, 0)) (by (with_reducible repeat (first | refine blk_drewN ?_ _ | refine blk_drew ?_ | refine blk_alloc ?_ _)); exact BK451.out)) : gb457 ≠ gb451)); have n9_ := Aside0.mk ((by rw [hg]; exact Nat.ne_of_lt (IsS90.lt (show IsS90 w0 _ g s0_0 t455 t456 from by repeat (first | (with_reducible first | exact HI0.out | apply IsS90.alloc | apply IsS90.drewN | apply IsS90.drew | apply IsS90.set_1 | apply IsS90.set_2 | refine IsS90.far ?_ NB0_451.out _) | exact HI0.out))) : g ≠ gb457)); have n10_ := Aside0.mk ((by rw [hg]; exact Nat.ne_of_gt (IsS90.lt (show IsS90 w0 _ g s0_0 t455 t456 from by repeat (first | (with_reducible first | exact HI0.out | apply IsS90.alloc | apply IsS90.drewN | apply IsS90.drew | apply IsS90.set_1 | apply IsS90.set_2 | refine IsS90.far ?_ NB0_451.out _) | exact HI0.out))) : gb457 ≠ g)); clear HI0; clear BK451; clear HK; clear HB; have HI0 := n0_; have BK451 := n1_; have HK := n2_; have HB := n3_; have BK457 := n4_; have GW457 := n5_; have GE457 := n6_; have NB451_457 := n7_; have NB457_451 := n8_; have NB0_457 := n9_; have NB457_0 := n10_; clear n0_ n1_ n2_ n3_ n4_ n5_ n6_ n7_ n8_ n9_ n10_; clear hb hbox hg; have hnb48 := NB457_451.out; have hnc48 := NB451_457.out; have hnb49 := NB457_0.out; have hnc49 := NB0_457.out; have hcz50_0 : w47.cell? ⟨gb457, 0, none⟩ = some (.int .i64 0) := (blk_cell BK457.out 0).trans rfl; have hcz50_1 : w47.cell? ⟨gb457, 1, none⟩ = some (.int .i64 0) := (blk_cell BK457.out 1).trans rfl; have hcz50_2 : w47.cell? ⟨gb457, 2, none⟩ = some (.string (⟨#[]⟩ : ByteArray)) := (blk_cell BK457.out 2).trans rfl; have hfz50_0 := blk_frozen BK457.out 0; have hfz50_1 := blk_frozen BK457.out 1; have hfz50_2 := blk_frozen BK457.out 2) | ((with_reducible refine gate_callee (f := 48) rfl ?_); refine goesL_ (some 7) rfl rfl Tryd.func48 (by kernel_rfl) rfl #[.pointer (some ⟨g, 0, none⟩), .int .i64 16] rfl (by (try simp only [List.map_toArray, List.map_cons, List.map_nil]); first | done | rfl | (simp only [List.length_drop, List.length_take]; rfl)) ?_; (with_reducible refine (spec_l1Below.calls g s0_0 t455 t456 16 t458 t459 t460 w0 _ ?side1 ?side2 A3.out).mono ?_); (case side1 => repeat (first | (with_reducible first | exact HI0.out | apply IsS90.alloc | apply IsS90.drewN | apply IsS90.drew | apply IsS90.set_1 | apply IsS90.set_2 | refine IsS90.far ?_ NB0_451.out _ | refine IsS90.far ?_ NB0_457.out _) | exact HI0.out)); (case side2 => repeat (first | (with_reducible first | exact HB.out | apply below_alloc | apply pw_below_drewN | apply below_drew1 | refine below_set ?_ (IsS90.ge HI0.out) | refine below_set ?_ GE451.out | refine below_set ?_ GE457.out) | exact HB.out)); rintro e w51 ⟨rfl, hi, hb, hk⟩; refine ⟨_, rfl, ?_⟩; have n0_ := Aside0.mk (KeepBut.blk hk (g' := gb451) (o := .cells #[.int .i64 0, .int .i64 0, .string (⟨#[]⟩ : ByteArray)] 26 (0, 0)) (by (with_reducible repeat (first | refine blk_drewN ?_ _ | refine blk_drew ?_ | refine blk_alloc ?_ _)); refine blk_far ?_ NB451_457.out _; (with_reducible repeat (first | refine blk_drewN ?_ _ | refine blk_drew ?_ | refine blk_alloc ?_ _)); refine blk_far ?_ NB451_457.out _; (with_reducible repeat (first | refine blk_drewN ?_ _ | refine blk_drew ?_ | refine blk_alloc ?_ _)); refine blk_far ?_ NB451_457.out _; (with_reducible repeat (first | refine blk_drewN ?_ _ | refine blk_drew ?_ | refine blk_alloc ?_ _)); exact BK451.out) NB451_0.out (by simp)); have n1_ := Aside0.mk (KeepBut.blk hk (g' := gb457) (o := .cells #[.int .i64 t452, .int .i64 t453, .string t454] 26 (0, 0)) (by (with_reducible repeat (first | refine blk_drewN ?_ _ | refine blk_drew ?_ | refine blk_alloc ?_ _)); refine blk_put (cs := #[.int .i64 t452, .int .i64 t453, .string (⟨#[]⟩ : ByteArray)]) ?_ 2 _ rfl; (with_reducible repeat (first | refine blk_drewN ?_ _ | refine blk_drew ?_ | refine blk_alloc ?_ _)); refine blk_put (cs := #[.int .i64 t452, .int .i64 0, .string (⟨#[]⟩ : ByteArray)]) ?_ 1 _ rfl; (with_reducible repeat (first | refine blk_drewN ?_ _ | refine blk_drew ?_ | refine blk_alloc ?_ _)); refine blk_put (cs := #[.int .i64 0, .int .i64 0, .string (⟨#[]⟩ : ByteArray)]) ?_ 0 _ rfl; (with_reducible repeat (first | refine blk_drewN ?_ _ | refine blk_drew ?_ | refine blk_alloc ?_ _)); exact BK457.out) NB457_0.out (by simp)); have n2_ := Aside0.mk (KeepBut.trans (by repeat (first | (with_reducible first | exact HK.out | apply KeepBut.set_ | apply keep_drewN | apply keep_drew | apply keep_alloc | refine keep_far ?_ GW451.out _ | refine keep_far ?_ GW457.out _) | exact HK.out)) hk (.inl rfl)); have n3_ := Aside0.mk (hb); have n4_ := Aside0.mk (hi); clear BK451; clear BK457; clear HK; clear HB; clear HI0; have BK451 := n0_; have BK457 := n1_; have HK := n2_; have HB := n3_; have HI0 := n4_; clear n0_ n1_ n2_ n3_ n4_; (try clear hb); (try clear hb2); (try clear hk); (try clear hi); have hcz52_0 : w51.cell? ⟨gb457, 0, none⟩ = some (.int .i64 t452) := (blk_cell BK457.out 0).trans rfl; have hcz52_1 : w51.cell? ⟨gb457, 1, none⟩ = some (.int .i64 t453) := (blk_cell BK457.out 1).trans rfl; have hcz52_2 : w51.cell? ⟨gb457, 2, none⟩ = some (.string t454) := (blk_cell BK457.out 2).trans rfl; have hfz52_0 := blk_frozen BK457.out 0; have hfz52_1 := blk_frozen BK457.out 1; have hfz52_2 := blk_frozen BK457.out 2; have hnb53 := NB451_0.out; have hnc53 := NB0_451.out; have hcz54_0 : w51.cell? ⟨gb451, 0, none⟩ = some (.int .i64 0) := (blk_cell BK451.out 0).trans rfl; have hcz54_1 : w51.cell? ⟨gb451, 1, none⟩ = some (.int .i64 0) := (blk_cell BK451.out 1).trans rfl; have hcz54_2 : w51.cell? ⟨gb451, 2, none⟩ = some (.string (⟨#[]⟩ : ByteArray)) := (blk_cell BK451.out 2).trans rfl; have hfz54_0 := blk_frozen BK451.out 0; have hfz54_1 := blk_frozen BK451.out 1; have hfz54_2 := blk_frozen BK451.out 2))
        refine bodyPost_ret (results_cell_row rfl _ _ gb451 26 #[.int .i64 t452, .int .i64 t453, .string t454] (0, 0) _ rfl (by (with_reducible repeat (first | refine blk_drewN ?_ _ | refine blk_drew ?_ | refine blk_alloc ?_ _)); refine blk_put (cs := #[.int .i64 t452, .int .i64 t453, .string (⟨#[]⟩ : ByteArray)]) ?_ 2 _ rfl; (with_reducible repeat (first | refine blk_drewN ?_ _ | refine blk_drew ?_ | refine blk_alloc ?_ _)); refine blk_put (cs := #[.int .i64 t452, .int .i64 0, .string (⟨#[]⟩ : ByteArray)]) ?_ 1 _ rfl; (with_reducible repeat (first | refine blk_drewN ?_ _ | refine blk_drew ?_ | refine blk_alloc ?_ _)); refine blk_put (cs := #[.int .i64 0, .int .i64 0, .string (⟨#[]⟩ : ByteArray)]) ?_ 0 _ rfl; (with_reducible repeat (first | refine blk_drewN ?_ _ | refine blk_drew ?_ | refine blk_alloc ?_ _)); exact BK451.out) Tryd.underlying26 rfl (by kernel_rfl)) rfl ?_
        exact ⟨by first | rfl | (simp [errW_none, errW_some] <;> rfl) | (simp [*, errW_none, errW_some] <;> rfl), by repeat (first | (with_reducible first | exact HI0.out | apply IsS90.alloc | apply IsS90.drewN | apply IsS90.drew | apply IsS90.set_1 | apply IsS90.set_2 | refine IsS90.far ?_ NB0_451.out _ | refine IsS90.far ?_ NB0_457.out _) | exact HI0.out), by repeat (first | (with_reducible first | exact HB.out | apply below_alloc | apply pw_below_drewN | apply below_drew1 | refine below_set ?_ (IsS90.ge HI0.out) | refine below_set ?_ GE451.out | refine below_set ?_ GE457.out) | exact HB.out), by repeat (first | (with_reducible first | exact HK.out | apply KeepBut.set_ | apply keep_drewN | apply keep_drew | apply keep_alloc | refine keep_far ?_ GW451.out _ | refine keep_far ?_ GW457.out _) | exact HK.out)⟩
def spec_DrawCompare.f (k : Nat) (l0 : List Int) : Option (Int × Int × ByteArray × Int × Int × ByteArray) := (spec_l1New.f k l0).bind fun bt475 => ((spec_l7bent.f k bt475.1 bt475.2.1 bt475.2.2).bind fun bt479 => ((spec_l7bent.f k bt475.1 bt479.2.2.2.1 bt479.2.2.2.2).bind fun bt485 => (some (bt479.1, bt479.2.1, bt479.2.2.1, bt485.1, bt485.2.1, bt485.2.2.1))))
set_option maxHeartbeats 8000000 in
set_option maxRecDepth 100000 in
theorem spec_DrawCompare.calls (k : Nat) (A0 : Option Addr) (c0 : Nat) (l0 : List Int) (r1 : Int) (r2 : Int) (r3 : ByteArray) (r4 : Int) (r5 : Int) (r6 : ByteArray) (w : World) (hr0 : Kd.C (Kd.int .u8) w A0 l0.length l0) (hc0 : l0.length ≤ c0) (h : spec_DrawCompare.f k l0 = some (r1, r2, r3, r4, r5, r6)) :
    Calls Tryd.prog 25 #[.slice A0 l0.length c0] w fun e w' => e = .returned (.tuple #[.agg #[.int .i64 r1, .int .i64 r2, .string r3], .agg #[.int .i64 r4, .int .i64 r5, .string r6]]) ∧ Below w.heap.size w w' := by
  have hu26 := Tryd.underlying26
  have HR0 := Aside0.mk hr0
  have HC0 := Aside0.mk hc0
  clear hr0 hc0
  have HB := Aside0.mk (Below.refl w.heap.size w)
  have H : ((spec_l1New.f k l0).bind fun bt475 => ((spec_l7bent.f k bt475.1 bt475.2.1 bt475.2.2).bind fun bt479 => ((spec_l7bent.f k bt475.1 bt479.2.2.2.1 bt479.2.2.2.2).bind fun bt485 => (some (bt479.1, bt479.2.1, bt479.2.2.1, bt485.1, bt485.2.1, bt485.2.2.1))))) = some (r1, r2, r3, r4, r5, r6) := h
  clear h
  replace H := Option.bind_eq_some_iff.mp H
  obtain ⟨⟨t475, t476, t477⟩, A20, H⟩ := H
  replace H : ((spec_l7bent.f k t475 t476 t477).bind fun bt479 => ((spec_l7bent.f k t475 bt479.2.2.2.1 bt479.2.2.2.2).bind fun bt485 => (some (bt479.1, bt479.2.1, bt479.2.2.1, bt485.1, bt485.2.1, bt485.2.2.1)))) = some (r1, r2, r3, r4, r5, r6) := H
  have A2 := Aside0.mk A20
  clear A20
  replace H := Option.bind_eq_some_iff.mp H
  obtain ⟨⟨t479, t480, t481, t482, t483⟩, A30, H⟩ := H
  replace H : ((spec_l7bent.f k t475 t482 t483).bind fun bt485 => (some (t479, t480, t481, bt485.1, bt485.2.1, bt485.2.2.1))) = some (r1, r2, r3, r4, r5, r6) := H
  have A3 := Aside0.mk A30
  clear A30
  replace H := Option.bind_eq_some_iff.mp H
  obtain ⟨⟨t485, t486, t487, t488, t489⟩, A40, H⟩ := H
  replace H : (some (t479, t480, t481, t485, t486, t487)) = some (r1, r2, r3, r4, r5, r6) := H
  have A4 := Aside0.mk A40
  clear A40
  simp only [Option.some.injEq, Prod.mk.injEq] at H
  obtain ⟨rfl, rfl, rfl, rfl, rfl, rfl⟩ := H
  go_enter Tryd.func25, Tryd.ntmps25
  try go_wp2_with (first | ((with_reducible refine gate_dst (N := 2) rfl ?_); refine box_event ?hg (N := 2) ?hd (cs := #[.int .i64 0, .int .i64 0, .string (⟨#[]⟩ : ByteArray)]) (t := 26) ?hr ?_; (case hd => rfl); (case hg => rfl); (case hr => first | (go_simp; done) | (go_simp; rfl)); intro gb473 hg w5 hbox hb; have n0_ := Aside0.mk (below_step (by repeat (first | (with_reducible first | exact HB.out | apply below_alloc | apply pw_below_drewN | apply below_drew1) | exact HB.out)) hb); have n1_ := Aside0.mk (hbox); have n2_ := Aside0.mk ((by rw [hg]; exact (below_size (by repeat (first | (with_reducible first | exact HB.out | apply below_alloc | apply pw_below_drewN | apply below_drew1) | exact HB.out))) : w.heap.size ≤ gb473)); have n3_ := Aside0.mk ((by rw [hg]; exact (below_size (by repeat (first | (with_reducible first | exact HB.out | apply below_alloc | apply pw_below_drewN | apply below_drew1) | exact HB.out))) : w.heap.size ≤ gb473)); clear HB; have HB := n0_; have BK473 := n1_; have GW473 := n2_; have GE473 := n3_; clear n0_ n1_ n2_ n3_; clear hb hbox hg) | ((with_reducible refine gate_dst (N := 3) rfl ?_); refine box_event ?hg (N := 3) ?hd (cs := #[.int .i64 0, .int .i64 0, .string (⟨#[]⟩ : ByteArray)]) (t := 26) ?hr ?_; (case hd => rfl); (case hg => rfl); (case hr => first | (go_simp; done) | (go_simp; rfl)); intro gb474 hg w6 hbox hb; have n0_ := Aside0.mk (blk_below (g := gb473) (o := .cells #[.int .i64 0, .int .i64 0, .string (⟨#[]⟩ : ByteArray)] 26 (0, 0)) (by (with_reducible repeat (first | refine blk_drewN ?_ _ | refine blk_drew ?_ | refine blk_alloc ?_ _)); exact BK473.out) hb); have n1_ := Aside0.mk (below_step (by repeat (first | (with_reducible first | exact HB.out | apply below_alloc | apply pw_below_drewN | apply below_drew1 | refine below_set ?_ GE473.out) | exact HB.out)) hb); have n2_ := Aside0.mk (hbox); have n3_ := Aside0.mk ((by rw [hg]; exact (below_size (by repeat (first | (with_reducible first | exact HB.out | apply below_alloc | apply pw_below_drewN | apply below_drew1 | refine below_set ?_ GE473.out) | exact HB.out))) : w.heap.size ≤ gb474)); have n4_ := Aside0.mk ((by rw [hg]; exact (below_size (by repeat (first | (with_reducible first | exact HB.out | apply below_alloc | apply pw_below_drewN | apply below_drew1 | refine below_set ?_ GE473.out) | exact HB.out))) : w.heap.size ≤ gb474)); have n5_ := Aside0.mk ((by rw [hg]; exact Nat.ne_of_lt (blk_lt (g := gb473) (o := .cells #[.int .i64 0, .int .i64 0, .string (⟨#[]⟩ : ByteArray)] 26 (0, 0)) (by (with_reducible repeat (first | refine blk_drewN ?_ _ | refine blk_drew ?_ | refine blk_alloc ?_ _)); exact BK473.out)) : gb473 ≠ gb474)); have n6_ := Aside0.mk ((by rw [hg]; exact Nat.ne_of_gt (blk_lt (g := gb473) (o := .cells #[.int .i64 0, .int .i64 0, .string (⟨#[]⟩ : ByteArray)] 26 (0, 0)) (by (with_reducible repeat (first | refine blk_drewN ?_ _ | refine blk_drew ?_ | refine blk_alloc ?_ _)); exact BK473.out)) : gb474 ≠ gb473)); clear BK473; clear HB; have BK473 := n0_; have HB := n1_; have BK474 := n2_; have GW474 := n3_; have GE474 := n4_; have NB473_474 := n5_; have NB474_473 := n6_; clear n0_ n1_ n2_ n3_ n4_ n5_ n6_; clear hb hbox hg) | ((with_reducible refine gate_callee (f := 45) rfl ?_); refine goesL_ (some 7) rfl rfl Tryd.func45 (by kernel_rfl) rfl #[.slice A0 l0.length c0] rfl (by (try simp only [List.map_toArray, List.map_cons, List.map_nil]); first | done | rfl | (simp only [List.length_drop, List.length_take]; rfl)) ?_; (with_reducible refine (spec_l1New.calls k _ _ l0 t475 t476 t477 w _ ?side1 ?side2 ?side3 A2.out).mono ?_); (case side1 => repeat (first | (with_reducible first | exact HB.out | apply below_alloc | apply pw_below_drewN | apply below_drew1 | refine below_set ?_ GE473.out | refine below_set ?_ GE474.out) | exact HB.out)); (case side2 => exact HR0.out); (case side3 => exact HC0.out); rintro e w7 ⟨g478, rfl, hi, hb, hb2⟩; refine ⟨_, rfl, ?_⟩; have n0_ := Aside0.mk (blk_below (g := gb473) (o := .cells #[.int .i64 0, .int .i64 0, .string (⟨#[]⟩ : ByteArray)] 26 (0, 0)) (by (with_reducible repeat (first | refine blk_drewN ?_ _ | refine blk_drew ?_ | refine blk_alloc ?_ _)); exact BK473.out) hb2); have n1_ := Aside0.mk (blk_below (g := gb474) (o := .cells #[.int .i64 0, .int .i64 0, .string (⟨#[]⟩ : ByteArray)] 26 (0, 0)) (by (with_reducible repeat (first | refine blk_drewN ?_ _ | refine blk_drew ?_ | refine blk_alloc ?_ _)); exact BK474.out) hb2); have n2_ := Aside0.mk (hb); have n3_ := Aside0.mk (hi); have n4_ := Aside0.mk (IsS90.ne_blk hi (blk_below (g := gb473) (o := .cells #[.int .i64 0, .int .i64 0, .string (⟨#[]⟩ : ByteArray)] 26 (0, 0)) (by (with_reducible repeat (first | refine blk_drewN ?_ _ | refine blk_drew ?_ | refine blk_alloc ?_ _)); exact BK473.out) hb2) (by decide)); have n5_ := Aside0.mk (Ne.symm (IsS90.ne_blk hi (blk_below (g := gb473) (o := .cells #[.int .i64 0, .int .i64 0, .string (⟨#[]⟩ : ByteArray)] 26 (0, 0)) (by (with_reducible repeat (first | refine blk_drewN ?_ _ | refine blk_drew ?_ | refine blk_alloc ?_ _)); exact BK473.out) hb2) (by decide))); have n6_ := Aside0.mk (IsS90.ne_blk hi (blk_below (g := gb474) (o := .cells #[.int .i64 0, .int .i64 0, .string (⟨#[]⟩ : ByteArray)] 26 (0, 0)) (by (with_reducible repeat (first | refine blk_drewN ?_ _ | refine blk_drew ?_ | refine blk_alloc ?_ _)); exact BK474.out) hb2) (by decide)); have n7_ := Aside0.mk (Ne.symm (IsS90.ne_blk hi (blk_below (g := gb474) (o := .cells #[.int .i64 0, .int .i64 0, .string (⟨#[]⟩ : ByteArray)] 26 (0, 0)) (by (with_reducible repeat (first | refine blk_drewN ?_ _ | refine blk_drew ?_ | refine blk_alloc ?_ _)); exact BK474.out) hb2) (by decide))); clear BK473; clear BK474; clear HB; have BK473 := n0_; have BK474 := n1_; have HB := n2_; have HI478 := n3_; have NB478_473 := n4_; have NB473_478 := n5_; have NB478_474 := n6_; have NB474_478 := n7_; clear n0_ n1_ n2_ n3_ n4_ n5_ n6_ n7_; (try clear hb); (try clear hb2); (try clear hk); (try clear hi)) | ((with_reducible refine gate_callee (f := 63) rfl ?_); refine goesL_ (some 9) rfl rfl Tryd.func63 (by kernel_rfl) rfl #[.pointer (some ⟨g478, 0, none⟩)] rfl (by (try simp only [List.map_toArray, List.map_cons, List.map_nil]); first | done | rfl | (simp only [List.length_drop, List.length_take]; rfl)) ?_; (with_reducible refine (spec_l7bent.calls k g478 t475 t476 t477 t479 t480 t481 t482 t483 w _ ?side1 ?side2 A3.out).mono ?_); (case side1 => repeat (first | (with_reducible first | exact HI478.out | apply IsS90.alloc | apply IsS90.drewN | apply IsS90.drew | apply IsS90.set_1 | apply IsS90.set_2 | refine IsS90.far ?_ NB478_473.out _ | refine IsS90.far ?_ NB478_474.out _) | exact HI478.out)); (case side2 => repeat (first | (with_reducible first | exact HB.out | apply below_alloc | apply pw_below_drewN | apply below_drew1 | refine below_set ?_ (IsS90.ge HI478.out) | refine below_set ?_ GE473.out | refine below_set ?_ GE474.out) | exact HB.out)); rintro e w8 ⟨rfl, hi, hb, hk⟩; refine ⟨_, rfl, ?_⟩; have n0_ := Aside0.mk (KeepBut.blk hk (g' := gb473) (o := .cells #[.int .i64 0, .int .i64 0, .string (⟨#[]⟩ : ByteArray)] 26 (0, 0)) (by (with_reducible repeat (first | refine blk_drewN ?_ _ | refine blk_drew ?_ | refine blk_alloc ?_ _)); exact BK473.out) NB473_478.out (by simp)); have n1_ := Aside0.mk (KeepBut.blk hk (g' := gb474) (o := .cells #[.int .i64 0, .int .i64 0, .string (⟨#[]⟩ : ByteArray)] 26 (0, 0)) (by (with_reducible repeat (first | refine blk_drewN ?_ _ | refine blk_drew ?_ | refine blk_alloc ?_ _)); exact BK474.out) NB474_478.out (by simp)); have n2_ := Aside0.mk (hb); have n3_ := Aside0.mk (hi); clear BK473; clear BK474; clear HB; clear HI478; have BK473 := n0_; have BK474 := n1_; have HB := n2_; have HI478 := n3_; clear n0_ n1_ n2_ n3_; (try clear hb); (try clear hb2); (try clear hk); (try clear hi)) | ((with_reducible refine gate_dst (N := 5) rfl ?_); refine box_event ?hg (N := 5) ?hd (cs := #[.int .i64 0, .int .i64 0, .string (⟨#[]⟩ : ByteArray)]) (t := 26) ?hr ?_; (case hd => rfl); (case hg => rfl); (case hr => first | (go_simp; done) | (go_simp; rfl)); intro gb484 hg w9 hbox hb; have n0_ := Aside0.mk (blk_below (g := gb473) (o := .cells #[.int .i64 0, .int .i64 0, .string (⟨#[]⟩ : ByteArray)] 26 (0, 0)) (by (with_reducible repeat (first | refine blk_drewN ?_ _ | refine blk_drew ?_ | refine blk_alloc ?_ _)); exact BK473.out) hb); have n1_ := Aside0.mk (blk_below (g := gb474) (o := .cells #[.int .i64 0, .int .i64 0, .string (⟨#[]⟩ : ByteArray)] 26 (0, 0)) (by (with_reducible repeat (first | refine blk_drewN ?_ _ | refine blk_drew ?_ | refine blk_alloc ?_ _)); exact BK474.out) hb); have n2_ := Aside0.mk (IsS90.below (by repeat (first | (with_reducible first | exact HI478.out | apply IsS90.alloc | apply IsS90.drewN | apply IsS90.drew | apply IsS90.set_1 | apply IsS90.set_2 | refine IsS90.far ?_ NB478_473.out _ | refine IsS90.far ?_ NB478_474.out _) | exact HI478.out)) hb); have n3_ := Aside0.mk (below_step (by repeat (first | (with_reducible first | exact HB.out | apply below_alloc | apply pw_below_drewN | apply below_drew1 | refine below_set ?_ (IsS90.ge HI478.out) | refine below_set ?_ GE473.out | refine below_set ?_ GE474.out) | exact HB.out)) hb); have n4_ := Aside0.mk (hbox); have n5_ := Aside0.mk ((by rw [hg]; exact (below_size (by repeat (first | (with_reducible first | exact HB.out | apply below_alloc | apply pw_below_drewN | apply below_drew1 | refine below_set ?_ (IsS90.ge HI478.out) | refine below_set ?_ GE473.out | refine below_set ?_ GE474.out) | exact HB.out))) : w.heap.size ≤ gb484)); have n6_ := Aside0.mk ((by rw [hg]; exact (below_size (by repeat (first | (with_reducible first | exact HB.out | apply below_alloc | apply pw_below_drewN | apply below_drew1 | refine below_set ?_ (IsS90.ge HI478.out) | refine below_set ?_ GE473.out | refine below_set ?_ GE474.out) | exact HB.out))) : w.heap.size ≤ gb484)); have n7_ := Aside0.mk ((by rw [hg]; exact Nat.ne_of_lt (blk_lt (g := gb473) (o := .cells #[.int .i64 0, .int .i64 0, .string (⟨#[]⟩ : ByteArray)] 26 (0, 0)) (by (with_reducible repeat (first | refine blk_drewN ?_ _ | refine blk_drew ?_ | refine blk_alloc ?_ _)); exact BK473.out)) : gb473 ≠ gb484)); have n8_ := Aside0.mk ((by rw [hg]; exact Nat.ne_of_gt (blk_lt (g := gb473) (o := .cells #[.int .i64 0, .int .i64 0, .string (⟨#[]⟩ : ByteArray)] 26 (0, 0)) (by (with_reducible repeat (first | refine blk_drewN ?_ _ | refine blk_drew ?_ | refine blk_alloc ?_ _)); exact BK473.out)) : gb484 ≠ gb473)); have n9_ := Aside0.mk ((by rw [hg]; exact Nat.ne_of_lt (blk_lt (g := gb474) (o := .cells #[.int .i64 0, .int .i64 0, .string (⟨#[]⟩ : ByteArray)] 26 (0, 0)) (by (with_reducible repeat (first | refine blk_drewN ?_ _ | refine blk_drew ?_ | refine blk_alloc ?_ _)); exact BK474.out)) : gb474 ≠ gb484)); have n10_ := Aside0.mk ((by rw [hg]; exact Nat.ne_of_gt (blk_lt (g := gb474) (o := .cells #[.int .i64 0, .int .i64 0, .string (⟨#[]⟩ : ByteArray)] 26 (0, 0)) (by (with_reducible repeat (first | refine blk_drewN ?_ _ | refine blk_drew ?_ | refine blk_alloc ?_ _)); exact BK474.out)) : gb484 ≠ gb474)); have n11_ := Aside0.mk ((by rw [hg]; exact Nat.ne_of_lt (IsS90.lt (show IsS90 w _ g478 t475 t482 t483 from by repeat (first | (with_reducible first | exact HI478.out | apply IsS90.alloc | apply IsS90.drewN | apply IsS90.drew | apply IsS90.set_1 | apply IsS90.set_2 | refine IsS90.far ?_ NB478_473.out _ | refine IsS90.far ?_ NB478_474.out _) | exact HI478.out))) : g478 ≠ gb484)); have n12_ := Aside0.mk ((by rw [hg]; exact Nat.ne_of_gt (IsS90.lt (show IsS90 w _ g478 t475 t482 t483 from by repeat (first | (with_reducible first | exact HI478.out | apply IsS90.alloc | apply IsS90.drewN | apply IsS90.drew | apply IsS90.set_1 | apply IsS90.set_2 | refine IsS90.far ?_ NB478_473.out _ | refine IsS90.far ?_ NB478_474.out _) | exact HI478.out))) : gb484 ≠ g478)); clear BK473; clear BK474; clear HI478; clear HB; have BK473 := n0_; have BK474 := n1_; have HI478 := n2_; have HB := n3_; have BK484 := n4_; have GW484 := n5_; have GE484 := n6_; have NB473_484 := n7_; have NB484_473 := n8_; have NB474_484 := n9_; have NB484_474 := n10_; have NB478_484 := n11_; have NB484_478 := n12_; clear n0_ n1_ n2_ n3_ n4_ n5_ n6_ n7_ n8_ n9_ n10_ n11_ n12_; clear hb hbox hg; have hnb10 := NB484_473.out; have hnc10 := NB473_484.out; have hnb11 := NB484_474.out; have hnc11 := NB474_484.out; have hnb12 := NB484_478.out; have hnc12 := NB478_484.out; have hcz13_0 : w9.cell? ⟨gb484, 0, none⟩ = some (.int .i64 0) := (blk_cell BK484.out 0).trans rfl; have hcz13_1 : w9.cell? ⟨gb484, 1, none⟩ = some (.int .i64 0) := (blk_cell BK484.out 1).trans rfl; have hcz13_2 : w9.cell? ⟨gb484, 2, none⟩ = some (.string (⟨#[]⟩ : ByteArray)) := (blk_cell BK484.out 2).trans rfl; have hfz13_0 := blk_frozen BK484.out 0; have hfz13_1 := blk_frozen BK484.out 1; have hfz13_2 := blk_frozen BK484.out 2))
  have n0_ : Aside0 ((((w9.setCell ⟨gb484, 0, none⟩ (.int .i64 t479)).setCell ⟨gb484, 1, none⟩ (.int .i64 t480)).setCell ⟨gb484, 2, none⟩ (.string t481)).heap[gb473]? = some (.cells #[.int .i64 0, .int .i64 0, .string (⟨#[]⟩ : ByteArray)] 26 (0, 0))) := ⟨by (with_reducible repeat (first | refine blk_drewN ?_ _ | refine blk_drew ?_ | refine blk_alloc ?_ _)); refine blk_far ?_ NB473_484.out _; (with_reducible repeat (first | refine blk_drewN ?_ _ | refine blk_drew ?_ | refine blk_alloc ?_ _)); refine blk_far ?_ NB473_484.out _; (with_reducible repeat (first | refine blk_drewN ?_ _ | refine blk_drew ?_ | refine blk_alloc ?_ _)); refine blk_far ?_ NB473_484.out _; (with_reducible repeat (first | refine blk_drewN ?_ _ | refine blk_drew ?_ | refine blk_alloc ?_ _)); exact BK473.out⟩
  have n1_ : Aside0 ((((w9.setCell ⟨gb484, 0, none⟩ (.int .i64 t479)).setCell ⟨gb484, 1, none⟩ (.int .i64 t480)).setCell ⟨gb484, 2, none⟩ (.string t481)).heap[gb474]? = some (.cells #[.int .i64 0, .int .i64 0, .string (⟨#[]⟩ : ByteArray)] 26 (0, 0))) := ⟨by (with_reducible repeat (first | refine blk_drewN ?_ _ | refine blk_drew ?_ | refine blk_alloc ?_ _)); refine blk_far ?_ NB474_484.out _; (with_reducible repeat (first | refine blk_drewN ?_ _ | refine blk_drew ?_ | refine blk_alloc ?_ _)); refine blk_far ?_ NB474_484.out _; (with_reducible repeat (first | refine blk_drewN ?_ _ | refine blk_drew ?_ | refine blk_alloc ?_ _)); refine blk_far ?_ NB474_484.out _; (with_reducible repeat (first | refine blk_drewN ?_ _ | refine blk_drew ?_ | refine blk_alloc ?_ _)); exact BK474.out⟩
  have n2_ : Aside0 ((((w9.setCell ⟨gb484, 0, none⟩ (.int .i64 t479)).setCell ⟨gb484, 1, none⟩ (.int .i64 t480)).setCell ⟨gb484, 2, none⟩ (.string t481)).heap[gb484]? = some (.cells #[.int .i64 t479, .int .i64 t480, .string t481] 26 (0, 0))) := ⟨by (with_reducible repeat (first | refine blk_drewN ?_ _ | refine blk_drew ?_ | refine blk_alloc ?_ _)); refine blk_put (cs := #[.int .i64 t479, .int .i64 t480, .string (⟨#[]⟩ : ByteArray)]) ?_ 2 _ rfl; (with_reducible repeat (first | refine blk_drewN ?_ _ | refine blk_drew ?_ | refine blk_alloc ?_ _)); refine blk_put (cs := #[.int .i64 t479, .int .i64 0, .string (⟨#[]⟩ : ByteArray)]) ?_ 1 _ rfl; (with_reducible repeat (first | refine blk_drewN ?_ _ | refine blk_drew ?_ | refine blk_alloc ?_ _)); refine blk_put (cs := #[.int .i64 0, .int .i64 0, .string (⟨#[]⟩ : ByteArray)]) ?_ 0 _ rfl; (with_reducible repeat (first | refine blk_drewN ?_ _ | refine blk_drew ?_ | refine blk_alloc ?_ _)); exact BK484.out⟩
  have n3_ : Aside0 (IsS90 w (((w9.setCell ⟨gb484, 0, none⟩ (.int .i64 t479)).setCell ⟨gb484, 1, none⟩ (.int .i64 t480)).setCell ⟨gb484, 2, none⟩ (.string t481)) g478 t475 t482 t483) := ⟨by repeat (first | (with_reducible first | exact HI478.out | apply IsS90.alloc | apply IsS90.drewN | apply IsS90.drew | apply IsS90.set_1 | apply IsS90.set_2 | refine IsS90.far ?_ NB478_473.out _ | refine IsS90.far ?_ NB478_474.out _ | refine IsS90.far ?_ NB478_484.out _) | exact HI478.out)⟩
  have n4_ : Aside0 (Below w.heap.size w (((w9.setCell ⟨gb484, 0, none⟩ (.int .i64 t479)).setCell ⟨gb484, 1, none⟩ (.int .i64 t480)).setCell ⟨gb484, 2, none⟩ (.string t481))) := ⟨by repeat (first | (with_reducible first | exact HB.out | apply below_alloc | apply pw_below_drewN | apply below_drew1 | refine below_set ?_ (IsS90.ge HI478.out) | refine below_set ?_ GE473.out | refine below_set ?_ GE474.out | refine below_set ?_ GE484.out) | exact HB.out)⟩
  (try clear BK473)
  (try clear BK474)
  (try clear BK484)
  (try clear HI478)
  (try clear HB)
  generalize (((w9.setCell ⟨gb484, 0, none⟩ (.int .i64 t479)).setCell ⟨gb484, 1, none⟩ (.int .i64 t480)).setCell ⟨gb484, 2, none⟩ (.string t481)) = w14 at n0_ n1_ n2_ n3_ n4_ ⊢
  have BK473 := n0_
  have BK474 := n1_
  have BK484 := n2_
  have HI478 := n3_
  have HB := n4_
  clear n0_ n1_ n2_ n3_ n4_
  have n0_ := Aside0.mk (blk_drew BK473.out)
  have n1_ := Aside0.mk (blk_drew BK474.out)
  have n2_ := Aside0.mk (blk_drew BK484.out)
  have n3_ := Aside0.mk (IsS90.drew HI478.out)
  have n4_ := Aside0.mk (below_drew1 HB.out)
  clear BK473
  clear BK474
  clear BK484
  clear HI478
  clear HB
  have BK473 := n0_
  have BK474 := n1_
  have BK484 := n2_
  have HI478 := n3_
  have HB := n4_
  clear n0_ n1_ n2_ n3_ n4_
  refine start_ (n := 5) (S := fun w' => w'.cell? ⟨gb484, 0, none⟩ = some (.int .i64 t479) ∧ w'.cell? ⟨gb484, 1, none⟩ = some (.int .i64 t480) ∧ w'.cell? ⟨gb484, 2, none⟩ = some (.string t481)) (ds := []) #[false, false, false, false, false] (by kernel_rfl) rfl rfl ⟨(blk_cell BK484.out 0).trans rfl, (blk_cell BK484.out 1).trans rfl, (blk_cell BK484.out 2).trans rfl⟩ (fun hHeld => ?_)
  generalize w14.drew = w15 at BK473 BK474 BK484 HI478 HB hHeld ⊢
  refine pure_ (i := 1) (N := some 11) (v := ?_) (a' := ?_) #[false, true, false, false, false] rfl rfl (by kernel_rfl) (fun _ _ _ h => h) (Or.inl ⟨by rfl, ?_⟩) ?_ ?_
  rotate_left
  · intro w'
    go_simp
    first | with_reducible rfl | (rw [if_neg (by simp only [ByteArray.size_append, ByteArray.size_extract, eq_iff_iff, iff_true, iff_false] at *; omega)]; try with_reducible rfl)
  rotate_left
  · simp only [Act.put, List.setIfInBounds_toArray, List.set_cons_zero, List.set_cons_succ, i64_w, i32_w]
    rfl
  refine take_ (i := 0) (N := some 10) (v := ?_) (a' := ?_) #[true, true, false, false, false] rfl rfl (by kernel_rfl) (fun _ _ _ h => h) (Or.inl ⟨by rfl, ?_⟩) hHeld ?_ ?_
  rotate_left
  · rintro w' ⟨s0, s1, s2⟩
    go_simp
    first | with_reducible rfl | (rw [if_neg (by simp only [ByteArray.size_append, ByteArray.size_extract, eq_iff_iff, iff_true, iff_false] at *; omega)]; try with_reducible rfl)
  rotate_left
  · simp only [Act.put, List.setIfInBounds_toArray, List.set_cons_zero, List.set_cons_succ, i64_w, i32_w]
    rfl
  refine one_ (i := 2) (N := some 12) #[true, true, true, false, false] rfl rfl (by kernel_rfl) (by decide) (fun K hK => ?_)
  refine goes_ Tryd.func63 (by kernel_rfl) rfl #[.pointer (some ⟨g478, 0, none⟩)] (by rfl) rfl rfl (by (try simp only [List.map_toArray, List.map_cons, List.map_nil]); first | done | rfl | (simp only [List.length_drop, List.length_take]; rfl)) ?_
  with_reducible refine (spec_l7bent.calls k g478 t475 t482 t483 t485 t486 t487 t488 t489 w _ ?side1 ?side2 A4.out).mono ?_
  (case side1 => repeat (first | (with_reducible first | exact HI478.out | apply IsS90.alloc | apply IsS90.drewN | apply IsS90.drew | apply IsS90.set_1 | apply IsS90.set_2 | refine IsS90.far ?_ NB478_473.out _ | refine IsS90.far ?_ NB478_474.out _ | refine IsS90.far ?_ NB478_484.out _) | exact HI478.out))
  (case side2 => repeat (first | (with_reducible first | exact HB.out | apply below_alloc | apply pw_below_drewN | apply below_drew1 | refine below_set ?_ (IsS90.ge HI478.out) | refine below_set ?_ GE473.out | refine below_set ?_ GE474.out | refine below_set ?_ GE484.out) | exact HB.out))
  rintro e w16 ⟨rfl, hi, hb, hk⟩
  refine ⟨_, rfl, ?_⟩
  have n0_ := Aside0.mk (KeepBut.blk hk (g' := gb473) (o := .cells #[.int .i64 0, .int .i64 0, .string (⟨#[]⟩ : ByteArray)] 26 (0, 0)) (by (with_reducible repeat (first | refine blk_drewN ?_ _ | refine blk_drew ?_ | refine blk_alloc ?_ _)); exact BK473.out) NB473_478.out (by simp))
  have n1_ := Aside0.mk (KeepBut.blk hk (g' := gb474) (o := .cells #[.int .i64 0, .int .i64 0, .string (⟨#[]⟩ : ByteArray)] 26 (0, 0)) (by (with_reducible repeat (first | refine blk_drewN ?_ _ | refine blk_drew ?_ | refine blk_alloc ?_ _)); exact BK474.out) NB474_478.out (by simp))
  have n2_ := Aside0.mk (KeepBut.blk hk (g' := gb484) (o := .cells #[.int .i64 t479, .int .i64 t480, .string t481] 26 (0, 0)) (by (with_reducible repeat (first | refine blk_drewN ?_ _ | refine blk_drew ?_ | refine blk_alloc ?_ _)); exact BK484.out) NB484_478.out (by simp))
  have n3_ := Aside0.mk (hb)
  have n4_ := Aside0.mk (hi)
  clear BK473
  clear BK474
  clear BK484
  clear HB
  clear HI478
  have BK473 := n0_
  have BK474 := n1_
  have BK484 := n2_
  have HB := n3_
  have HI478 := n4_
  clear n0_ n1_ n2_ n3_ n4_
  (try clear hb)
  (try clear hb2)
  (try clear hk)
  (try clear hi)
  refine hK.out _ _ ⟨(blk_cell BK484.out 0).trans rfl, (blk_cell BK484.out 1).trans rfl, (blk_cell BK484.out 2).trans rfl⟩ (fun hHeld => ?_)
  clear hK K
  refine norm_ (a' := ?_) ?_ ?_
  rotate_left
  · show Act.put _ (some 12) _ = _
    simp only [Act.put, List.setIfInBounds_toArray, List.set_cons_zero, List.set_cons_succ, i64_w, i32_w]
    rfl
  refine one_ (i := 3) (N := none) #[true, true, true, true, false] rfl rfl (by kernel_rfl) (by decide) (fun K hK => ?_)
  have hs17 : w16.cell? ⟨gb473, 0, none⟩ = some (.int .i64 0) := (blk_cell BK473.out 0).trans rfl
  have hfs17 := blk_frozen BK473.out 0
  have hns17_1 := NB474_473.out
  have hns17_2 := NB484_473.out
  have hms17_1 := NB473_474.out
  have hms17_2 := NB473_484.out
  have hs18 : w16.cell? ⟨gb473, 1, none⟩ = some (.int .i64 0) := (blk_cell BK473.out 1).trans rfl
  have hfs18 := blk_frozen BK473.out 1
  have hns18_1 := NB474_473.out
  have hns18_2 := NB484_473.out
  have hms18_1 := NB473_474.out
  have hms18_2 := NB473_484.out
  have hs19 : w16.cell? ⟨gb473, 2, none⟩ = some (.string (⟨#[]⟩ : ByteArray)) := (blk_cell BK473.out 2).trans rfl
  have hfs19 := blk_frozen BK473.out 2
  have hns19_1 := NB474_473.out
  have hns19_2 := NB484_473.out
  have hms19_1 := NB473_474.out
  have hms19_2 := NB473_484.out
  refine skip_ (w1 := ?_) (by rfl) rfl ?_ ?_
  rotate_left
  · go_simp
    rfl
  refine hK.out _ _ ⟨((cell_far (p := ⟨gb473, _, none⟩) NB484_473.out _).trans (((cell_far (p := ⟨gb473, _, none⟩) NB484_473.out _).trans (((cell_far (p := ⟨gb473, _, none⟩) NB484_473.out _).trans (hHeld.1)))))), ((cell_far (p := ⟨gb473, _, none⟩) NB484_473.out _).trans (((cell_far (p := ⟨gb473, _, none⟩) NB484_473.out _).trans (((cell_far (p := ⟨gb473, _, none⟩) NB484_473.out _).trans (hHeld.2.1)))))), ((cell_far (p := ⟨gb473, _, none⟩) NB484_473.out _).trans (((cell_far (p := ⟨gb473, _, none⟩) NB484_473.out _).trans (((cell_far (p := ⟨gb473, _, none⟩) NB484_473.out _).trans (hHeld.2.2))))))⟩ (fun hHeld => ?_)
  clear hK K
  refine one_ (i := 4) (N := none) #[true, true, true, true, true] rfl rfl (by kernel_rfl) (by decide) (fun K hK => ?_)
  have hs20 : w16.cell? ⟨gb474, 0, none⟩ = some (.int .i64 0) := (blk_cell BK474.out 0).trans rfl
  have hfs20 := blk_frozen BK474.out 0
  have hns20_0 := NB473_474.out
  have hns20_2 := NB484_474.out
  have hms20_0 := NB474_473.out
  have hms20_2 := NB474_484.out
  have hs21 : w16.cell? ⟨gb474, 1, none⟩ = some (.int .i64 0) := (blk_cell BK474.out 1).trans rfl
  have hfs21 := blk_frozen BK474.out 1
  have hns21_0 := NB473_474.out
  have hns21_2 := NB484_474.out
  have hms21_0 := NB474_473.out
  have hms21_2 := NB474_484.out
  have hs22 : w16.cell? ⟨gb474, 2, none⟩ = some (.string (⟨#[]⟩ : ByteArray)) := (blk_cell BK474.out 2).trans rfl
  have hfs22 := blk_frozen BK474.out 2
  have hns22_0 := NB473_474.out
  have hns22_2 := NB484_474.out
  have hms22_0 := NB474_473.out
  have hms22_2 := NB474_484.out
  refine skip_ (w1 := ?_) (by rfl) rfl ?_ ?_
  rotate_left
  · go_simp
    rfl
  refine hK.out _ _ ⟨((cell_far (p := ⟨gb474, _, none⟩) NB484_474.out _).trans (((cell_far (p := ⟨gb474, _, none⟩) NB484_474.out _).trans (((cell_far (p := ⟨gb474, _, none⟩) NB484_474.out _).trans (hHeld.1)))))), ((cell_far (p := ⟨gb474, _, none⟩) NB484_474.out _).trans (((cell_far (p := ⟨gb474, _, none⟩) NB484_474.out _).trans (((cell_far (p := ⟨gb474, _, none⟩) NB484_474.out _).trans (hHeld.2.1)))))), ((cell_far (p := ⟨gb474, _, none⟩) NB484_474.out _).trans (((cell_far (p := ⟨gb474, _, none⟩) NB484_474.out _).trans (((cell_far (p := ⟨gb474, _, none⟩) NB484_474.out _).trans (hHeld.2.2))))))⟩ (fun hHeld => ?_)
  clear hK K
  refine done_ (by kernel_rfl) ?_
  try go_wp2
  refine bodyPost_ret (results_cc rfl _ _ gb473 gb474 26 26 #[.int .i64 t479, .int .i64 t480, .string t481] #[.int .i64 t485, .int .i64 t486, .string t487] (0, 0) (0, 0) _ _ rfl (by (with_reducible repeat (first | refine blk_drewN ?_ _ | refine blk_drew ?_ | refine blk_alloc ?_ _)); refine blk_far ?_ NB473_474.out _; (with_reducible repeat (first | refine blk_drewN ?_ _ | refine blk_drew ?_ | refine blk_alloc ?_ _)); refine blk_far ?_ NB473_474.out _; (with_reducible repeat (first | refine blk_drewN ?_ _ | refine blk_drew ?_ | refine blk_alloc ?_ _)); refine blk_far ?_ NB473_474.out _; (with_reducible repeat (first | refine blk_drewN ?_ _ | refine blk_drew ?_ | refine blk_alloc ?_ _)); refine blk_put (cs := #[.int .i64 t479, .int .i64 t480, .string (⟨#[]⟩ : ByteArray)]) ?_ 2 _ rfl; (with_reducible repeat (first | refine blk_drewN ?_ _ | refine blk_drew ?_ | refine blk_alloc ?_ _)); refine blk_put (cs := #[.int .i64 t479, .int .i64 0, .string (⟨#[]⟩ : ByteArray)]) ?_ 1 _ rfl; (with_reducible repeat (first | refine blk_drewN ?_ _ | refine blk_drew ?_ | refine blk_alloc ?_ _)); refine blk_put (cs := #[.int .i64 0, .int .i64 0, .string (⟨#[]⟩ : ByteArray)]) ?_ 0 _ rfl; (with_reducible repeat (first | refine blk_drewN ?_ _ | refine blk_drew ?_ | refine blk_alloc ?_ _)); exact BK473.out) Tryd.underlying26 rfl (by kernel_rfl) rfl (by (with_reducible repeat (first | refine blk_drewN ?_ _ | refine blk_drew ?_ | refine blk_alloc ?_ _)); refine blk_put (cs := #[.int .i64 t485, .int .i64 t486, .string (⟨#[]⟩ : ByteArray)]) ?_ 2 _ rfl; (with_reducible repeat (first | refine blk_drewN ?_ _ | refine blk_drew ?_ | refine blk_alloc ?_ _)); refine blk_put (cs := #[.int .i64 t485, .int .i64 0, .string (⟨#[]⟩ : ByteArray)]) ?_ 1 _ rfl; (with_reducible repeat (first | refine blk_drewN ?_ _ | refine blk_drew ?_ | refine blk_alloc ?_ _)); refine blk_put (cs := #[.int .i64 0, .int .i64 0, .string (⟨#[]⟩ : ByteArray)]) ?_ 0 _ rfl; (with_reducible repeat (first | refine blk_drewN ?_ _ | refine blk_drew ?_ | refine blk_alloc ?_ _)); refine blk_far ?_ NB474_473.out _; (with_reducible repeat (first | refine blk_drewN ?_ _ | refine blk_drew ?_ | refine blk_alloc ?_ _)); refine blk_far ?_ NB474_473.out _; (with_reducible repeat (first | refine blk_drewN ?_ _ | refine blk_drew ?_ | refine blk_alloc ?_ _)); refine blk_far ?_ NB474_473.out _; (with_reducible repeat (first | refine blk_drewN ?_ _ | refine blk_drew ?_ | refine blk_alloc ?_ _)); exact BK474.out) Tryd.underlying26 rfl (by kernel_rfl)) rfl ?_
  exact ⟨by first | rfl | (simp [errW_none, errW_some] <;> rfl) | (simp [*, errW_none, errW_some] <;> rfl), by repeat (first | (with_reducible first | exact HB.out | apply below_alloc | apply pw_below_drewN | apply below_drew1 | refine below_set ?_ (IsS90.ge HI478.out) | refine below_set ?_ GE473.out | refine below_set ?_ GE474.out | refine below_set ?_ GE484.out) | exact HB.out)⟩
def laws_FnCompares.j0 : Nat → Int → Bool → Int → Int → ByteArray → Int → Int → ByteArray → Option (Bool)
  | 0, _, _, _, _, _, _, _, _ => none
  | k + 1, x5, x21, x497000, x497001, x497002, x498000, x498001, x498002 => if x21 = true then (if x5 = 0 then ((impl_Relate.f k 17 x497000 x497001 x497002 x498000 x498001 x498002).bind fun t501 => (if t501 = true then (some false) else ((laws_cells.f k).bind fun t502 => (some t502)))) else (some false)) else ((impl_Compare.f k x498000 x498001 x498002 x497000 x497001 x497002).bind fun t503 => (if x5 = (wrap64 (-t503)) then ((impl_Compare.f k x497000 x497001 x497002 x497000 x497001 x497002).bind fun t504 => (if t504 = 0 then ((impl_Relate.f k 15 x497000 x497001 x497002 x498000 x498001 x498002).bind fun t505 => (if (t505 == (decide (x5 < 0))) = true then ((impl_Relate.f k 16 x497000 x497001 x497002 x498000 x498001 x498002).bind fun t506 => (if (t506 == (decide (x5 ≤ 0))) = true then ((impl_Relate.f k 17 x497000 x497001 x497002 x498000 x498001 x498002).bind fun t507 => (if (t507 == (x5 == 0)) = true then ((impl_Relate.f k 18 x497000 x497001 x497002 x498000 x498001 x498002).bind fun t508 => (if (t508 == (x5 != 0)) = true then ((spec_Compare.f k x497000 x497001 x497002 x498000 x498001 x498002).bind fun t509 => (if x5 = t509 then ((laws_cells.f k).bind fun t510 => (some t510)) else (some false))) else (some false))) else (some false))) else (some false))) else (some false))) else (some false))) else (some false)))
def laws_FnCompares.f (k : Nat) (l0 : List Int) : Option (Bool) := (spec_DrawCompare.f k l0).bind fun bt490 => ((impl_Compare.f k bt490.1 bt490.2.1 bt490.2.2.1 bt490.2.2.2.1 bt490.2.2.2.2.1 bt490.2.2.2.2.2).bind fun t498 => ((spec_CellOk.f k bt490.1 bt490.2.1 bt490.2.2.1).bind fun t499 => (if t499 = true then ((spec_CellOk.f k bt490.2.2.2.1 bt490.2.2.2.2.1 bt490.2.2.2.2.2).bind fun t500 => (laws_FnCompares.j0 k t498 (!t500) bt490.1 bt490.2.1 bt490.2.2.1 bt490.2.2.2.1 bt490.2.2.2.2.1 bt490.2.2.2.2.2)) else (laws_FnCompares.j0 k t498 true bt490.1 bt490.2.1 bt490.2.2.1 bt490.2.2.2.1 bt490.2.2.2.2.1 bt490.2.2.2.2.2))))
set_option maxHeartbeats 8000000 in
set_option maxRecDepth 100000 in
theorem laws_FnCompares.calls (k : Nat) (A0 : Option Addr) (c0 : Nat) (l0 : List Int) (r : Bool) (w : World) (hr0 : Kd.C (Kd.int .u8) w A0 l0.length l0) (hc0 : l0.length ≤ c0) (h : laws_FnCompares.f k l0 = some r) (hT : Tabs w := by first | assumption | (refine Aside0.out (p := Tabs _) ?_; assumption) | (refine Tabs.below (w := ?ww) (Aside0.out ?ha) ?hb; (case ha => assumption); (case hb => repeat (first | (with_reducible first | exact Below.refl _ _ | (refine Aside0.out ?_; assumption) | apply below_alloc | apply pw_below_drewN | apply below_drew1 | (refine below_set ?_ (Aside0.out ?_); (rotate_left; assumption))) | (refine Aside0.out ?_; assumption)))) | (refine Tabs.drewN (w := ?ww) (Aside0.out ?ha) _; (case ha => assumption))) (hr : r = true := by first | assumption | rfl | (refine Aside0.out ?_; assumption)) :
    Calls Tryd.prog 6 #[.slice A0 l0.length c0] w fun e w' => e = .returned (.bool r) ∧ Below w.heap.size w w' := by
  have HT_ := Aside0.mk hT
  clear hT
  subst hr
  have hu26 := Tryd.underlying26
  have HR0 := Aside0.mk hr0
  have HC0 := Aside0.mk hc0
  clear hr0 hc0
  have HB := Aside0.mk (Below.refl w.heap.size w)
  have H : ((spec_DrawCompare.f k l0).bind fun bt490 => ((impl_Compare.f k bt490.1 bt490.2.1 bt490.2.2.1 bt490.2.2.2.1 bt490.2.2.2.2.1 bt490.2.2.2.2.2).bind fun t498 => ((spec_CellOk.f k bt490.1 bt490.2.1 bt490.2.2.1).bind fun t499 => (if t499 = true then ((spec_CellOk.f k bt490.2.2.2.1 bt490.2.2.2.2.1 bt490.2.2.2.2.2).bind fun t500 => (laws_FnCompares.j0 k t498 (!t500) bt490.1 bt490.2.1 bt490.2.2.1 bt490.2.2.2.1 bt490.2.2.2.2.1 bt490.2.2.2.2.2)) else (laws_FnCompares.j0 k t498 true bt490.1 bt490.2.1 bt490.2.2.1 bt490.2.2.2.1 bt490.2.2.2.2.1 bt490.2.2.2.2.2))))) = some true := h
  clear h
  replace H := Option.bind_eq_some_iff.mp H
  obtain ⟨⟨t490, t491, t492, t493, t494, t495⟩, A20, H⟩ := H
  replace H : ((impl_Compare.f k t490 t491 t492 t493 t494 t495).bind fun t498 => ((spec_CellOk.f k t490 t491 t492).bind fun t499 => (if t499 = true then ((spec_CellOk.f k t493 t494 t495).bind fun t500 => (laws_FnCompares.j0 k t498 (!t500) t490 t491 t492 t493 t494 t495)) else (laws_FnCompares.j0 k t498 true t490 t491 t492 t493 t494 t495)))) = some true := H
  have A2 := Aside0.mk A20
  clear A20
  replace H := Option.bind_eq_some_iff.mp H
  obtain ⟨t498, A30, H⟩ := H
  replace H : ((spec_CellOk.f k t490 t491 t492).bind fun t499 => (if t499 = true then ((spec_CellOk.f k t493 t494 t495).bind fun t500 => (laws_FnCompares.j0 k t498 (!t500) t490 t491 t492 t493 t494 t495)) else (laws_FnCompares.j0 k t498 true t490 t491 t492 t493 t494 t495))) = some true := H
  have A3 := Aside0.mk A30
  clear A30
  have HC4 := Aside0.mk H
  clear H
  go_enter Tryd.func6, Tryd.ntmps6
  go_upto_region 3 with (first | ((with_reducible refine gate_callee (f := 25) rfl ?_); refine goesL_ (some 8) rfl rfl Tryd.func25 (by kernel_rfl) rfl #[.slice A0 l0.length c0] rfl (by (try simp only [List.map_toArray, List.map_cons, List.map_nil]); first | done | rfl | (simp only [List.length_drop, List.length_take]; rfl)) ?_; (with_reducible refine (spec_DrawCompare.calls k _ _ l0 t490 t491 t492 t493 t494 t495 _ ?side1 ?side2 A2.out).mono ?_); (case side1 => repeat (first | exact HR0.out | (with_reducible refine Kd.C_alloc ?_ _) | (with_reducible refine Kd.C_drewN ?_ _) | (with_reducible refine Kd.C_drew ?_))); (case side2 => exact HC0.out); rintro e w5 ⟨rfl, hb⟩; refine ⟨_, rfl, ?_⟩; have n0_ := Aside0.mk (below_step (by repeat (first | (with_reducible first | exact HB.out | apply below_alloc | apply pw_below_drewN | apply below_drew1) | exact HB.out)) hb); clear HB; have HB := n0_; clear n0_; (try clear hb); (try clear hb2); (try clear hk); (try clear hi)) | ((with_reducible refine gate_dst (N := 3) rfl ?_); refine box_event ?hg (N := 3) ?hd (cs := #[.int .i64 0, .int .i64 0, .string (⟨#[]⟩ : ByteArray)]) (t := 26) ?hr ?_; (case hd => rfl); (case hg => rfl); (case hr => first | (go_simp; done) | (go_simp; rfl)); intro gb496 hg w6 hbox hb; have n0_ := Aside0.mk (below_step (by repeat (first | (with_reducible first | exact HB.out | apply below_alloc | apply pw_below_drewN | apply below_drew1) | exact HB.out)) hb); have n1_ := Aside0.mk (hbox); have n2_ := Aside0.mk ((by rw [hg]; exact (below_size (by repeat (first | (with_reducible first | exact HB.out | apply below_alloc | apply pw_below_drewN | apply below_drew1) | exact HB.out))) : w.heap.size ≤ gb496)); have n3_ := Aside0.mk ((by rw [hg]; exact (below_size (by repeat (first | (with_reducible first | exact HB.out | apply below_alloc | apply pw_below_drewN | apply below_drew1) | exact HB.out))) : w.heap.size ≤ gb496)); clear HB; have HB := n0_; have BK496 := n1_; have GW496 := n2_; have GE496 := n3_; clear n0_ n1_ n2_ n3_; clear hb hbox hg) | ((with_reducible refine gate_dst (N := 4) rfl ?_); refine box_event ?hg (N := 4) ?hd (cs := #[.int .i64 0, .int .i64 0, .string (⟨#[]⟩ : ByteArray)]) (t := 26) ?hr ?_; (case hd => rfl); (case hg => rfl); (case hr => first | (go_simp; done) | (go_simp; rfl)); intro gb497 hg w7 hbox hb; have n0_ := Aside0.mk (blk_below (g := gb496) (o := .cells #[.int .i64 0, .int .i64 0, .string (⟨#[]⟩ : ByteArray)] 26 (0, 0)) (by (with_reducible repeat (first | refine blk_drewN ?_ _ | refine blk_drew ?_ | refine blk_alloc ?_ _)); exact BK496.out) hb); have n1_ := Aside0.mk (below_step (by repeat (first | (with_reducible first | exact HB.out | apply below_alloc | apply pw_below_drewN | apply below_drew1 | refine below_set ?_ GE496.out) | exact HB.out)) hb); have n2_ := Aside0.mk (hbox); have n3_ := Aside0.mk ((by rw [hg]; exact (below_size (by repeat (first | (with_reducible first | exact HB.out | apply below_alloc | apply pw_below_drewN | apply below_drew1 | refine below_set ?_ GE496.out) | exact HB.out))) : w.heap.size ≤ gb497)); have n4_ := Aside0.mk ((by rw [hg]; exact (below_size (by repeat (first | (with_reducible first | exact HB.out | apply below_alloc | apply pw_below_drewN | apply below_drew1 | refine below_set ?_ GE496.out) | exact HB.out))) : w.heap.size ≤ gb497)); have n5_ := Aside0.mk ((by rw [hg]; exact Nat.ne_of_lt (blk_lt (g := gb496) (o := .cells #[.int .i64 0, .int .i64 0, .string (⟨#[]⟩ : ByteArray)] 26 (0, 0)) (by (with_reducible repeat (first | refine blk_drewN ?_ _ | refine blk_drew ?_ | refine blk_alloc ?_ _)); exact BK496.out)) : gb496 ≠ gb497)); have n6_ := Aside0.mk ((by rw [hg]; exact Nat.ne_of_gt (blk_lt (g := gb496) (o := .cells #[.int .i64 0, .int .i64 0, .string (⟨#[]⟩ : ByteArray)] 26 (0, 0)) (by (with_reducible repeat (first | refine blk_drewN ?_ _ | refine blk_drew ?_ | refine blk_alloc ?_ _)); exact BK496.out)) : gb497 ≠ gb496)); clear BK496; clear HB; have BK496 := n0_; have HB := n1_; have BK497 := n2_; have GW497 := n3_; have GE497 := n4_; have NB496_497 := n5_; have NB497_496 := n6_; clear n0_ n1_ n2_ n3_ n4_ n5_ n6_; clear hb hbox hg; have hnb8 := NB496_497.out; have hnc8 := NB497_496.out; have hcz9_0 : w7.cell? ⟨gb496, 0, none⟩ = some (.int .i64 0) := (blk_cell BK496.out 0).trans rfl; have hcz9_1 : w7.cell? ⟨gb496, 1, none⟩ = some (.int .i64 0) := (blk_cell BK496.out 1).trans rfl; have hcz9_2 : w7.cell? ⟨gb496, 2, none⟩ = some (.string (⟨#[]⟩ : ByteArray)) := (blk_cell BK496.out 2).trans rfl; have hfz9_0 := blk_frozen BK496.out 0; have hfz9_1 := blk_frozen BK496.out 1; have hfz9_2 := blk_frozen BK496.out 2; have hcz10_0 : w7.cell? ⟨gb497, 0, none⟩ = some (.int .i64 0) := (blk_cell BK497.out 0).trans rfl; have hcz10_1 : w7.cell? ⟨gb497, 1, none⟩ = some (.int .i64 0) := (blk_cell BK497.out 1).trans rfl; have hcz10_2 : w7.cell? ⟨gb497, 2, none⟩ = some (.string (⟨#[]⟩ : ByteArray)) := (blk_cell BK497.out 2).trans rfl; have hfz10_0 := blk_frozen BK497.out 0; have hfz10_1 := blk_frozen BK497.out 1; have hfz10_2 := blk_frozen BK497.out 2) | ((with_reducible refine gate_callee (f := 13) rfl ?_); refine goesL_ (some 13) rfl rfl Tryd.func13 (by kernel_rfl) rfl #[.agg #[.int .i64 t490, .int .i64 t491, .string t492], .agg #[.int .i64 t493, .int .i64 t494, .string t495]] rfl (by (try simp only [List.map_toArray, List.map_cons, List.map_nil]); first | done | rfl | (simp only [List.length_drop, List.length_take]; rfl)) ?_; (with_reducible refine (impl_Compare.calls k t490 t491 t492 t493 t494 t495 t498 _ A3.out).mono ?_); rintro e w11 ⟨rfl, hb⟩; refine ⟨_, rfl, ?_⟩; have n0_ := Aside0.mk (blk_below (g := gb496) (o := .cells #[.int .i64 t490, .int .i64 t491, .string t492] 26 (0, 0)) (by (with_reducible repeat (first | refine blk_drewN ?_ _ | refine blk_drew ?_ | refine blk_alloc ?_ _)); refine blk_far ?_ NB496_497.out _; (with_reducible repeat (first | refine blk_drewN ?_ _ | refine blk_drew ?_ | refine blk_alloc ?_ _)); refine blk_far ?_ NB496_497.out _; (with_reducible repeat (first | refine blk_drewN ?_ _ | refine blk_drew ?_ | refine blk_alloc ?_ _)); refine blk_far ?_ NB496_497.out _; (with_reducible repeat (first | refine blk_drewN ?_ _ | refine blk_drew ?_ | refine blk_alloc ?_ _)); refine blk_put (cs := #[.int .i64 t490, .int .i64 t491, .string (⟨#[]⟩ : ByteArray)]) ?_ 2 _ rfl; (with_reducible repeat (first | refine blk_drewN ?_ _ | refine blk_drew ?_ | refine blk_alloc ?_ _)); refine blk_put (cs := #[.int .i64 t490, .int .i64 0, .string (⟨#[]⟩ : ByteArray)]) ?_ 1 _ rfl; (with_reducible repeat (first | refine blk_drewN ?_ _ | refine blk_drew ?_ | refine blk_alloc ?_ _)); refine blk_put (cs := #[.int .i64 0, .int .i64 0, .string (⟨#[]⟩ : ByteArray)]) ?_ 0 _ rfl; (with_reducible repeat (first | refine blk_drewN ?_ _ | refine blk_drew ?_ | refine blk_alloc ?_ _)); exact BK496.out) hb); have n1_ := Aside0.mk (blk_below (g := gb497) (o := .cells #[.int .i64 t493, .int .i64 t494, .string t495] 26 (0, 0)) (by (with_reducible repeat (first | refine blk_drewN ?_ _ | refine blk_drew ?_ | refine blk_alloc ?_ _)); refine blk_put (cs := #[.int .i64 t493, .int .i64 t494, .string (⟨#[]⟩ : ByteArray)]) ?_ 2 _ rfl; (with_reducible repeat (first | refine blk_drewN ?_ _ | refine blk_drew ?_ | refine blk_alloc ?_ _)); refine blk_put (cs := #[.int .i64 t493, .int .i64 0, .string (⟨#[]⟩ : ByteArray)]) ?_ 1 _ rfl; (with_reducible repeat (first | refine blk_drewN ?_ _ | refine blk_drew ?_ | refine blk_alloc ?_ _)); refine blk_put (cs := #[.int .i64 0, .int .i64 0, .string (⟨#[]⟩ : ByteArray)]) ?_ 0 _ rfl; (with_reducible repeat (first | refine blk_drewN ?_ _ | refine blk_drew ?_ | refine blk_alloc ?_ _)); refine blk_far ?_ NB497_496.out _; (with_reducible repeat (first | refine blk_drewN ?_ _ | refine blk_drew ?_ | refine blk_alloc ?_ _)); refine blk_far ?_ NB497_496.out _; (with_reducible repeat (first | refine blk_drewN ?_ _ | refine blk_drew ?_ | refine blk_alloc ?_ _)); refine blk_far ?_ NB497_496.out _; (with_reducible repeat (first | refine blk_drewN ?_ _ | refine blk_drew ?_ | refine blk_alloc ?_ _)); exact BK497.out) hb); have n2_ := Aside0.mk (below_step (by repeat (first | (with_reducible first | exact HB.out | apply below_alloc | apply pw_below_drewN | apply below_drew1 | refine below_set ?_ GE496.out | refine below_set ?_ GE497.out) | exact HB.out)) hb); clear BK496; clear BK497; clear HB; have BK496 := n0_; have BK497 := n1_; have HB := n2_; clear n0_ n1_ n2_; (try clear hb); (try clear hb2); (try clear hk); (try clear hi)))
  (try simp only [Act.put, List.setIfInBounds_toArray, List.set_cons_zero, List.set_cons_succ])
  go_cut [21] (fun v21 wc => ∃ (kq : Nat) (x21_3 : Bool), v21 = .bool x21_3 ∧ Aside0 (laws_FnCompares.j0 kq t498 x21_3 t490 t491 t492 t493 t494 t495 = some true) ∧ Aside0 (kq ≤ k) ∧ Aside0 (wc.heap[gb496]? = some (.cells #[.int .i64 t490, .int .i64 t491, .string t492] 26 (0, 0))) ∧ Aside0 (wc.heap[gb497]? = some (.cells #[.int .i64 t493, .int .i64 t494, .string t495] 26 (0, 0))) ∧ Aside0 (Below w.heap.size w wc))
  case first =>
    have H := HC4.out
    clear HC4
    replace H := Option.bind_eq_some_iff.mp H
    obtain ⟨t499, A120, H⟩ := H
    replace H : (if t499 = true then ((spec_CellOk.f k t493 t494 t495).bind fun t500 => (laws_FnCompares.j0 k t498 (!t500) t490 t491 t492 t493 t494 t495)) else (laws_FnCompares.j0 k t498 true t490 t491 t492 t493 t494 t495)) = some true := H
    have A12 := Aside0.mk A120
    clear A120
    by_cases c13 : t499 = true
    · subst c13
      have H1 : ((spec_CellOk.f k t493 t494 t495).bind fun t500 => (laws_FnCompares.j0 k t498 (!t500) t490 t491 t492 t493 t494 t495)) = some true := by rw [if_pos rfl] at H; exact H
      clear H
      have H := H1
      clear H1
      replace H := Option.bind_eq_some_iff.mp H
      obtain ⟨t500, A140, H⟩ := H
      replace H : (laws_FnCompares.j0 k t498 (!t500) t490 t491 t492 t493 t494 t495) = some true := H
      have A14 := Aside0.mk A140
      clear A140
      have H' := Aside0.mk H
      clear H
      have hnb15 := NB496_497.out
      have hnc15 := NB497_496.out
      have hcz16_0 : w11.cell? ⟨gb496, 0, none⟩ = some (.int .i64 t490) := (blk_cell BK496.out 0).trans rfl
      have hcz16_1 : w11.cell? ⟨gb496, 1, none⟩ = some (.int .i64 t491) := (blk_cell BK496.out 1).trans rfl
      have hcz16_2 : w11.cell? ⟨gb496, 2, none⟩ = some (.string t492) := (blk_cell BK496.out 2).trans rfl
      have hfz16_0 := blk_frozen BK496.out 0
      have hfz16_1 := blk_frozen BK496.out 1
      have hfz16_2 := blk_frozen BK496.out 2
      go_wp2_with (first | ((with_reducible refine gate_callee (f := 26) rfl ?_); refine goesL_ (some 15) rfl rfl Tryd.func26 (by kernel_rfl) rfl #[.agg #[.int .i64 t490, .int .i64 t491, .string t492]] rfl (by (try simp only [List.map_toArray, List.map_cons, List.map_nil]); first | done | rfl | (simp only [List.length_drop, List.length_take]; rfl)) ?_; (with_reducible refine (spec_CellOk.calls k t490 t491 t492 true _ A12.out).mono ?_); rintro e w17 ⟨rfl, hb⟩; refine ⟨_, rfl, ?_⟩; have n0_ := Aside0.mk (blk_below (g := gb496) (o := .cells #[.int .i64 t490, .int .i64 t491, .string t492] 26 (0, 0)) (by (with_reducible repeat (first | refine blk_drewN ?_ _ | refine blk_drew ?_ | refine blk_alloc ?_ _)); exact BK496.out) hb); have n1_ := Aside0.mk (blk_below (g := gb497) (o := .cells #[.int .i64 t493, .int .i64 t494, .string t495] 26 (0, 0)) (by (with_reducible repeat (first | refine blk_drewN ?_ _ | refine blk_drew ?_ | refine blk_alloc ?_ _)); exact BK497.out) hb); have n2_ := Aside0.mk (below_step (by repeat (first | (with_reducible first | exact HB.out | apply below_alloc | apply pw_below_drewN | apply below_drew1 | refine below_set ?_ GE496.out | refine below_set ?_ GE497.out) | exact HB.out)) hb); clear BK496; clear BK497; clear HB; have BK496 := n0_; have BK497 := n1_; have HB := n2_; clear n0_ n1_ n2_; (try clear hb); (try clear hb2); (try clear hk); (try clear hi); have hcz18_0 : w17.cell? ⟨gb497, 0, none⟩ = some (.int .i64 t493) := (blk_cell BK497.out 0).trans rfl; have hcz18_1 : w17.cell? ⟨gb497, 1, none⟩ = some (.int .i64 t494) := (blk_cell BK497.out 1).trans rfl; have hcz18_2 : w17.cell? ⟨gb497, 2, none⟩ = some (.string t495) := (blk_cell BK497.out 2).trans rfl; have hfz18_0 := blk_frozen BK497.out 0; have hfz18_1 := blk_frozen BK497.out 1; have hfz18_2 := blk_frozen BK497.out 2) | (go_at_call 26; (with_reducible refine (spec_CellOk.calls k t493 t494 t495 t500 _ A14.out).mono ?_); rintro e w19 ⟨rfl, hb⟩; have n0_ := Aside0.mk (blk_below (g := gb496) (o := .cells #[.int .i64 t490, .int .i64 t491, .string t492] 26 (0, 0)) (by (with_reducible repeat (first | refine blk_drewN ?_ _ | refine blk_drew ?_ | refine blk_alloc ?_ _)); exact BK496.out) hb); have n1_ := Aside0.mk (blk_below (g := gb497) (o := .cells #[.int .i64 t493, .int .i64 t494, .string t495] 26 (0, 0)) (by (with_reducible repeat (first | refine blk_drewN ?_ _ | refine blk_drew ?_ | refine blk_alloc ?_ _)); exact BK497.out) hb); have n2_ := Aside0.mk (below_step (by repeat (first | (with_reducible first | exact HB.out | apply below_alloc | apply pw_below_drewN | apply below_drew1 | refine below_set ?_ GE496.out | refine below_set ?_ GE497.out) | exact HB.out)) hb); clear BK496; clear BK497; clear HB; have BK496 := n0_; have BK497 := n1_; have HB := n2_; clear n0_ n1_ n2_; (try clear hb); (try clear hb2); (try clear hk); (try clear hi)))
      go_meet
      case rel => exact ⟨_, (!t500), (by first | rfl | (simp; done) | (simp [*]; done)), H', ⟨by first | omega | exact Nat.le_refl _⟩, ⟨by (with_reducible repeat (first | refine blk_drewN ?_ _ | refine blk_drew ?_ | refine blk_alloc ?_ _)); exact BK496.out⟩, ⟨by (with_reducible repeat (first | refine blk_drewN ?_ _ | refine blk_drew ?_ | refine blk_alloc ?_ _)); exact BK497.out⟩, ⟨by repeat (first | (with_reducible first | exact HB.out | apply below_alloc | apply pw_below_drewN | apply below_drew1 | refine below_set ?_ GE496.out | refine below_set ?_ GE497.out) | exact HB.out)⟩⟩
    · replace c13 := Bool.eq_false_iff.mpr c13
      subst c13
      have H1 : (laws_FnCompares.j0 k t498 true t490 t491 t492 t493 t494 t495) = some true := by rw [if_neg (show ¬ (false = true) by decide)] at H; exact H
      clear H
      have H := H1
      clear H1
      have H' := Aside0.mk H
      clear H
      have hnb20 := NB496_497.out
      have hnc20 := NB497_496.out
      have hcz21_0 : w11.cell? ⟨gb496, 0, none⟩ = some (.int .i64 t490) := (blk_cell BK496.out 0).trans rfl
      have hcz21_1 : w11.cell? ⟨gb496, 1, none⟩ = some (.int .i64 t491) := (blk_cell BK496.out 1).trans rfl
      have hcz21_2 : w11.cell? ⟨gb496, 2, none⟩ = some (.string t492) := (blk_cell BK496.out 2).trans rfl
      have hfz21_0 := blk_frozen BK496.out 0
      have hfz21_1 := blk_frozen BK496.out 1
      have hfz21_2 := blk_frozen BK496.out 2
      go_wp2_with (first | ((with_reducible refine gate_callee (f := 26) rfl ?_); refine goesL_ (some 15) rfl rfl Tryd.func26 (by kernel_rfl) rfl #[.agg #[.int .i64 t490, .int .i64 t491, .string t492]] rfl (by (try simp only [List.map_toArray, List.map_cons, List.map_nil]); first | done | rfl | (simp only [List.length_drop, List.length_take]; rfl)) ?_; (with_reducible refine (spec_CellOk.calls k t490 t491 t492 false _ A12.out).mono ?_); rintro e w22 ⟨rfl, hb⟩; refine ⟨_, rfl, ?_⟩; have n0_ := Aside0.mk (blk_below (g := gb496) (o := .cells #[.int .i64 t490, .int .i64 t491, .string t492] 26 (0, 0)) (by (with_reducible repeat (first | refine blk_drewN ?_ _ | refine blk_drew ?_ | refine blk_alloc ?_ _)); exact BK496.out) hb); have n1_ := Aside0.mk (blk_below (g := gb497) (o := .cells #[.int .i64 t493, .int .i64 t494, .string t495] 26 (0, 0)) (by (with_reducible repeat (first | refine blk_drewN ?_ _ | refine blk_drew ?_ | refine blk_alloc ?_ _)); exact BK497.out) hb); have n2_ := Aside0.mk (below_step (by repeat (first | (with_reducible first | exact HB.out | apply below_alloc | apply pw_below_drewN | apply below_drew1 | refine below_set ?_ GE496.out | refine below_set ?_ GE497.out) | exact HB.out)) hb); clear BK496; clear BK497; clear HB; have BK496 := n0_; have BK497 := n1_; have HB := n2_; clear n0_ n1_ n2_; (try clear hb); (try clear hb2); (try clear hk); (try clear hi)))
      go_meet
      case rel => exact ⟨_, (true), (by first | rfl | (simp; done) | (simp [*]; done)), H', ⟨by first | omega | exact Nat.le_refl _⟩, ⟨by (with_reducible repeat (first | refine blk_drewN ?_ _ | refine blk_drew ?_ | refine blk_alloc ?_ _)); exact BK496.out⟩, ⟨by (with_reducible repeat (first | refine blk_drewN ?_ _ | refine blk_drew ?_ | refine blk_alloc ?_ _)); exact BK497.out⟩, ⟨by repeat (first | (with_reducible first | exact HB.out | apply below_alloc | apply pw_below_drewN | apply below_drew1 | refine below_set ?_ GE496.out | refine below_set ?_ GE497.out) | exact HB.out)⟩⟩
  case rest =>
    clear HC4
    try clear c1
    try clear c2
    try clear p2
    try clear c6
    try clear c8
    try clear c13
    try clear c15
    try clear c20
    try clear hcz10_0
    try clear hcz10_1
    try clear hcz10_2
    try clear hcz16_0
    try clear hcz16_1
    try clear hcz16_2
    try clear hcz18_0
    try clear hcz18_1
    try clear hcz18_2
    try clear hcz21_0
    try clear hcz21_1
    try clear hcz21_2
    try clear hcz9_0
    try clear hcz9_1
    try clear hcz9_2
    try clear hfz10_0
    try clear hfz10_1
    try clear hfz10_2
    try clear hfz16_0
    try clear hfz16_1
    try clear hfz16_2
    try clear hfz18_0
    try clear hfz18_1
    try clear hfz18_2
    try clear hfz21_0
    try clear hfz21_1
    try clear hfz21_2
    try clear hfz9_0
    try clear hfz9_1
    try clear hfz9_2
    obtain ⟨kq, x21_3, rfl, HA, HJ3, BK496, BK497, HB⟩ := hcut
    cases kq with
    | zero => exact absurd HA.out (by simp [laws_FnCompares.j0])
    | succ kj3 =>
      have H := HA.out
      clear HA
      simp only [laws_FnCompares.j0] at H
      by_cases c23 : x21_3 = true
      · subst c23
        have H1 : (if t498 = 0 then ((impl_Relate.f kj3 17 t490 t491 t492 t493 t494 t495).bind fun t501 => (if t501 = true then (some false) else ((laws_cells.f kj3).bind fun t502 => (some t502)))) else (some false)) = some true := by rw [if_pos rfl] at H; exact H
        clear H
        have H := H1
        clear H1
        by_cases c24 : t498 = 0
        · rw [if_pos c24] at H
          have c24b0 : (t498 == 0) = true := beq_iff_eq.mpr c24
          have c24b1 : (t498 != 0) = false := bne_eq_false_iff_eq.mpr c24
          clear c24
          replace H := Option.bind_eq_some_iff.mp H
          obtain ⟨t501, A250, H⟩ := H
          replace H : (if t501 = true then (some false) else ((laws_cells.f kj3).bind fun t502 => (some t502))) = some true := H
          have A25 := Aside0.mk A250
          clear A250
          by_cases c26 : t501 = true
          · subst c26
            have H1 : (some false) = some true := by rw [if_pos rfl] at H; exact H
            clear H
            have H := H1
            clear H1
            exact absurd H (by simp)
          · replace c26 := Bool.eq_false_iff.mpr c26
            subst c26
            have H1 : ((laws_cells.f kj3).bind fun t502 => (some t502)) = some true := by rw [if_neg (show ¬ (false = true) by decide)] at H; exact H
            clear H
            have H := H1
            clear H1
            replace H := Option.bind_eq_some_iff.mp H
            obtain ⟨t502, A270, H⟩ := H
            replace H : (some t502) = some true := H
            have A27 := Aside0.mk A270
            clear A270
            have HOR_ := Aside0.mk (Option.some.inj H)
            clear H
            have hnb28 := NB496_497.out
            have hnc28 := NB497_496.out
            have hcz29_0 : wc.cell? ⟨gb496, 0, none⟩ = some (.int .i64 t490) := (blk_cell BK496.out 0).trans rfl
            have hcz29_1 : wc.cell? ⟨gb496, 1, none⟩ = some (.int .i64 t491) := (blk_cell BK496.out 1).trans rfl
            have hcz29_2 : wc.cell? ⟨gb496, 2, none⟩ = some (.string t492) := (blk_cell BK496.out 2).trans rfl
            have hfz29_0 := blk_frozen BK496.out 0
            have hfz29_1 := blk_frozen BK496.out 1
            have hfz29_2 := blk_frozen BK496.out 2
            have hcz30_0 : wc.cell? ⟨gb497, 0, none⟩ = some (.int .i64 t493) := (blk_cell BK497.out 0).trans rfl
            have hcz30_1 : wc.cell? ⟨gb497, 1, none⟩ = some (.int .i64 t494) := (blk_cell BK497.out 1).trans rfl
            have hcz30_2 : wc.cell? ⟨gb497, 2, none⟩ = some (.string t495) := (blk_cell BK497.out 2).trans rfl
            have hfz30_0 := blk_frozen BK497.out 0
            have hfz30_1 := blk_frozen BK497.out 1
            have hfz30_2 := blk_frozen BK497.out 2
            go_wp2_with (first | (go_at_call 15; (with_reducible refine (impl_Relate.calls kj3 17 t490 t491 t492 t493 t494 t495 false _ A25.out).mono ?_); rintro e w31 ⟨rfl, hb⟩; have n0_ := Aside0.mk (blk_below (g := gb496) (o := .cells #[.int .i64 t490, .int .i64 t491, .string t492] 26 (0, 0)) (by (with_reducible repeat (first | refine blk_drewN ?_ _ | refine blk_drew ?_ | refine blk_alloc ?_ _)); exact BK496.out) hb); have n1_ := Aside0.mk (blk_below (g := gb497) (o := .cells #[.int .i64 t493, .int .i64 t494, .string t495] 26 (0, 0)) (by (with_reducible repeat (first | refine blk_drewN ?_ _ | refine blk_drew ?_ | refine blk_alloc ?_ _)); exact BK497.out) hb); have n2_ := Aside0.mk (below_step (by repeat (first | (with_reducible first | exact HB.out | apply below_alloc | apply pw_below_drewN | apply below_drew1 | refine below_set ?_ GE496.out | refine below_set ?_ GE497.out) | exact HB.out)) hb); clear BK496; clear BK497; clear HB; have BK496 := n0_; have BK497 := n1_; have HB := n2_; clear n0_ n1_ n2_; (try clear hb); (try clear hb2); (try clear hk); (try clear hi)) | (go_at_call 18; (with_reducible refine (laws_cells.calls kj3  t502 _ A27.out).mono ?_); rintro e w32 ⟨rfl, hb⟩; have n0_ := Aside0.mk (blk_below (g := gb496) (o := .cells #[.int .i64 t490, .int .i64 t491, .string t492] 26 (0, 0)) (by (with_reducible repeat (first | refine blk_drewN ?_ _ | refine blk_drew ?_ | refine blk_alloc ?_ _)); exact BK496.out) hb); have n1_ := Aside0.mk (blk_below (g := gb497) (o := .cells #[.int .i64 t493, .int .i64 t494, .string t495] 26 (0, 0)) (by (with_reducible repeat (first | refine blk_drewN ?_ _ | refine blk_drew ?_ | refine blk_alloc ?_ _)); exact BK497.out) hb); have n2_ := Aside0.mk (below_step (by repeat (first | (with_reducible first | exact HB.out | apply below_alloc | apply pw_below_drewN | apply below_drew1 | refine below_set ?_ GE496.out | refine below_set ?_ GE497.out) | exact HB.out)) hb); clear BK496; clear BK497; clear HB; have BK496 := n0_; have BK497 := n1_; have HB := n2_; clear n0_ n1_ n2_; (try clear hb); (try clear hb2); (try clear hk); (try clear hi)))
            go_ret
            exact ⟨by first | rfl | (rw [HOR_.out]; done) | (rw [HOR_.out]; rfl) | (simp [HOR_.out]; done) | (have h_ := HOR_.out; simp at h_; subst h_; first | rfl | (simp; done)) | (have h_ := HOR_.out; simp at h_ ⊢; exact h_) | (simp [errW_none, errW_some] <;> rfl) | (simp [*, errW_none, errW_some] <;> rfl), by repeat (first | (with_reducible first | exact HB.out | apply below_alloc | apply pw_below_drewN | apply below_drew1 | refine below_set ?_ GE496.out | refine below_set ?_ GE497.out) | exact HB.out)⟩
        · rw [if_neg c24] at H
          have c24b0 : (t498 == 0) = false := beq_eq_false_iff_ne.mpr c24
          have c24b1 : (t498 != 0) = true := bne_iff_ne.mpr c24
          exact absurd H (by simp)
      · replace c23 := Bool.eq_false_iff.mpr c23
        subst c23
        have H1 : ((impl_Compare.f kj3 t493 t494 t495 t490 t491 t492).bind fun t503 => (if t498 = (wrap64 (-t503)) then ((impl_Compare.f kj3 t490 t491 t492 t490 t491 t492).bind fun t504 => (if t504 = 0 then ((impl_Relate.f kj3 15 t490 t491 t492 t493 t494 t495).bind fun t505 => (if (t505 == (decide (t498 < 0))) = true then ((impl_Relate.f kj3 16 t490 t491 t492 t493 t494 t495).bind fun t506 => (if (t506 == (decide (t498 ≤ 0))) = true then ((impl_Relate.f kj3 17 t490 t491 t492 t493 t494 t495).bind fun t507 => (if (t507 == (t498 == 0)) = true then ((impl_Relate.f kj3 18 t490 t491 t492 t493 t494 t495).bind fun t508 => (if (t508 == (t498 != 0)) = true then ((spec_Compare.f kj3 t490 t491 t492 t493 t494 t495).bind fun t509 => (if t498 = t509 then ((laws_cells.f kj3).bind fun t510 => (some t510)) else (some false))) else (some false))) else (some false))) else (some false))) else (some false))) else (some false))) else (some false))) = some true := by rw [if_neg (show ¬ (false = true) by decide)] at H; exact H
        clear H
        have H := H1
        clear H1
        replace H := Option.bind_eq_some_iff.mp H
        obtain ⟨t503, A330, H⟩ := H
        replace H : (if t498 = (wrap64 (-t503)) then ((impl_Compare.f kj3 t490 t491 t492 t490 t491 t492).bind fun t504 => (if t504 = 0 then ((impl_Relate.f kj3 15 t490 t491 t492 t493 t494 t495).bind fun t505 => (if (t505 == (decide (t498 < 0))) = true then ((impl_Relate.f kj3 16 t490 t491 t492 t493 t494 t495).bind fun t506 => (if (t506 == (decide (t498 ≤ 0))) = true then ((impl_Relate.f kj3 17 t490 t491 t492 t493 t494 t495).bind fun t507 => (if (t507 == (t498 == 0)) = true then ((impl_Relate.f kj3 18 t490 t491 t492 t493 t494 t495).bind fun t508 => (if (t508 == (t498 != 0)) = true then ((spec_Compare.f kj3 t490 t491 t492 t493 t494 t495).bind fun t509 => (if t498 = t509 then ((laws_cells.f kj3).bind fun t510 => (some t510)) else (some false))) else (some false))) else (some false))) else (some false))) else (some false))) else (some false))) else (some false)) = some true := H
        have A33 := Aside0.mk A330
        clear A330
        by_cases c34 : t498 = (wrap64 (-t503))
        · rw [if_pos c34] at H
          have c34b0 : (t498 == (wrap64 (-t503))) = true := beq_iff_eq.mpr c34
          have c34b1 : (t498 != (wrap64 (-t503))) = false := bne_eq_false_iff_eq.mpr c34
          clear c34
          replace H := Option.bind_eq_some_iff.mp H
          obtain ⟨t504, A350, H⟩ := H
          replace H : (if t504 = 0 then ((impl_Relate.f kj3 15 t490 t491 t492 t493 t494 t495).bind fun t505 => (if (t505 == (decide (t498 < 0))) = true then ((impl_Relate.f kj3 16 t490 t491 t492 t493 t494 t495).bind fun t506 => (if (t506 == (decide (t498 ≤ 0))) = true then ((impl_Relate.f kj3 17 t490 t491 t492 t493 t494 t495).bind fun t507 => (if (t507 == (t498 == 0)) = true then ((impl_Relate.f kj3 18 t490 t491 t492 t493 t494 t495).bind fun t508 => (if (t508 == (t498 != 0)) = true then ((spec_Compare.f kj3 t490 t491 t492 t493 t494 t495).bind fun t509 => (if t498 = t509 then ((laws_cells.f kj3).bind fun t510 => (some t510)) else (some false))) else (some false))) else (some false))) else (some false))) else (some false))) else (some false)) = some true := H
          have A35 := Aside0.mk A350
          clear A350
          by_cases c36 : t504 = 0
          · rw [if_pos c36] at H
            have c36b0 : (t504 == 0) = true := beq_iff_eq.mpr c36
            have c36b1 : (t504 != 0) = false := bne_eq_false_iff_eq.mpr c36
            clear c36
            replace H := Option.bind_eq_some_iff.mp H
            obtain ⟨t505, A370, H⟩ := H
            replace H : (if (t505 == (decide (t498 < 0))) = true then ((impl_Relate.f kj3 16 t490 t491 t492 t493 t494 t495).bind fun t506 => (if (t506 == (decide (t498 ≤ 0))) = true then ((impl_Relate.f kj3 17 t490 t491 t492 t493 t494 t495).bind fun t507 => (if (t507 == (t498 == 0)) = true then ((impl_Relate.f kj3 18 t490 t491 t492 t493 t494 t495).bind fun t508 => (if (t508 == (t498 != 0)) = true then ((spec_Compare.f kj3 t490 t491 t492 t493 t494 t495).bind fun t509 => (if t498 = t509 then ((laws_cells.f kj3).bind fun t510 => (some t510)) else (some false))) else (some false))) else (some false))) else (some false))) else (some false)) = some true := H
            have A37 := Aside0.mk A370
            clear A370
            by_cases c38 : (t505 == (decide (t498 < 0))) = true
            · rw [if_pos c38] at H
              have c38b0 : (t505 == (decide (t498 < 0))) = true := c38
              (try (have c38b1 : decide (t505 = (decide (t498 < 0))) = true := by simpa using c38))
              (try (have c38b2 : (t505 == (decide (t498 < 0))) = true := by simpa using c38))
              clear c38
              replace H := Option.bind_eq_some_iff.mp H
              obtain ⟨t506, A390, H⟩ := H
              replace H : (if (t506 == (decide (t498 ≤ 0))) = true then ((impl_Relate.f kj3 17 t490 t491 t492 t493 t494 t495).bind fun t507 => (if (t507 == (t498 == 0)) = true then ((impl_Relate.f kj3 18 t490 t491 t492 t493 t494 t495).bind fun t508 => (if (t508 == (t498 != 0)) = true then ((spec_Compare.f kj3 t490 t491 t492 t493 t494 t495).bind fun t509 => (if t498 = t509 then ((laws_cells.f kj3).bind fun t510 => (some t510)) else (some false))) else (some false))) else (some false))) else (some false)) = some true := H
              have A39 := Aside0.mk A390
              clear A390
              by_cases c40 : (t506 == (decide (t498 ≤ 0))) = true
              · rw [if_pos c40] at H
                have c40b0 : (t506 == (decide (t498 ≤ 0))) = true := c40
                (try (have c40b1 : decide (t506 = (decide (t498 ≤ 0))) = true := by simpa using c40))
                (try (have c40b2 : (t506 == (decide (t498 ≤ 0))) = true := by simpa using c40))
                clear c40
                replace H := Option.bind_eq_some_iff.mp H
                obtain ⟨t507, A410, H⟩ := H
                replace H : (if (t507 == (t498 == 0)) = true then ((impl_Relate.f kj3 18 t490 t491 t492 t493 t494 t495).bind fun t508 => (if (t508 == (t498 != 0)) = true then ((spec_Compare.f kj3 t490 t491 t492 t493 t494 t495).bind fun t509 => (if t498 = t509 then ((laws_cells.f kj3).bind fun t510 => (some t510)) else (some false))) else (some false))) else (some false)) = some true := H
                have A41 := Aside0.mk A410
                clear A410
                by_cases c42 : (t507 == (t498 == 0)) = true
                · rw [if_pos c42] at H
                  have c42b0 : (t507 == (t498 == 0)) = true := c42
                  (try (have c42b1 : decide (t507 = (t498 == 0)) = true := by simpa using c42))
                  (try (have c42b2 : (t507 == (t498 == 0)) = true := by simpa using c42))
                  clear c42
                  replace H := Option.bind_eq_some_iff.mp H
                  obtain ⟨t508, A430, H⟩ := H
                  replace H : (if (t508 == (t498 != 0)) = true then ((spec_Compare.f kj3 t490 t491 t492 t493 t494 t495).bind fun t509 => (if t498 = t509 then ((laws_cells.f kj3).bind fun t510 => (some t510)) else (some false))) else (some false)) = some true := H
                  have A43 := Aside0.mk A430
                  clear A430
                  by_cases c44 : (t508 == (t498 != 0)) = true
                  · rw [if_pos c44] at H
                    have c44b0 : (t508 == (t498 != 0)) = true := c44
                    (try (have c44b1 : decide (t508 = (t498 != 0)) = true := by simpa using c44))
                    (try (have c44b2 : (t508 == (t498 != 0)) = true := by simpa using c44))
                    clear c44
                    replace H := Option.bind_eq_some_iff.mp H
                    obtain ⟨t509, A450, H⟩ := H
                    replace H : (if t498 = t509 then ((laws_cells.f kj3).bind fun t510 => (some t510)) else (some false)) = some true := H
                    have A45 := Aside0.mk A450
                    clear A450
                    by_cases c46 : t498 = t509
                    · rw [if_pos c46] at H
                      have c46b0 : (t498 == t509) = true := beq_iff_eq.mpr c46
                      have c46b1 : (t498 != t509) = false := bne_eq_false_iff_eq.mpr c46
                      clear c46
                      replace H := Option.bind_eq_some_iff.mp H
                      obtain ⟨t510, A470, H⟩ := H
                      replace H : (some t510) = some true := H
                      have A47 := Aside0.mk A470
                      clear A470
                      have HOR_ := Aside0.mk (Option.some.inj H)
                      clear H
                      have hnb48 := NB497_496.out
                      have hnc48 := NB496_497.out
                      have hcz49_0 : wc.cell? ⟨gb497, 0, none⟩ = some (.int .i64 t493) := (blk_cell BK497.out 0).trans rfl
                      have hcz49_1 : wc.cell? ⟨gb497, 1, none⟩ = some (.int .i64 t494) := (blk_cell BK497.out 1).trans rfl
                      have hcz49_2 : wc.cell? ⟨gb497, 2, none⟩ = some (.string t495) := (blk_cell BK497.out 2).trans rfl
                      have hfz49_0 := blk_frozen BK497.out 0
                      have hfz49_1 := blk_frozen BK497.out 1
                      have hfz49_2 := blk_frozen BK497.out 2
                      have hcz50_0 : wc.cell? ⟨gb496, 0, none⟩ = some (.int .i64 t490) := (blk_cell BK496.out 0).trans rfl
                      have hcz50_1 : wc.cell? ⟨gb496, 1, none⟩ = some (.int .i64 t491) := (blk_cell BK496.out 1).trans rfl
                      have hcz50_2 : wc.cell? ⟨gb496, 2, none⟩ = some (.string t492) := (blk_cell BK496.out 2).trans rfl
                      have hfz50_0 := blk_frozen BK496.out 0
                      have hfz50_1 := blk_frozen BK496.out 1
                      have hfz50_2 := blk_frozen BK496.out 2
                      go_wp2_with (first | ((with_reducible refine gate_callee (f := 13) rfl ?_); refine goesL_ (some 36) rfl rfl Tryd.func13 (by kernel_rfl) rfl #[.agg #[.int .i64 t493, .int .i64 t494, .string t495], .agg #[.int .i64 t490, .int .i64 t491, .string t492]] rfl (by (try simp only [List.map_toArray, List.map_cons, List.map_nil]); first | done | rfl | (simp only [List.length_drop, List.length_take]; rfl)) ?_; (with_reducible refine (impl_Compare.calls kj3 t493 t494 t495 t490 t491 t492 t503 _ A33.out).mono ?_); rintro e w51 ⟨rfl, hb⟩; refine ⟨_, rfl, ?_⟩; have n0_ := Aside0.mk (blk_below (g := gb496) (o := .cells #[.int .i64 t490, .int .i64 t491, .string t492] 26 (0, 0)) (by (with_reducible repeat (first | refine blk_drewN ?_ _ | refine blk_drew ?_ | refine blk_alloc ?_ _)); exact BK496.out) hb); have n1_ := Aside0.mk (blk_below (g := gb497) (o := .cells #[.int .i64 t493, .int .i64 t494, .string t495] 26 (0, 0)) (by (with_reducible repeat (first | refine blk_drewN ?_ _ | refine blk_drew ?_ | refine blk_alloc ?_ _)); exact BK497.out) hb); have n2_ := Aside0.mk (below_step (by repeat (first | (with_reducible first | exact HB.out | apply below_alloc | apply pw_below_drewN | apply below_drew1 | refine below_set ?_ GE496.out | refine below_set ?_ GE497.out) | exact HB.out)) hb); clear BK496; clear BK497; clear HB; have BK496 := n0_; have BK497 := n1_; have HB := n2_; clear n0_ n1_ n2_; (try clear hb); (try clear hb2); (try clear hk); (try clear hi); have hcz52_0 : w51.cell? ⟨gb496, 0, none⟩ = some (.int .i64 t490) := (blk_cell BK496.out 0).trans rfl; have hcz52_1 : w51.cell? ⟨gb496, 1, none⟩ = some (.int .i64 t491) := (blk_cell BK496.out 1).trans rfl; have hcz52_2 : w51.cell? ⟨gb496, 2, none⟩ = some (.string t492) := (blk_cell BK496.out 2).trans rfl; have hfz52_0 := blk_frozen BK496.out 0; have hfz52_1 := blk_frozen BK496.out 1; have hfz52_2 := blk_frozen BK496.out 2) | (go_at_call 13; (with_reducible refine (impl_Compare.calls kj3 t490 t491 t492 t490 t491 t492 t504 _ A35.out).mono ?_); rintro e w53 ⟨rfl, hb⟩; have n0_ := Aside0.mk (blk_below (g := gb496) (o := .cells #[.int .i64 t490, .int .i64 t491, .string t492] 26 (0, 0)) (by (with_reducible repeat (first | refine blk_drewN ?_ _ | refine blk_drew ?_ | refine blk_alloc ?_ _)); exact BK496.out) hb); have n1_ := Aside0.mk (blk_below (g := gb497) (o := .cells #[.int .i64 t493, .int .i64 t494, .string t495] 26 (0, 0)) (by (with_reducible repeat (first | refine blk_drewN ?_ _ | refine blk_drew ?_ | refine blk_alloc ?_ _)); exact BK497.out) hb); have n2_ := Aside0.mk (below_step (by repeat (first | (with_reducible first | exact HB.out | apply below_alloc | apply pw_below_drewN | apply below_drew1 | refine below_set ?_ GE496.out | refine below_set ?_ GE497.out) | exact HB.out)) hb); clear BK496; clear BK497; clear HB; have BK496 := n0_; have BK497 := n1_; have HB := n2_; clear n0_ n1_ n2_; (try clear hb); (try clear hb2); (try clear hk); (try clear hi); have hcz54_0 : w53.cell? ⟨gb496, 0, none⟩ = some (.int .i64 t490) := (blk_cell BK496.out 0).trans rfl; have hcz54_1 : w53.cell? ⟨gb496, 1, none⟩ = some (.int .i64 t491) := (blk_cell BK496.out 1).trans rfl; have hcz54_2 : w53.cell? ⟨gb496, 2, none⟩ = some (.string t492) := (blk_cell BK496.out 2).trans rfl; have hfz54_0 := blk_frozen BK496.out 0; have hfz54_1 := blk_frozen BK496.out 1; have hfz54_2 := blk_frozen BK496.out 2; have hcz55_0 : w53.cell? ⟨gb497, 0, none⟩ = some (.int .i64 t493) := (blk_cell BK497.out 0).trans rfl; have hcz55_1 : w53.cell? ⟨gb497, 1, none⟩ = some (.int .i64 t494) := (blk_cell BK497.out 1).trans rfl; have hcz55_2 : w53.cell? ⟨gb497, 2, none⟩ = some (.string t495) := (blk_cell BK497.out 2).trans rfl; have hfz55_0 := blk_frozen BK497.out 0; have hfz55_1 := blk_frozen BK497.out 1; have hfz55_2 := blk_frozen BK497.out 2) | (go_at_call 15; (with_reducible refine (impl_Relate.calls kj3 15 t490 t491 t492 t493 t494 t495 t505 _ A37.out).mono ?_); rintro e w56 ⟨rfl, hb⟩; have n0_ := Aside0.mk (blk_below (g := gb496) (o := .cells #[.int .i64 t490, .int .i64 t491, .string t492] 26 (0, 0)) (by (with_reducible repeat (first | refine blk_drewN ?_ _ | refine blk_drew ?_ | refine blk_alloc ?_ _)); exact BK496.out) hb); have n1_ := Aside0.mk (blk_below (g := gb497) (o := .cells #[.int .i64 t493, .int .i64 t494, .string t495] 26 (0, 0)) (by (with_reducible repeat (first | refine blk_drewN ?_ _ | refine blk_drew ?_ | refine blk_alloc ?_ _)); exact BK497.out) hb); have n2_ := Aside0.mk (below_step (by repeat (first | (with_reducible first | exact HB.out | apply below_alloc | apply pw_below_drewN | apply below_drew1 | refine below_set ?_ GE496.out | refine below_set ?_ GE497.out) | exact HB.out)) hb); clear BK496; clear BK497; clear HB; have BK496 := n0_; have BK497 := n1_; have HB := n2_; clear n0_ n1_ n2_; (try clear hb); (try clear hb2); (try clear hk); (try clear hi); have hcz57_0 : w56.cell? ⟨gb496, 0, none⟩ = some (.int .i64 t490) := (blk_cell BK496.out 0).trans rfl; have hcz57_1 : w56.cell? ⟨gb496, 1, none⟩ = some (.int .i64 t491) := (blk_cell BK496.out 1).trans rfl; have hcz57_2 : w56.cell? ⟨gb496, 2, none⟩ = some (.string t492) := (blk_cell BK496.out 2).trans rfl; have hfz57_0 := blk_frozen BK496.out 0; have hfz57_1 := blk_frozen BK496.out 1; have hfz57_2 := blk_frozen BK496.out 2; have hcz58_0 : w56.cell? ⟨gb497, 0, none⟩ = some (.int .i64 t493) := (blk_cell BK497.out 0).trans rfl; have hcz58_1 : w56.cell? ⟨gb497, 1, none⟩ = some (.int .i64 t494) := (blk_cell BK497.out 1).trans rfl; have hcz58_2 : w56.cell? ⟨gb497, 2, none⟩ = some (.string t495) := (blk_cell BK497.out 2).trans rfl; have hfz58_0 := blk_frozen BK497.out 0; have hfz58_1 := blk_frozen BK497.out 1; have hfz58_2 := blk_frozen BK497.out 2) | (go_at_call 15; (with_reducible refine (impl_Relate.calls kj3 16 t490 t491 t492 t493 t494 t495 t506 _ A39.out).mono ?_); rintro e w59 ⟨rfl, hb⟩; have n0_ := Aside0.mk (blk_below (g := gb496) (o := .cells #[.int .i64 t490, .int .i64 t491, .string t492] 26 (0, 0)) (by (with_reducible repeat (first | refine blk_drewN ?_ _ | refine blk_drew ?_ | refine blk_alloc ?_ _)); exact BK496.out) hb); have n1_ := Aside0.mk (blk_below (g := gb497) (o := .cells #[.int .i64 t493, .int .i64 t494, .string t495] 26 (0, 0)) (by (with_reducible repeat (first | refine blk_drewN ?_ _ | refine blk_drew ?_ | refine blk_alloc ?_ _)); exact BK497.out) hb); have n2_ := Aside0.mk (below_step (by repeat (first | (with_reducible first | exact HB.out | apply below_alloc | apply pw_below_drewN | apply below_drew1 | refine below_set ?_ GE496.out | refine below_set ?_ GE497.out) | exact HB.out)) hb); clear BK496; clear BK497; clear HB; have BK496 := n0_; have BK497 := n1_; have HB := n2_; clear n0_ n1_ n2_; (try clear hb); (try clear hb2); (try clear hk); (try clear hi); have hcz60_0 : w59.cell? ⟨gb496, 0, none⟩ = some (.int .i64 t490) := (blk_cell BK496.out 0).trans rfl; have hcz60_1 : w59.cell? ⟨gb496, 1, none⟩ = some (.int .i64 t491) := (blk_cell BK496.out 1).trans rfl; have hcz60_2 : w59.cell? ⟨gb496, 2, none⟩ = some (.string t492) := (blk_cell BK496.out 2).trans rfl; have hfz60_0 := blk_frozen BK496.out 0; have hfz60_1 := blk_frozen BK496.out 1; have hfz60_2 := blk_frozen BK496.out 2; have hcz61_0 : w59.cell? ⟨gb497, 0, none⟩ = some (.int .i64 t493) := (blk_cell BK497.out 0).trans rfl; have hcz61_1 : w59.cell? ⟨gb497, 1, none⟩ = some (.int .i64 t494) := (blk_cell BK497.out 1).trans rfl; have hcz61_2 : w59.cell? ⟨gb497, 2, none⟩ = some (.string t495) := (blk_cell BK497.out 2).trans rfl; have hfz61_0 := blk_frozen BK497.out 0; have hfz61_1 := blk_frozen BK497.out 1; have hfz61_2 := blk_frozen BK497.out 2) | (go_at_call 15; (with_reducible refine (impl_Relate.calls kj3 17 t490 t491 t492 t493 t494 t495 t507 _ A41.out).mono ?_); rintro e w62 ⟨rfl, hb⟩; have n0_ := Aside0.mk (blk_below (g := gb496) (o := .cells #[.int .i64 t490, .int .i64 t491, .string t492] 26 (0, 0)) (by (with_reducible repeat (first | refine blk_drewN ?_ _ | refine blk_drew ?_ | refine blk_alloc ?_ _)); exact BK496.out) hb); have n1_ := Aside0.mk (blk_below (g := gb497) (o := .cells #[.int .i64 t493, .int .i64 t494, .string t495] 26 (0, 0)) (by (with_reducible repeat (first | refine blk_drewN ?_ _ | refine blk_drew ?_ | refine blk_alloc ?_ _)); exact BK497.out) hb); have n2_ := Aside0.mk (below_step (by repeat (first | (with_reducible first | exact HB.out | apply below_alloc | apply pw_below_drewN | apply below_drew1 | refine below_set ?_ GE496.out | refine below_set ?_ GE497.out) | exact HB.out)) hb); clear BK496; clear BK497; clear HB; have BK496 := n0_; have BK497 := n1_; have HB := n2_; clear n0_ n1_ n2_; (try clear hb); (try clear hb2); (try clear hk); (try clear hi); have hcz63_0 : w62.cell? ⟨gb496, 0, none⟩ = some (.int .i64 t490) := (blk_cell BK496.out 0).trans rfl; have hcz63_1 : w62.cell? ⟨gb496, 1, none⟩ = some (.int .i64 t491) := (blk_cell BK496.out 1).trans rfl; have hcz63_2 : w62.cell? ⟨gb496, 2, none⟩ = some (.string t492) := (blk_cell BK496.out 2).trans rfl; have hfz63_0 := blk_frozen BK496.out 0; have hfz63_1 := blk_frozen BK496.out 1; have hfz63_2 := blk_frozen BK496.out 2; have hcz64_0 : w62.cell? ⟨gb497, 0, none⟩ = some (.int .i64 t493) := (blk_cell BK497.out 0).trans rfl; have hcz64_1 : w62.cell? ⟨gb497, 1, none⟩ = some (.int .i64 t494) := (blk_cell BK497.out 1).trans rfl; have hcz64_2 : w62.cell? ⟨gb497, 2, none⟩ = some (.string t495) := (blk_cell BK497.out 2).trans rfl; have hfz64_0 := blk_frozen BK497.out 0; have hfz64_1 := blk_frozen BK497.out 1; have hfz64_2 := blk_frozen BK497.out 2) | (go_at_call 15; (with_reducible refine (impl_Relate.calls kj3 18 t490 t491 t492 t493 t494 t495 t508 _ A43.out).mono ?_); rintro e w65 ⟨rfl, hb⟩; have n0_ := Aside0.mk (blk_below (g := gb496) (o := .cells #[.int .i64 t490, .int .i64 t491, .string t492] 26 (0, 0)) (by (with_reducible repeat (first | refine blk_drewN ?_ _ | refine blk_drew ?_ | refine blk_alloc ?_ _)); exact BK496.out) hb); have n1_ := Aside0.mk (blk_below (g := gb497) (o := .cells #[.int .i64 t493, .int .i64 t494, .string t495] 26 (0, 0)) (by (with_reducible repeat (first | refine blk_drewN ?_ _ | refine blk_drew ?_ | refine blk_alloc ?_ _)); exact BK497.out) hb); have n2_ := Aside0.mk (below_step (by repeat (first | (with_reducible first | exact HB.out | apply below_alloc | apply pw_below_drewN | apply below_drew1 | refine below_set ?_ GE496.out | refine below_set ?_ GE497.out) | exact HB.out)) hb); clear BK496; clear BK497; clear HB; have BK496 := n0_; have BK497 := n1_; have HB := n2_; clear n0_ n1_ n2_; (try clear hb); (try clear hb2); (try clear hk); (try clear hi); have hcz66_0 : w65.cell? ⟨gb496, 0, none⟩ = some (.int .i64 t490) := (blk_cell BK496.out 0).trans rfl; have hcz66_1 : w65.cell? ⟨gb496, 1, none⟩ = some (.int .i64 t491) := (blk_cell BK496.out 1).trans rfl; have hcz66_2 : w65.cell? ⟨gb496, 2, none⟩ = some (.string t492) := (blk_cell BK496.out 2).trans rfl; have hfz66_0 := blk_frozen BK496.out 0; have hfz66_1 := blk_frozen BK496.out 1; have hfz66_2 := blk_frozen BK496.out 2; have hcz67_0 : w65.cell? ⟨gb497, 0, none⟩ = some (.int .i64 t493) := (blk_cell BK497.out 0).trans rfl; have hcz67_1 : w65.cell? ⟨gb497, 1, none⟩ = some (.int .i64 t494) := (blk_cell BK497.out 1).trans rfl; have hcz67_2 : w65.cell? ⟨gb497, 2, none⟩ = some (.string t495) := (blk_cell BK497.out 2).trans rfl; have hfz67_0 := blk_frozen BK497.out 0; have hfz67_1 := blk_frozen BK497.out 1; have hfz67_2 := blk_frozen BK497.out 2) | (go_at_call 11; (with_reducible refine (spec_Compare.calls kj3 t490 t491 t492 t493 t494 t495 t509 _ A45.out).mono ?_); rintro e w68 ⟨rfl, hb⟩; have n0_ := Aside0.mk (blk_below (g := gb496) (o := .cells #[.int .i64 t490, .int .i64 t491, .string t492] 26 (0, 0)) (by (with_reducible repeat (first | refine blk_drewN ?_ _ | refine blk_drew ?_ | refine blk_alloc ?_ _)); exact BK496.out) hb); have n1_ := Aside0.mk (blk_below (g := gb497) (o := .cells #[.int .i64 t493, .int .i64 t494, .string t495] 26 (0, 0)) (by (with_reducible repeat (first | refine blk_drewN ?_ _ | refine blk_drew ?_ | refine blk_alloc ?_ _)); exact BK497.out) hb); have n2_ := Aside0.mk (below_step (by repeat (first | (with_reducible first | exact HB.out | apply below_alloc | apply pw_below_drewN | apply below_drew1 | refine below_set ?_ GE496.out | refine below_set ?_ GE497.out) | exact HB.out)) hb); clear BK496; clear BK497; clear HB; have BK496 := n0_; have BK497 := n1_; have HB := n2_; clear n0_ n1_ n2_; (try clear hb); (try clear hb2); (try clear hk); (try clear hi)) | (go_at_call 18; (with_reducible refine (laws_cells.calls kj3  t510 _ A47.out).mono ?_); rintro e w69 ⟨rfl, hb⟩; have n0_ := Aside0.mk (blk_below (g := gb496) (o := .cells #[.int .i64 t490, .int .i64 t491, .string t492] 26 (0, 0)) (by (with_reducible repeat (first | refine blk_drewN ?_ _ | refine blk_drew ?_ | refine blk_alloc ?_ _)); exact BK496.out) hb); have n1_ := Aside0.mk (blk_below (g := gb497) (o := .cells #[.int .i64 t493, .int .i64 t494, .string t495] 26 (0, 0)) (by (with_reducible repeat (first | refine blk_drewN ?_ _ | refine blk_drew ?_ | refine blk_alloc ?_ _)); exact BK497.out) hb); have n2_ := Aside0.mk (below_step (by repeat (first | (with_reducible first | exact HB.out | apply below_alloc | apply pw_below_drewN | apply below_drew1 | refine below_set ?_ GE496.out | refine below_set ?_ GE497.out) | exact HB.out)) hb); clear BK496; clear BK497; clear HB; have BK496 := n0_; have BK497 := n1_; have HB := n2_; clear n0_ n1_ n2_; (try clear hb); (try clear hb2); (try clear hk); (try clear hi)))
                      go_ret
                      exact ⟨by first | rfl | (rw [HOR_.out]; done) | (rw [HOR_.out]; rfl) | (simp [HOR_.out]; done) | (have h_ := HOR_.out; simp at h_; subst h_; first | rfl | (simp; done)) | (have h_ := HOR_.out; simp at h_ ⊢; exact h_) | (simp [errW_none, errW_some] <;> rfl) | (simp [*, errW_none, errW_some] <;> rfl), by repeat (first | (with_reducible first | exact HB.out | apply below_alloc | apply pw_below_drewN | apply below_drew1 | refine below_set ?_ GE496.out | refine below_set ?_ GE497.out) | exact HB.out)⟩
                    · rw [if_neg c46] at H
                      have c46b0 : (t498 == t509) = false := beq_eq_false_iff_ne.mpr c46
                      have c46b1 : (t498 != t509) = true := bne_iff_ne.mpr c46
                      exact absurd H (by simp)
                  · rw [if_neg c44] at H
                    have c44b0 : (t508 == (t498 != 0)) = false := by simpa using c44
                    (try (have c44b1 : decide (t508 = (t498 != 0)) = false := by simpa using c44))
                    (try (have c44b2 : (t508 == (t498 != 0)) = false := by simpa using c44))
                    (try (have c44b3 : ¬ (t508 = (t498 != 0)) := by simpa using c44))
                    clear c44
                    exact absurd H (by simp)
                · rw [if_neg c42] at H
                  have c42b0 : (t507 == (t498 == 0)) = false := by simpa using c42
                  (try (have c42b1 : decide (t507 = (t498 == 0)) = false := by simpa using c42))
                  (try (have c42b2 : (t507 == (t498 == 0)) = false := by simpa using c42))
                  (try (have c42b3 : ¬ (t507 = (t498 == 0)) := by simpa using c42))
                  clear c42
                  exact absurd H (by simp)
              · rw [if_neg c40] at H
                have c40b0 : (t506 == (decide (t498 ≤ 0))) = false := by simpa using c40
                (try (have c40b1 : decide (t506 = (decide (t498 ≤ 0))) = false := by simpa using c40))
                (try (have c40b2 : (t506 == (decide (t498 ≤ 0))) = false := by simpa using c40))
                (try (have c40b3 : ¬ (t506 = (decide (t498 ≤ 0))) := by simpa using c40))
                clear c40
                exact absurd H (by simp)
            · rw [if_neg c38] at H
              have c38b0 : (t505 == (decide (t498 < 0))) = false := by simpa using c38
              (try (have c38b1 : decide (t505 = (decide (t498 < 0))) = false := by simpa using c38))
              (try (have c38b2 : (t505 == (decide (t498 < 0))) = false := by simpa using c38))
              (try (have c38b3 : ¬ (t505 = (decide (t498 < 0))) := by simpa using c38))
              clear c38
              exact absurd H (by simp)
          · rw [if_neg c36] at H
            have c36b0 : (t504 == 0) = false := beq_eq_false_iff_ne.mpr c36
            have c36b1 : (t504 != 0) = true := bne_iff_ne.mpr c36
            exact absurd H (by simp)
        · rw [if_neg c34] at H
          have c34b0 : (t498 == (wrap64 (-t503))) = false := beq_eq_false_iff_ne.mpr c34
          have c34b1 : (t498 != (wrap64 (-t503))) = true := bne_iff_ne.mpr c34
          exact absurd H (by simp)
/-- THE ONE PURE STATEMENT of laws_FnCompares: yours. -/
def laws_FnCompares.Pure : Prop := ∀ (l0 : List Int), l0.length ≤ maxLen → l0.length * 1 ≤ 140737488351232 → (∀ x ∈ l0, (Lit.int .u8 x).wf = true) → ∃ k, laws_FnCompares.f k l0 = some true
end Go.Proofs.YtnfiljnncpieoaaDoor.Q
namespace Go.Proofs.YtnfiljnncpieoaaDoor.Pure
open Go Go.RowKit Go.Proofs.YtnfiljnncpieoaaDoor.Q Go.Proofs.YtnfiljnncpieoaaDoorW.PrintWords Go.Proofs.YtnfiljnncpieoaaDoorW.PrintLast Go.Proofs.YtnfiljnncpieoaaDoorW.PrintMore
theorem and255 (x : Int) : 0 ≤ Go.bits .and .i64 x 255 ∧ Go.bits .and .i64 x 255 ≤ 255 := by
  have h : ((BitVec.ofInt 64 x) &&& (BitVec.ofInt 64 255)).toNat ≤ 255 := by
    rw [BitVec.toNat_and]
    exact Nat.and_le_right
  have e : Go.bits .and .i64 x 255 = IntKind.i64.wrap (((BitVec.ofInt 64 x) &&& (BitVec.ofInt 64 255)).toNat : Int) := rfl
  rw [e, IntKind.wrap_i64]
  omega
/-- One byte of the cursor. -/
theorem l1Byte_some (b : List Int) (i h : Int) (hi : 0 ≤ i) (hb : b.length ≤ 9223372036854775807) : ∃ r i' h', spec_l1Byte.f b i h = some (r, i', h') ∧ 0 ≤ i' ∧ 0 ≤ r ∧ r ≤ 255 := by
  unfold spec_l1Byte.f
  by_cases h1 : i < (b.length : Int)
  · rw [if_pos h1, if_pos hi]
    refine ⟨_, _, _, rfl, ?_, and255 _⟩
    unfold wrap64; omega
  · rw [if_neg h1]
    exact ⟨_, _, _, rfl, hi, and255 _⟩
/-- A number below n. -/
theorem l1Below_some (b : List Int) (i h n : Int) (hi : 0 ≤ i) (hb : b.length ≤ 9223372036854775807) : ∃ r i' h', spec_l1Below.f b i h n = some (r, i', h') ∧ 0 ≤ i' ∧ (n ≤ 0 → r = 0) ∧ (0 < n → n ≤ 256 → 0 ≤ r ∧ r < n) := by
  unfold spec_l1Below.f
  by_cases h0 : n ≤ 0
  · rw [if_pos h0]
    exact ⟨_, _, _, rfl, hi, fun _ => rfl, fun h => by omega⟩
  rw [if_neg h0]
  by_cases h1 : n ≤ 256
  · rw [if_pos h1]
    obtain ⟨r, i', h', e, hi', hr⟩ := l1Byte_some b i h hi hb
    rw [e, Option.bind_some, if_neg (by omega)]
    refine ⟨_, _, _, rfl, hi', fun h => by omega, fun _ _ => ?_⟩
    show 0 ≤ Int.tmod r n ∧ Int.tmod r n < n
    exact ⟨Int.tmod_nonneg _ hr.1, Int.tmod_lt_of_pos _ (by omega)⟩
  · rw [if_neg h1]
    obtain ⟨r1, i1, h1', e1, hi1, _⟩ := l1Byte_some b i h hi hb
    obtain ⟨r2, i2, h2', e2, hi2, _⟩ := l1Byte_some b i1 h1' hi1 hb
    obtain ⟨r3, i3, h3', e3, hi3, _⟩ := l1Byte_some b i2 h2' hi2 hb
    obtain ⟨r4, i4, h4', e4, hi4, _⟩ := l1Byte_some b i3 h3' hi3 hb
    rw [e1, Option.bind_some]
    dsimp only
    rw [e2, Option.bind_some]
    dsimp only
    rw [e3, Option.bind_some]
    dsimp only
    rw [e4, Option.bind_some, if_neg (by omega)]
    exact ⟨_, _, _, rfl, hi4, fun h => by omega, fun h h' => by omega⟩
theorem l1PickInt_some (b : List Int) (i h : Int) (l : List Int) (hi : 0 ≤ i) (hb : b.length ≤ 9223372036854775807) (hl : 0 < l.length) (hl2 : l.length ≤ 256) : ∃ r i' h', spec_l1PickInt.f b i h l = some (r, i', h') ∧ 0 ≤ i' ∧ r ∈ l := by
  unfold spec_l1PickInt.f
  obtain ⟨r, i', h', e, hi', _, hr⟩ := l1Below_some b i h (l.length : Int) hi hb
  obtain ⟨h1, h2⟩ := hr (by omega) (by omega)
  rw [e, Option.bind_some]
  dsimp only
  rw [if_pos h1, if_pos h2]
  refine ⟨_, _, _, rfl, hi', ?_⟩
  unfold rd
  rw [List.getD_eq_getElem?_getD, List.getElem?_eq_getElem (by omega)]
  exact List.getElem_mem _
theorem l1num_some (b : List Int) (i h : Int) (hi : 0 ≤ i) (hb : b.length ≤ 9223372036854775807) : ∃ r i' h', spec_l1num.f b i h = some (r, i', h') ∧ 0 ≤ i' ∧ -9223372036854775808 ≤ r ∧ r ≤ 9223372036854775807 := by
  have hw : ∀ x : Int, -9223372036854775808 ≤ wrap64 x ∧ wrap64 x ≤ 9223372036854775807 := fun x => by unfold wrap64; omega
  unfold spec_l1num.f
  obtain ⟨r, i1, h1, e, hi1, _⟩ := l1Below_some b i h 4 hi hb
  rw [e, Option.bind_some]
  dsimp only
  by_cases c0 : r = 0
  · rw [if_pos c0]
    obtain ⟨r2, i2, h2, e2, hi2, hm⟩ := l1PickInt_some b i1 h1 [0, 1, (-1), 1000000, (-1000000), 9000000000000, (-9000000000000), 9000000000001, (-9000000000001), 500000, 4611686018427387904, 3000000] hi1 hb (by simp) (by simp)
    rw [e2, Option.bind_some]
    refine ⟨_, _, _, rfl, hi2, ?_⟩
    simp only [List.mem_cons, List.mem_nil_iff, or_false] at hm
    dsimp only
    omega
  rw [if_neg c0]
  by_cases c1 : r = 1
  · rw [if_pos c1]
    obtain ⟨r2, i2, h2, e2, hi2, _⟩ := l1Below_some b i1 h1 4294967296 hi1 hb
    rw [e2, Option.bind_some]
    exact ⟨_, _, _, rfl, hi2, hw _⟩
  · rw [if_neg c1]
    obtain ⟨r2, i2, h2, e2, hi2, _⟩ := l1Below_some b i1 h1 30 hi1 hb
    rw [e2, Option.bind_some]
    dsimp only
    obtain ⟨r3, i3, h3, e3, hi3, _⟩ := l1PickInt_some b i2 h2 [0, 0, 500000, 250000, 1] hi2 hb (by simp) (by simp)
    rw [e3, Option.bind_some]
    exact ⟨_, _, _, rfl, hi3, hw _⟩
theorem l1New_l0 (l : List Int) (hl : l.length ≤ 9223372036854775807) (d : Nat) : ∀ (i k : Nat) (h : Int), i ≤ l.length → l.length - i = d → d < k → ∃ h', spec_l1New.l0 k l h i = some (l, 0, h') := by
  induction d with
  | zero =>
    intro i k h hi hd hk
    obtain ⟨k, rfl⟩ : ∃ m, k = m + 1 := ⟨k - 1, by omega⟩
    simp only [spec_l1New.l0]; rw [if_neg (by omega)]
    exact ⟨_, rfl⟩
  | succ d ih =>
    intro i k h hi hd hk
    obtain ⟨k, rfl⟩ : ∃ m, k = m + 1 := ⟨k - 1, by omega⟩
    simp only [spec_l1New.l0]
    rw [if_pos (by omega)]
    by_cases c : (i : Int) < 4000
    · rw [if_pos c, if_pos (by omega)]
      have e : wrap64 ((i : Int) + 1) = ((i + 1 : Nat) : Int) := by unfold wrap64; omega
      rw [e]
      exact ih (i + 1) k _ (by omega) (by omega) (by omega)
    · rw [if_neg c]
      exact ⟨_, rfl⟩
theorem l1New_some (l : List Int) (hl : l.length ≤ 9223372036854775807) (k : Nat) (hk : l.length < k) : ∃ h, spec_l1New.f k l = some (l, 0, h) := by
  unfold spec_l1New.f
  exact l1New_l0 l hl l.length 0 k _ (by omega) (by omega) hk
/-- The number that a list of bytes writes, behind a number already read. -/
def valFrom (n : Int) (l : List Int) : Int := l.foldl (fun n c => n * 10 + (c - 48) % 256) n
theorem valFrom_nonneg (l : List Int) : ∀ n : Int, 0 ≤ n → 0 ≤ valFrom n l := by
  induction l with
  | nil => intro n h; exact h
  | cons c l ih => intro n h; exact ih _ (show 0 ≤ n * 10 + (c - 48) % 256 by omega)
/-- The ceiling at each digit. -/
theorem numFold (l : List Int) : ∀ n : Int, 0 ≤ n → l.foldl numStep (mn n 9000000000001) = mn (valFrom n l) 9000000000001 := by
  induction l with
  | nil => intro n _; rfl
  | cons c l ih =>
    intro n h
    have e : numStep (mn n 9000000000001) c = mn (n * 10 + (c - 48) % 256) 9000000000001 := by
      unfold numStep mn; omega
    show l.foldl numStep (numStep (mn n 9000000000001) c) = _
    rw [e]
    exact ih _ (by omega)
/-- The model's step on a whole digit: a million times the digit, and the ceiling behind it. -/
def wholeStep (n : Int) (c : Int) : Int := if n * 10 + (c - 48) % 256 * 1000000 > 9000000000000 then 9000000000001 else n * 10 + (c - 48) % 256 * 1000000
theorem wholeFold (l : List Int) : ∀ n : Int, 0 ≤ n → l.foldl wholeStep (mn (n * 1000000) 9000000000001) = mn (valFrom n l * 1000000) 9000000000001 := by
  induction l with
  | nil => intro n _; rfl
  | cons c l ih =>
    intro n h
    have e : wholeStep (mn (n * 1000000) 9000000000001) c = mn ((n * 10 + (c - 48) % 256) * 1000000) 9000000000001 := by
      unfold wholeStep mn; omega
    show l.foldl wholeStep (wholeStep (mn (n * 1000000) 9000000000001) c) = _
    rw [e]
    exact ih _ (by omega)
/-- The digits behind the point: each a tenth of the one before, as far as there are tenths. -/
def partSum : Int → List Int → Int
  | _, [] => 0
  | u, c :: l => (c - 48) % 256 * u + partSum (u / 10) l
theorem partSum_zero (l : List Int) : partSum 0 l = 0 := by
  induction l with
  | nil => rfl
  | cons c l ih => show (c - 48) % 256 * 0 + partSum (0 / 10) l = 0; rw [show (0 : Int) / 10 = 0 from rfl, ih]; omega
/-- Six digits, filled up with noughts, are the sum of the tenths. -/
theorem partSum_six (l : List Int) : partSum 100000 l = valFrom 0 ((l ++ [48, 48, 48, 48, 48, 48]).take 6) := by
  match l with
  | [] => decide
  | [a] => simp [partSum, valFrom]; omega
  | [a, b] => simp [partSum, valFrom]; omega
  | [a, b, c] => simp [partSum, valFrom]; omega
  | [a, b, c, d] => simp [partSum, valFrom]; omega
  | [a, b, c, d, e] => simp [partSum, valFrom]; omega
  | a :: b :: c :: d :: e :: f :: l =>
    have z := partSum_zero l
    simp [partSum, valFrom, z]; omega
theorem valFrom_append (n : Int) (l m : List Int) : valFrom n (l ++ m) = valFrom (valFrom n l) m := List.foldl_append ..
theorem valFrom_shift (m : List Int) : ∀ n : Int, valFrom n m = n * 10 ^ m.length + valFrom 0 m := by
  induction m with
  | nil => intro n; simp [valFrom]
  | cons c m ih =>
    intro n
    show valFrom (n * 10 + (c - 48) % 256) m = n * 10 ^ (m.length + 1) + valFrom (0 * 10 + (c - 48) % 256) m
    rw [ih, ih (0 * 10 + (c - 48) % 256)]
    rw [show (10 : Int) ^ (m.length + 1) = 10 ^ m.length * 10 from Int.pow_succ ..]
    grind
/-- Both ways read the same number. -/
theorem both_ways (w p : List Int) : mn (mn (valFrom 0 w * 1000000) 9000000000001 + partSum 100000 p) 9000000000000 = mn (mn (valFrom 0 (w ++ (p ++ [48, 48, 48, 48, 48, 48]).take 6)) 9000000000001) 9000000000000 := by
  have hl : ((p ++ [48, 48, 48, 48, 48, 48]).take 6).length = 6 := by simp
  have e1 := valFrom_shift (List.take 6 (p ++ [48, 48, 48, 48, 48, 48])) (valFrom 0 w)
  rw [valFrom_append, e1, hl, ← partSum_six]
  have h0 : 0 ≤ partSum 100000 p := by rw [partSum_six]; exact valFrom_nonneg _ 0 (by omega)
  have e6 : (10 : Int) ^ 6 = 1000000 := by decide
  rw [e6]
  generalize valFrom 0 w * 1000000 = x
  unfold mn; omega
theorem white_eq (c : Int) : spec_l1white.f c = some (isSp c) := by
  unfold spec_l1white.f isSp
  by_cases h1 : c = 32
  · subst h1; rfl
  · rw [if_neg h1]
    by_cases h2 : c = 9
    · subst h2; rfl
    · rw [if_neg h2, beq_eq_false_iff_ne.mpr h1, beq_eq_false_iff_ne.mpr h2]; rfl
theorem digit_eq (c : Int) : spec_l1digit.f c = some (isDg c) := by
  unfold spec_l1digit.f isDg
  by_cases h1 : c ≥ 48
  · rw [if_pos h1, decide_eq_true h1]; rfl
  · rw [if_neg h1, decide_eq_false h1]; rfl
theorem w64 {x : Int} (h0 : -9223372036854775808 ≤ x) (h1 : x ≤ 9223372036854775807) : wrap64 x = x := by unfold wrap64; omega
theorem skip_l0 (s : ByteArray) (hs : s.size ≤ 9223372036854775806) (i : Nat) : ∀ k, i ≤ s.size → s.size - i < k → spec_l1skip.l0 k s i = some ((i + Q.runN isSp s i : Nat) : Int) := by
  fun_induction Q.runN isSp s i with
  | case1 i h1 h2 ih =>
    intro k hi hk
    obtain ⟨k, rfl⟩ : ∃ m, k = m + 1 := ⟨k - 1, by omega⟩
    simp only [spec_l1skip.l0]
    rw [if_pos (by omega), if_pos (by omega), white_eq, Option.bind_some, if_pos h2, w64 (by omega) (by omega)]
    have := ih k (by omega) (by omega)
    rw [show (i : Int) + 1 = ((i + 1 : Nat) : Int) by omega, this]
    congr 1; omega
  | case2 i h1 h2 =>
    intro k hi hk
    obtain ⟨k, rfl⟩ : ∃ m, k = m + 1 := ⟨k - 1, by omega⟩
    simp only [spec_l1skip.l0]
    rw [if_pos (by omega), if_pos (by omega), white_eq, Option.bind_some, if_neg h2]; rfl
  | case3 i h1 =>
    intro k hi hk
    obtain ⟨k, rfl⟩ : ∃ m, k = m + 1 := ⟨k - 1, by omega⟩
    simp only [spec_l1skip.l0]
    rw [if_neg (by omega)]; rfl
theorem skip_eq (s : ByteArray) (hs : s.size ≤ 9223372036854775806) (i : Nat) (hi : i ≤ s.size) (k : Nat) (hk : s.size < k) : spec_l1skip.f k s i = some ((i + Q.runN isSp s i : Nat) : Int) := by
  unfold spec_l1skip.f
  exact skip_l0 s hs i k hi (by omega)
/-- The bytes of a text from a place on, as numbers. -/
def seg (s : ByteArray) (i : Nat) : Nat → List Int
  | 0 => []
  | m + 1 => bt s (i : Int) :: seg s (i + 1) m
theorem seg_length (s : ByteArray) (m : Nat) : ∀ i, (seg s i m).length = m := by
  induction m with
  | zero => intro i; rfl
  | succ m ih => intro i; simp [seg, ih]
theorem bytes_extract (s : ByteArray) (i m : Nat) (h : i + m ≤ s.size) : (s.extract i (i + m)).data.toList.map (fun b => (b.toNat : Int)) = seg s i m := by
  apply List.ext_getElem
  · rw [seg_length, List.length_map, Array.length_toList]
    have : (s.extract i (i + m)).size = m := by rw [ByteArray.size_extract]; omega
    exact this
  · intro j h1 h2
    rw [seg_length] at h2
    have e : ∀ (m i j : Nat) (h : j < (seg s i m).length), (seg s i m)[j] = bt s ((i + j : Nat) : Int) := by
      intro m
      induction m with
      | zero => intro i j h; simp [seg] at h
      | succ m ih =>
        intro i j h
        cases j with
        | zero => simp [seg]
        | succ j =>
          have h' : j < (seg s (i + 1) m).length := by simpa [seg] using h
          simp only [seg, List.getElem_cons_succ]
          rw [ih (i + 1) j h']
          congr 2; omega
    rw [e m i j (by rw [seg_length]; exact h2), bt_nat (by omega)]
    simp [ByteArray.data_extract]
    rfl
theorem digB (c : Int) (h : isDg c = true) : 48 ≤ c ∧ c ≤ 57 := by
  unfold isDg at h
  simpa using h
theorem mn_range {x : Int} (h : 0 ≤ x) : 0 ≤ mn x 9000000000001 ∧ mn x 9000000000001 ≤ 9000000000001 := by unfold mn; omega
theorem wholeStep_range (n c : Int) (h0 : 0 ≤ n) : 0 ≤ wholeStep n c ∧ wholeStep n c ≤ 9000000000001 := by unfold wholeStep; split <;> omega
/-- The whole digits. -/
theorem readDec_l0 (s : ByteArray) (hs : s.size ≤ 140737488355328) (neg : Bool) (i : Nat) : ∀ (k m : Nat) (n x7 : Int), Q.runN isDg s i = m → i ≤ s.size → 0 ≤ n → n ≤ 9000000000001 → 0 ≤ x7 → x7 ≤ i →
    spec_ReadDec.l0 (k + 2 + 2 * m) s i neg n x7 = spec_ReadDec.j3 (k + 1) s ((i + m : Nat) : Int) neg ((seg s i m).foldl wholeStep n) (x7 + m) false := by
  fun_induction Q.runN isDg s i with
  | case1 i h1 h2 ih =>
    intro k m n x7 hm hi hn0 hn1 hx0 hx1
    subst hm
    have hd := digB _ h2
    have hr := wholeStep_range n (bt s (i : Int)) hn0
    have key := ih k (Q.runN isDg s (i + 1)) (wholeStep n (bt s (i : Int))) (x7 + 1) rfl (by omega) hr.1 hr.2 (by omega) (by omega)
    have e1 : ((i + 1 + Q.runN isDg s (i + 1) : Nat) : Int) = ((i + (Q.runN isDg s (i + 1) + 1) : Nat) : Int) := by omega
    have e2 : x7 + 1 + ((Q.runN isDg s (i + 1) : Nat) : Int) = x7 + ((Q.runN isDg s (i + 1) + 1 : Nat) : Int) := by omega
    rw [seg, List.foldl_cons, ← e1, ← e2, ← key, show k + 2 + 2 * (Q.runN isDg s (i + 1) + 1) = (k + 2 + 2 * Q.runN isDg s (i + 1)) + 1 + 1 by omega]
    generalize k + 2 + 2 * Q.runN isDg s (i + 1) = K at *
    simp only [spec_ReadDec.l0]
    rw [if_pos (by omega), if_pos (by omega), digit_eq, Option.bind_some, h2]
    simp only [spec_ReadDec.j3]
    rw [if_pos trivial, if_pos (by omega), if_pos (by omega), w64 (x := n * 10) (by omega) (by omega), w64 (x := (i : Int) + 1) (by omega) (by omega), w64 (x := x7 + 1) (by omega) (by omega)]
    generalize hb : bt s (i : Int) = b at *
    rw [w64 (x := n * 10 + (b - 48) % 256 * 1000000) (by omega) (by omega), show (i : Int) + 1 = ((i + 1 : Nat) : Int) by omega]
    unfold wholeStep
    split <;> rfl
  | case2 i h1 h2 =>
    intro k m n x7 hm hi hn0 hn1 hx0 hx1
    subst hm
    show spec_ReadDec.l0 (k + 1 + 1) s i neg n x7 = _
    simp only [spec_ReadDec.l0]
    rw [if_pos (by omega), if_pos (by omega), digit_eq, Option.bind_some, Bool.eq_false_iff.mpr h2]
    simp [seg]
  | case3 i h1 =>
    intro k m n x7 hm hi hn0 hn1 hx0 hx1
    subst hm
    show spec_ReadDec.l0 (k + 1 + 1) s i neg n x7 = _
    simp only [spec_ReadDec.l0]
    rw [if_neg (by omega)]
    simp [seg]
/-- The digits behind the point. -/
theorem readDec_l1 (s : ByteArray) (hs : s.size ≤ 140737488355328) (neg : Bool) (i : Nat) : ∀ (k m : Nat) (n x7 u : Int), Q.runN isDg s i = m → i ≤ s.size → 0 ≤ n → 0 ≤ u → n + 10 * u ≤ 9000001000001 → 0 ≤ x7 → x7 ≤ i →
    spec_ReadDec.l1 (k + 1 + m) s i neg n x7 u = spec_ReadDec.j6 k ((i + m : Nat) : Int) neg (n + partSum u (seg s i m)) (x7 + m) := by
  fun_induction Q.runN isDg s i with
  | case1 i h1 h2 ih =>
    intro k m n x7 u hm hi hn0 hu hn1 hx0 hx1
    subst hm
    have hd := digB _ h2
    rw [show k + 1 + (Q.runN isDg s (i + 1) + 1) = (k + 1 + Q.runN isDg s (i + 1)) + 1 by omega]
    simp only [spec_ReadDec.l1]
    rw [if_pos (by omega), if_pos (by omega), digit_eq, Option.bind_some, h2, if_pos rfl, w64 (x := (i : Int) + 1) (by omega) (by omega), w64 (x := x7 + 1) (by omega) (by omega)]
    generalize hb : bt s (i : Int) = b at *
    have hp0 : 0 ≤ (b - 48) % 256 * u := Int.mul_nonneg (by omega) hu
    have hp1 : (b - 48) % 256 * u ≤ 9 * u := Int.mul_le_mul_of_nonneg_right (by omega) hu
    rw [w64 (x := (b - 48) % 256 * u) (by omega) (by omega), w64 (x := n + (b - 48) % 256 * u) (by omega) (by omega), Int.tdiv_eq_ediv_of_nonneg hu, w64 (x := u / 10) (by omega) (by omega)]
    rw [show (i : Int) + 1 = ((i + 1 : Nat) : Int) by omega, ih k _ _ _ _ rfl (by omega) (by omega) (by omega) (by omega) (by omega) (by omega), seg, hb]
    simp only [partSum]
    congr 1 <;> omega
  | case2 i h1 h2 =>
    intro k m n x7 u hm hi hn0 hu hn1 hx0 hx1
    subst hm
    show spec_ReadDec.l1 (k + 1) s i neg n x7 u = _
    simp only [spec_ReadDec.l1]
    rw [if_pos (by omega), if_pos (by omega), digit_eq, Option.bind_some, if_neg h2]
    simp [seg, partSum]
  | case3 i h1 =>
    intro k m n x7 u hm hi hn0 hu hn1 hx0 hx1
    subst hm
    show spec_ReadDec.l1 (k + 1) s i neg n x7 u = _
    simp only [spec_ReadDec.l1]
    rw [if_neg (by omega)]
    simp [seg, partSum]
theorem readDec_j6 (k : Nat) (x4 : Int) (neg : Bool) (n x7 : Int) (h0 : 0 ≤ n) (h1 : n ≤ 9000009000000) :
    spec_ReadDec.j6 (k + 1) x4 neg n x7 = some (if x7 = 0 then (0, 0) else (if neg = true then -(mn n 9000000000000) else mn n 9000000000000, x4)) := by
  simp only [spec_ReadDec.j6]
  by_cases c : x7 = 0
  · rw [if_pos c, if_pos c]
  · rw [if_neg c, if_neg c]
    by_cases d : n > 9000000000000
    · have e : mn n 9000000000000 = 9000000000000 := by unfold mn; omega
      rw [if_pos d, e]
      cases neg <;> rfl
    · have e : mn n 9000000000000 = n := by unfold mn; omega
      rw [if_neg d, e, w64 (x := -n) (by omega) (by omega)]
      cases neg <;> rfl
theorem bytesOf_append (a b : ByteArray) : bytesOf (a ++ b) = bytesOf a ++ bytesOf b := by
  unfold bytesOf
  rw [ByteArray.data_append, Array.toList_append, List.map_append]
theorem bytesOf_extract (a : ByteArray) (i j : Nat) : bytesOf (a.extract i j) = ((bytesOf a).drop i).take (j - i) := by
  unfold bytesOf
  rw [ByteArray.data_extract, Array.toList_extract]
  simp [List.map_take, List.map_drop]
theorem bytesOf_zeros : bytesOf ⟨#[48, 48, 48, 48, 48, 48]⟩ = [48, 48, 48, 48, 48, 48] := by decide
theorem bytes_seg (s : ByteArray) (i m : Nat) (h : i + m ≤ s.size) : bytesOf (s.extract i (i + m)) = seg s i m := bytes_extract s i m h
theorem at2_le (s : ByteArray) : at2 s ≤ s.size := by
  unfold at2 wholeN
  exact runN_le isDg s (atD s) (atD_le s)
theorem more_le (s : ByteArray) (h : tkB s = true) : at2 s + 1 + moreN s ≤ s.size := by
  unfold tkB at h
  rw [Bool.and_eq_true] at h
  have h1 := h.1
  unfold dotB at h1
  rw [Bool.and_eq_true, decide_eq_true_eq] at h1
  unfold moreN
  rw [if_pos h.1]
  exact runN_le isDg s (at2 s + 1) (by omega)
theorem dig_bytes (s : ByteArray) : bytesOf (digS s) = seg s (atD s) (wholeN s) := by
  unfold digS
  have := at2_le s
  exact bytes_seg s (atD s) (wholeN s) this
/-- The digits behind the point that count. -/
def partL (s : ByteArray) : List Int := if tkB s = true then seg s (at2 s + 1) (moreN s) else []
theorem part_bytes (s : ByteArray) : bytesOf (partS s) = partL s := by
  unfold partS partL
  by_cases h : tkB s = true
  · rw [if_pos h, if_pos h]
    exact bytes_seg s (at2 s + 1) (moreN s) (more_le s h)
  · rw [if_neg h, if_neg h]; rfl
theorem all_bytes (s : ByteArray) : bytesOf (allS s) = seg s (atD s) (wholeN s) ++ (partL s ++ [48, 48, 48, 48, 48, 48]).take 6 := by
  unfold allS
  rw [bytesOf_append, bytesOf_extract, bytesOf_append, dig_bytes, part_bytes, bytesOf_zeros]
  rfl
theorem foldl_bytes (s : ByteArray) : s.data.toList.foldl (fun n c => numStep n (c.toNat : Int)) 0 = (bytesOf s).foldl numStep 0 := by
  unfold bytesOf
  rw [List.foldl_map]
theorem mn_start : mn 0 9000000000001 = 0 := by decide
theorem mn_start2 : mn (0 * 1000000) 9000000000001 = 0 := by decide
theorem whole_val (l : List Int) : l.foldl wholeStep 0 = mn (valFrom 0 l * 1000000) 9000000000001 := by
  have := wholeFold l 0 (by omega)
  rw [mn_start2] at this
  exact this
theorem numOf_eq (s : ByteArray) : numOf s = mn ((seg s (atD s) (wholeN s)).foldl wholeStep 0 + partSum 100000 (partL s)) 9000000000000 := by
  unfold numOf
  rw [foldl_bytes, all_bytes, whole_val]
  have h := numFold (seg s (atD s) (wholeN s) ++ (partL s ++ [48, 48, 48, 48, 48, 48]).take 6) 0 (by omega)
  rw [mn_start] at h
  rw [h]
  exact (both_ways _ _).symm
theorem partSum_le (l : List Int) (hl : ∀ c ∈ l, 48 ≤ c ∧ c ≤ 57) : ∀ u : Int, 0 ≤ u → 0 ≤ partSum u l ∧ partSum u l ≤ 10 * u := by
  induction l with
  | nil => intro u hu; exact ⟨by simp [partSum], by simp only [partSum]; omega⟩
  | cons c l ih =>
    intro u hu
    have hc := hl c (List.mem_cons_self ..)
    have h := ih (fun d hd => hl d (List.mem_cons_of_mem _ hd)) (u / 10) (by omega)
    have hp0 : 0 ≤ (c - 48) % 256 * u := Int.mul_nonneg (by omega) hu
    have hp1 : (c - 48) % 256 * u ≤ 9 * u := Int.mul_le_mul_of_nonneg_right (by omega) hu
    simp only [partSum]
    omega
theorem seg_digits (s : ByteArray) (m : Nat) : ∀ i, m ≤ Q.runN isDg s i → ∀ c ∈ seg s i m, 48 ≤ c ∧ c ≤ 57 := by
  induction m with
  | zero => intro i _ c hc; simp [seg] at hc
  | succ m ih =>
    intro i hm c hc
    rw [Q.runN] at hm
    by_cases h1 : i < s.size
    · rw [if_pos h1] at hm
      by_cases h2 : isDg (bt s i) = true
      · rw [if_pos h2] at hm
        simp only [seg, List.mem_cons] at hc
        rcases hc with rfl | hc
        · exact digB _ h2
        · exact ih (i + 1) (by omega) c hc
      · rw [if_neg h2] at hm; omega
    · rw [if_neg h1] at hm; omega
theorem partL_digits (s : ByteArray) : ∀ c ∈ partL s, 48 ≤ c ∧ c ≤ 57 := by
  intro c hc
  unfold partL at hc
  by_cases h : tkB s = true
  · rw [if_pos h] at hc
    refine seg_digits s (moreN s) (at2 s + 1) ?_ c hc
    unfold tkB at h
    rw [Bool.and_eq_true] at h
    unfold moreN
    rw [if_pos h.1]
    exact Nat.le_refl _
  · rw [if_neg h] at hc; cases hc
theorem isEmpty_size (s : ByteArray) : s.toList.isEmpty = decide (s.size = 0) := by
  have h : s.toList.length = s.size := by simp [ByteArray.toList_eq, Array.length_toList]
  cases hl : s.toList with
  | nil => rw [hl] at h; simp at h; simp [← h]
  | cons a l => rw [hl] at h; simp at h; simp [← h]
theorem digS_size (s : ByteArray) : (digS s).size = wholeN s := by
  have h := congrArg List.length (dig_bytes s)
  rw [bytesOf_length, seg_length] at h
  exact h
theorem partS_size (s : ByteArray) : (partS s).size = if tkB s = true then moreN s else 0 := by
  have h := congrArg List.length (part_bytes s)
  rw [bytesOf_length] at h
  rw [h]
  unfold partL
  split
  · exact seg_length s _ _
  · rfl
theorem readV_eq (s : ByteArray) : readV s = if wholeN s + (if tkB s = true then moreN s else 0) = 0 then (0, 0) else (if negB s = true then - numOf s else numOf s, (at3 s : Int)) := by
  unfold readV
  rw [isEmpty_size, isEmpty_size, digS_size, partS_size]
  by_cases h : wholeN s + (if tkB s = true then moreN s else 0) = 0
  · rw [if_pos h, if_pos]
    simp only [Bool.and_eq_true, decide_eq_true_eq]
    omega
  · rw [if_neg h, if_neg]
    simp only [Bool.and_eq_true, decide_eq_true_eq]
    omega
theorem runN_pos (p : Int → Bool) (s : ByteArray) (i : Nat) : 0 < Q.runN p s i ↔ i < s.size ∧ p (bt s i) = true := by
  rw [Q.runN]
  by_cases h1 : i < s.size
  · rw [if_pos h1]
    by_cases h2 : p (bt s i) = true
    · rw [if_pos h2]; exact ⟨fun _ => ⟨h1, h2⟩, fun _ => by omega⟩
    · rw [if_neg h2]; exact ⟨fun h => by omega, fun h => absurd h.2 h2⟩
  · rw [if_neg h1]; exact ⟨fun h => by omega, fun h => absurd h.1 h1⟩
theorem tk_true (s : ByteArray) (h1 : at2 s < s.size) (h2 : bt s (at2 s) = 46) : tkB s = decide (0 < wholeN s + Q.runN isDg s (at2 s + 1)) := by
  have hd : dotB s (at2 s) = true := by simp [dotB, h1, h2]
  unfold tkB moreN
  rw [if_pos hd, hd, Bool.true_and]
theorem tk_false (s : ByteArray) (h : ¬ (at2 s < s.size ∧ bt s (at2 s) = 46)) : tkB s = false := by
  have hd : dotB s (at2 s) = false := by
    unfold dotB
    by_cases h1 : at2 s < s.size
    · by_cases h2 : bt s (at2 s) = 46
      · exact absurd ⟨h1, h2⟩ h
      · simp [h2]
    · simp [h1]
  unfold tkB
  rw [hd, Bool.false_and]
theorem readDec_body (s : ByteArray) (hs : s.size ≤ 140737488355328) (k : Nat) (hk : 3 * s.size + 8 ≤ k) : spec_ReadDec.l0 k s (atD s) (negB s) 0 0 = some (readV s) := by
  have ha := atD_le s
  have h2 := at2_le s
  have hw : Q.runN isDg s (atD s) = wholeN s := rfl
  have e2 : atD s + wholeN s = at2 s := rfl
  obtain ⟨k0, rfl⟩ : ∃ k0, k = k0 + 2 + 2 * wholeN s := ⟨k - 2 - 2 * wholeN s, by omega⟩
  rw [readDec_l0 s hs (negB s) (atD s) k0 (wholeN s) 0 0 hw ha (by omega) (by omega) (by omega) (by omega), e2]
  have hW : 0 ≤ (seg s (atD s) (wholeN s)).foldl wholeStep 0 ∧ (seg s (atD s) (wholeN s)).foldl wholeStep 0 ≤ 9000000000001 := by
    rw [whole_val]
    exact mn_range (Int.mul_nonneg (valFrom_nonneg _ 0 (by omega)) (by omega))
  have hN := numOf_eq s
  have hP := partSum_le (partL s) (partL_digits s) 100000 (by omega)
  generalize (seg s (atD s) (wholeN s)).foldl wholeStep 0 = W at *
  have key : spec_ReadDec.j3 (k0 + 1) s ((at2 s : Nat) : Int) (negB s) W (0 + (wholeN s : Int)) false = spec_ReadDec.j4 k0 s (at2 s) (negB s) W (0 + (wholeN s : Int)) (tkB s) := by
    simp only [spec_ReadDec.j3]
    rw [if_neg (by decide)]
    by_cases c1 : at2 s < s.size
    · rw [if_pos (by omega), if_pos (by omega)]
      by_cases c2 : bt s (at2 s) = 46
      · rw [if_pos c2, tk_true s c1 c2]
        by_cases c3 : 0 < wholeN s
        · rw [if_pos (by omega), decide_eq_true (by omega)]
        · rw [if_neg (by omega), w64 (x := (at2 s : Int) + 1) (by omega) (by omega)]
          have hp := runN_pos isDg s (at2 s + 1)
          rw [show ((at2 s + 1 : Nat) : Int) = (at2 s : Int) + 1 by omega] at hp
          by_cases c4 : at2 s + 1 < s.size
          · rw [if_pos (by omega), if_pos (by omega), digit_eq, Option.bind_some]
            congr 1
            by_cases c5 : isDg (bt s ((at2 s : Int) + 1)) = true
            · rw [c5, decide_eq_true]
              have := hp.2 ⟨c4, c5⟩
              omega
            · rw [Bool.eq_false_iff.mpr c5, decide_eq_false]
              intro h
              exact c5 (hp.1 (by omega)).2
          · rw [if_neg (by omega), decide_eq_false]
            intro h
            exact c4 (hp.1 (by omega)).1
      · rw [if_neg c2, tk_false s (fun h => c2 h.2)]
    · rw [if_neg (by omega), tk_false s (fun h => c1 h.1)]
  rw [key, readV_eq, hN]
  obtain ⟨k1, rfl⟩ : ∃ k1, k0 = k1 + 1 := ⟨k0 - 1, by omega⟩
  simp only [spec_ReadDec.j4]
  by_cases ht : tkB s = true
  · have hm := more_le s ht
    have hmr : Q.runN isDg s (at2 s + 1) = moreN s := by
      unfold tkB at ht
      rw [Bool.and_eq_true] at ht
      unfold moreN
      rw [if_pos ht.1]
    have hpl : partL s = seg s (at2 s + 1) (moreN s) := if_pos ht
    have h3 : at3 s = at2 s + 1 + moreN s := if_pos ht
    rw [if_pos ht, if_pos ht, w64 (x := (at2 s : Int) + 1) (by omega) (by omega), h3]
    obtain ⟨k2, rfl⟩ : ∃ k2, k1 = (k2 + 1) + 1 + moreN s := ⟨k1 - 2 - moreN s, by omega⟩
    have h1 := readDec_l1 s hs (negB s) (at2 s + 1) (k2 + 1) (moreN s) W (0 + (wholeN s : Int)) 100000 hmr (by omega) (by omega) (by omega) (by omega) (by omega) (by omega)
    rw [show ((at2 s + 1 : Nat) : Int) = (at2 s : Int) + 1 by omega, ← hpl] at h1
    rw [h1, readDec_j6 k2 _ _ _ _ (by omega) (by omega)]
    by_cases c : wholeN s + moreN s = 0
    · rw [if_pos c, if_pos (by omega)]
    · rw [if_neg c, if_neg (by omega)]
  · have hpl : partL s = [] := if_neg ht
    have h3 : at3 s = at2 s := if_neg ht
    rw [if_neg ht, if_neg ht, hpl, h3]
    have e0 : W + partSum 100000 [] = W := by simp [partSum]
    obtain ⟨k2, rfl⟩ : ∃ k2, k1 = k2 + 1 := ⟨k1 - 1, by omega⟩
    rw [e0, readDec_j6 k2 _ _ _ _ (by omega) (by omega)]
    by_cases c : wholeN s + 0 = 0
    · rw [if_pos c, if_pos (by omega)]
    · rw [if_neg c, if_neg (by omega)]
theorem specReadDec_eq (s : ByteArray) (hs : s.size ≤ 140737488355328) (k : Nat) (hk : 3 * s.size + 10 ≤ k) : spec_ReadDec.f k s = some (readV s) := by
  have h0 := skip_eq s (by omega) 0 (by omega) k (by omega)
  rw [Nat.zero_add] at h0
  unfold spec_ReadDec.f
  rw [show (0 : Int) = ((0 : Nat) : Int) from rfl, h0, Option.bind_some]
  have hl := runN_le isSp s 0 (by omega)
  rw [Nat.zero_add] at hl
  have eA : atD s = if sgnB s (Q.runN isSp s 0) = true then Q.runN isSp s 0 + 1 else Q.runN isSp s 0 := rfl
  have eN : negB s = if sgnB s (Q.runN isSp s 0) = true then bt s (Q.runN isSp s 0) == 45 else false := rfl
  have hb := readDec_body s hs
  generalize Q.runN isSp s 0 = a at *
  have key : (if (a : Int) < (s.size : Int) then (if 0 ≤ (a : Int) then (if (bt s a) = 43 then (spec_ReadDec.j0 k s a false true) else (spec_ReadDec.j0 k s a false ((bt s a) == 45))) else (none)) else (spec_ReadDec.j0 k s a false false)) = spec_ReadDec.j0 k s a false (sgnB s a) := by
    unfold sgnB
    by_cases c1 : a < s.size
    · rw [if_pos (by omega), if_pos (by omega), decide_eq_true c1, Bool.true_and]
      by_cases c2 : bt s a = 43
      · rw [if_pos c2, c2]; rfl
      · rw [if_neg c2, beq_eq_false_iff_ne.mpr c2, Bool.false_or]
    · rw [if_neg (by omega), decide_eq_false c1, Bool.false_and]
  refine key.trans ?_
  obtain ⟨k1, rfl⟩ : ∃ k1, k = k1 + 1 + 1 := ⟨k - 2, by omega⟩
  simp only [spec_ReadDec.j0]
  by_cases c : sgnB s a = true
  · rw [if_pos c] at eA eN
    have h1 : a < s.size := by
      unfold sgnB at c
      rw [Bool.and_eq_true, decide_eq_true_eq] at c
      exact c.1
    rw [if_pos c, if_pos (by omega), if_pos (by omega), w64 (x := (a : Int) + 1) (by omega) (by omega)]
    simp only [spec_ReadDec.j1]
    rw [show (a : Int) + 1 = ((a + 1 : Nat) : Int) by omega, ← eA, ← eN]
    exact hb k1 (by omega)
  · rw [if_neg c] at eA eN
    rw [if_neg c]
    simp only [spec_ReadDec.j1]
    rw [← eA, ← eN]
    exact hb k1 (by omega)
theorem implReadDec_eq (s : ByteArray) (hs : s.size ≤ 140737488355328) : impl_ReadDec.f s = some (readV s) := if_pos hs
theorem at3_le (s : ByteArray) : at3 s ≤ s.size := by
  unfold at3
  split
  · rename_i h; exact more_le s h
  · exact at2_le s
theorem readV_at (s : ByteArray) : ∃ n : Nat, (readV s).2 = (n : Int) ∧ n ≤ s.size := by
  rw [readV_eq]
  by_cases c : wholeN s + (if tkB s = true then moreN s else 0) = 0
  · rw [if_pos c]; exact ⟨0, rfl, by omega⟩
  · rw [if_neg c]; exact ⟨at3 s, rfl, at3_le s⟩
/-- Does a text look like a number? -/
def looksV (s : ByteArray) : Bool := decide (0 < (readV s).2) && decide ((readV s).2.toNat + Q.runN isSp s (readV s).2.toNat = s.size)
theorem implLooksNum_eq (s : ByteArray) (hs : s.size ≤ 140737488355328) : impl_LooksNum.f s = some (looksV s) := by
  unfold impl_LooksNum.f looksV
  rw [implReadDec_eq s hs, Option.bind_some]
  obtain ⟨n, hn, hl⟩ := readV_at s
  rw [hn, Int.toNat_natCast]
  by_cases c : (n : Int) > 0
  · rw [if_pos c]
    have hr : impl_run.f s (n : Int) 75 = some ((Q.runN isSp s n : Nat) : Int) := by
      unfold impl_run.f
      rw [if_pos (by omega), if_pos rfl, Int.toNat_natCast]
    have hle := runN_le isSp s n hl
    rw [hr, Option.bind_some, w64 (by omega) (by omega), decide_eq_true (show 0 < (n : Int) from c), Bool.true_and]
    congr 1
    by_cases d : n + Q.runN isSp s n = s.size
    · rw [decide_eq_true d]
      exact beq_iff_eq.mpr (by omega)
    · rw [decide_eq_false d]
      exact beq_eq_false_iff_ne.mpr (by omega)
  · rw [if_neg c, decide_eq_false (show ¬ 0 < (n : Int) from c), Bool.false_and]
theorem specLooksNum_eq (s : ByteArray) (hs : s.size ≤ 140737488355328) (k : Nat) (hk : 3 * s.size + 10 ≤ k) : spec_LooksNum.f k s = some (looksV s) := by
  unfold spec_LooksNum.f looksV
  rw [specReadDec_eq s hs k hk, Option.bind_some]
  obtain ⟨n, hn, hl⟩ := readV_at s
  rw [hn, Int.toNat_natCast]
  by_cases c : (n : Int) > 0
  · rw [if_pos c, skip_eq s (by omega) n hl k (by omega), Option.bind_some, decide_eq_true (show 0 < (n : Int) from c), Bool.true_and]
    congr 1
    by_cases d : n + Q.runN isSp s n = s.size
    · rw [decide_eq_true d]
      exact beq_iff_eq.mpr (by omega)
    · rw [decide_eq_false d]
      exact beq_eq_false_iff_ne.mpr (by omega)
  · rw [if_neg c, decide_eq_false (show ¬ 0 < (n : Int) from c), Bool.false_and]
def isDec (n : Int) : Prop := -9000000000000 ≤ n ∧ n ≤ 9000000000000
instance (n : Int) : Decidable (isDec n) := inferInstanceAs (Decidable (_ ∧ _))
theorem decOk_eq (n : Int) : impl_DecOk.f n = some (decide (isDec n)) := by
  unfold impl_DecOk.f impl_between.f
  by_cases h : n ≥ -9000000000000
  · rw [if_pos h, Option.bind_some]
    by_cases h2 : n ≤ 9000000000000
    · rw [decide_eq_true h2, decide_eq_true (show isDec n from ⟨h, h2⟩)]
    · rw [decide_eq_false h2, decide_eq_false (show ¬ isDec n from fun h => h2 h.2)]
  · rw [if_neg h, Option.bind_some, decide_eq_false (show ¬ isDec n from fun h2 => h h2.1)]
theorem specDecOk_eq (n : Int) : spec_DecOk.f n = some (decide (isDec n)) := by
  unfold spec_DecOk.f
  by_cases h : n ≥ -9000000000000
  · rw [if_pos h]
    by_cases h2 : n ≤ 9000000000000
    · rw [decide_eq_true h2, decide_eq_true (show isDec n from ⟨h, h2⟩)]
    · rw [decide_eq_false h2, decide_eq_false (show ¬ isDec n from fun h => h2 h.2)]
  · rw [if_neg h, decide_eq_false (show ¬ isDec n from fun h2 => h h2.1)]
def ab (a : Int) : Int := if a < 0 then -a else a
theorem l1abs_eq (a : Int) (h : isDec a) : spec_l1abs.f a = some (ab a) := by
  unfold isDec at h
  unfold spec_l1abs.f ab wrap64
  split
  · congr 1; omega
  · rfl
/-- A text of a list of bytes. -/
def bmk (l : List UInt8) : ByteArray := ⟨⟨l⟩⟩
theorem bmk_size (l : List UInt8) : (bmk l).size = l.length := rfl
theorem bmk_append (a b : List UInt8) : bmk a ++ bmk b = bmk (a ++ b) := by
  apply ByteArray.ext
  rw [ByteArray.data_append]
  apply Array.ext'
  rw [Array.toList_append]; rfl
theorem bmk_extract (l : List UInt8) (i j : Nat) : (bmk l).extract i j = bmk ((l.drop i).take (j - i)) := by
  apply ByteArray.ext
  rw [ByteArray.data_extract]
  apply Array.ext'
  rw [Array.toList_extract]; simp [bmk, List.extract_eq_take_drop]
theorem bmk_bt (l : List UInt8) (i : Nat) (h : i < l.length) : bt (bmk l) (i : Int) = (l[i].toNat : Int) := bt_nat (s := bmk l) h
/-- Without the noughts at the end. -/
def trimR : List UInt8 → List UInt8
  | [] => []
  | a :: l => if trimR l = [] then (if a = 48 then [] else [a]) else a :: trimR l
theorem trimR_length (l : List UInt8) : (trimR l).length ≤ l.length := by
  induction l with
  | nil => simp [trimR]
  | cons a l ih =>
    simp only [trimR]
    split
    · split <;> simp
    · simp; exact ih
theorem trimR_snoc (l : List UInt8) (c : UInt8) : trimR (l ++ [c]) = if c = 48 then trimR l else l ++ [c] := by
  induction l with
  | nil => simp [trimR]
  | cons a l ih =>
    rw [List.cons_append, trimR, ih]
    by_cases h : c = 48
    · rw [if_pos h, if_pos h]; rfl
    · rw [if_neg h, if_neg h, if_neg (by simp)]
theorem trimByte (n : Nat) : ∀ (l : List UInt8) (k : Nat), l.length = n → n < k → n ≤ 9223372036854775807 → strings_trimRightByte.l0 k (bmk l) 48 = some (bmk (trimR l)) := by
  induction n with
  | zero =>
    intro l k hl hk _
    obtain rfl := List.eq_nil_of_length_eq_zero hl
    obtain ⟨k, rfl⟩ : ∃ m, k = m + 1 := ⟨k - 1, by omega⟩
    simp only [strings_trimRightByte.l0]
    rw [if_neg (by decide)]; rfl
  | succ n ih =>
    intro l k hl hk hb
    have hne : l ≠ [] := fun e => by subst e; simp at hl
    obtain ⟨l', c, rfl⟩ : ∃ l' c, l = l' ++ [c] := ⟨l.dropLast, l.getLast hne, (List.dropLast_concat_getLast hne).symm⟩
    have hl' : l'.length = n := by simpa using hl
    obtain ⟨k, rfl⟩ : ∃ m, k = m + 1 := ⟨k - 1, by omega⟩
    have hsz : (bmk (l' ++ [c])).size = n + 1 := by rw [bmk_size]; exact hl
    simp only [strings_trimRightByte.l0]
    rw [hsz]
    have hw : wrap64 (((n + 1 : Nat) : Int) - 1) = (n : Int) := by rw [w64 (by omega) (by omega)]; omega
    have hbt : bt (bmk (l' ++ [c])) (n : Int) = (c.toNat : Int) := by
      rw [bmk_bt _ n (by rw [hl]; omega)]
      simp [← hl']
    rw [hw, if_pos (by omega), if_pos (by omega), if_pos (by omega), hbt, trimR_snoc]
    by_cases hc : c = 48
    · subst hc
      rw [if_pos (by decide), if_pos (by omega), if_pos rfl, Int.toNat_natCast, bmk_extract]
      have : List.take (n - 0) (List.drop 0 (l' ++ [48])) = l' := by simp [← hl']
      rw [this]
      exact ih l' k hl' (by omega) (by omega)
    · rw [if_neg, if_neg hc]
      intro h
      apply hc
      apply UInt8.toNat_inj.mp
      have : ((48 : UInt8).toNat : Int) = 48 := by decide
      omega
theorem trimRight (l : List UInt8) (k : Nat) (hk : l.length + 3 < k) (hb : l.length ≤ 9223372036854775807) : strings_TrimRight.f k (bmk l) ⟨#[48]⟩ = some (bmk (trimR l)) := by
  obtain ⟨k, rfl⟩ : ∃ m, k = m + 1 + 1 := ⟨k - 2, by omega⟩
  unfold strings_TrimRight.f
  by_cases h : (bmk l).toList = ([] : List UInt8)
  · rw [if_pos h]
    have : l = [] := by
      rw [ByteArray.toList_eq] at h
      simpa [bmk] using h
    subst this
    simp only [strings_TrimRight.j0]
    rw [if_pos trivial]; rfl
  · rw [if_neg h]
    have e : ((⟨#[48]⟩ : ByteArray).toList == ([] : List UInt8)) = false := by decide +kernel
    have e2 : ((⟨#[48]⟩ : ByteArray).size : Int) = 1 := by decide
    have e3 : bt (⟨#[48]⟩ : ByteArray) 0 = 48 := by decide
    rw [e]
    simp only [strings_TrimRight.j0]
    rw [if_neg (by decide), e2, if_pos rfl, if_pos (by omega), e3]
    simp only [strings_TrimRight.j1]
    rw [if_pos (by decide), e2, if_pos (by omega)]
    unfold strings_trimRightByte.f
    rw [e3, trimByte l.length l (k) rfl (by omega) hb, Option.bind_some]
/-- j digits of r, the highest first. -/
def dl : Nat → Nat → List UInt8
  | 0, _ => []
  | j + 1, r => UInt8.ofNat (48 + r / 10 ^ j) :: dl j (r % 10 ^ j)
theorem dl_length (j : Nat) : ∀ r, (dl j r).length = j := by
  induction j with
  | zero => intro r; rfl
  | succ j ih => intro r; simp [dl, ih]
theorem dl_zero (j : Nat) : trimR (dl j 0) = [] := by
  induction j with
  | zero => rfl
  | succ j ih =>
    simp only [dl, Nat.zero_div, Nat.zero_mod, trimR, ih, if_pos]
    rfl
theorem digit_ne (d : Nat) (h0 : 0 < d) (h : d < 10) : UInt8.ofNat (48 + d) ≠ 48 := by
  intro e
  have := congrArg UInt8.toNat e
  rw [UInt8.toNat_ofNat'] at this
  have e2 : (48 : UInt8).toNat = 48 := by decide
  omega
end Go.Proofs.YtnfiljnncpieoaaDoor.Pure
