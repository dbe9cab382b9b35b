/- What the row of FnAriths rests on, and the row: for every input that can be read the call returns true and the input reads as it did; condition: what the row lists of the library reads as the program lays it. -/
import Derived.Test.YtnfiljnncpieoaaGreatDoorKFnArithsc
set_option linter.unusedVariables false
set_option linter.unusedSimpArgs false
namespace Go.Proofs.YtnfiljnncpieoaaGreatDoor.Q
open Go.RowKit Go.Proofs.YtnfiljnncpieoaaGreatDoorW.PrintWords Go.Proofs.YtnfiljnncpieoaaGreatDoorW.PrintLast Go.Proofs.YtnfiljnncpieoaaGreatDoorW.PrintMore
attribute [local go_sem] max2_int min2_int max_two min_two max_three min_three max_four min_four   -- for this text's walks alone
set_option linter.unusedVariables false
set_option linter.unusedSimpArgs false
set_option maxHeartbeats 8000000 in
set_option maxRecDepth 100000 in
theorem impl_Arith.calls (k : Nat) (a0 : Int) (a1_0 : Int) (a1_1 : Int) (a1_2 : ByteArray) (a2_0 : Int) (a2_1 : Int) (a2_2 : ByteArray) (r1 : Int) (r2 : Int) (r3 : ByteArray) (r4 : Int) (w : World) (h : impl_Arith.f k a0 a1_0 a1_1 a1_2 a2_0 a2_1 a2_2 = some (r1,r2,r3,r4)) :
  Calls Tryz.prog 7 #[.int .i64 a0,.agg #[.int .i64 a1_0,.int .i64 a1_1,.string a1_2],.agg #[.int .i64 a2_0,.int .i64 a2_1,.string a2_2]] w fun e w'=>e = .returned (.tuple #[.agg #[.int .i64 r1,.int .i64 r2,.string r3],.int .i64 r4]) ∧ Below w.heap.size w w':=by
 have hu24:=Tryz.underlying24
 have HB:=Aside0.mk (Below.refl w.heap.size w)
 have H : ((impl_between.f a0 20 24).bind fun t272=>(if t272 = true then ((impl_CellOk.f a1_0 a1_1 a1_2).bind fun t273=>(if t273 = true then ((impl_CellOk.f a2_0 a2_1 a2_2).bind fun t274=>(impl_Arith.j0 k a0 (!t274) a1_0 a1_1 a1_2 a2_0 a2_1 a2_2)) else (impl_Arith.j0 k a0 true a1_0 a1_1 a1_2 a2_0 a2_1 a2_2))) else (impl_Arith.j0 k a0 true a1_0 a1_1 a1_2 a2_0 a2_1 a2_2))) = some (r1,r2,r3,r4):=h
 clear h
 have HC4:=Aside0.mk H
 clear H
 go_enter Tryz.func7,Tryz.ntmps7
 go_upto_region 1 with (first|((with_reducible refine gate_dst (N:=4) rfl ?_);refine box_event ?hg (N:=4) ?hd (cs:=#[.int .i64 a1_0,.int .i64 a1_1,.string a1_2]) (t:=24) ?hr ?_;(case hd=>rfl);(case hg=>rfl);(case hr=>first|(go_simp;done)|(go_simp;rfl));intro gb269 hg w5 hbox hb;have n0_:=Aside0.mk (below_step (by repeat (first|(with_reducible first|exact HB.out|apply below_alloc|apply pw_below_drewN|apply below_drew1)|exact HB.out)) hb);have n1_:=Aside0.mk (hbox);have n2_:=Aside0.mk ((by rw [hg];exact (below_size (by repeat (first|(with_reducible first|exact HB.out|apply below_alloc|apply pw_below_drewN|apply below_drew1)|exact HB.out))) : w.heap.size ≤ gb269));have n3_:=Aside0.mk ((by rw [hg];exact (below_size (by repeat (first|(with_reducible first|exact HB.out|apply below_alloc|apply pw_below_drewN|apply below_drew1)|exact HB.out))) : w.heap.size ≤ gb269));clear HB;have HB:=n0_;have BK269:=n1_;have GW269:=n2_;have GE269:=n3_;clear n0_ n1_ n2_ n3_;clear hb hbox hg)|((with_reducible refine gate_dst (N:=5) rfl ?_);refine box_event ?hg (N:=5) ?hd (cs:=#[.int .i64 a2_0,.int .i64 a2_1,.string a2_2]) (t:=24) ?hr ?_;(case hd=>rfl);(case hg=>rfl);(case hr=>first|(go_simp;done)|(go_simp;rfl));intro gb270 hg w6 hbox hb;have n0_:=Aside0.mk (blk_below (g:=gb269) (o:=.cells #[.int .i64 a1_0,.int .i64 a1_1,.string a1_2] 24 (0,0)) (by (with_reducible repeat (first|refine blk_drewN ?_ _|refine blk_drew ?_|refine blk_alloc ?_ _));exact BK269.out) hb);have n1_:=Aside0.mk (below_step (by repeat (first|(with_reducible first|exact HB.out|apply below_alloc|apply pw_below_drewN|apply below_drew1|refine below_set ?_ GE269.out)|exact HB.out)) hb);have n2_:=Aside0.mk (hbox);have n3_:=Aside0.mk ((by rw [hg];exact (below_size (by repeat (first|(with_reducible first|exact HB.out|apply below_alloc|apply pw_below_drewN|apply below_drew1|refine below_set ?_ GE269.out)|exact HB.out))) : w.heap.size ≤ gb270));have n4_:=Aside0.mk ((by rw [hg];exact (below_size (by repeat (first|(with_reducible first|exact HB.out|apply below_alloc|apply pw_below_drewN|apply below_drew1|refine below_set ?_ GE269.out)|exact HB.out))) : w.heap.size ≤ gb270));have n5_:=Aside0.mk ((by rw [hg];exact Nat.ne_of_lt (blk_lt (g:=gb269) (o:=.cells #[.int .i64 a1_0,.int .i64 a1_1,.string a1_2] 24 (0,0)) (by (with_reducible repeat (first|refine blk_drewN ?_ _|refine blk_drew ?_|refine blk_alloc ?_ _));exact BK269.out)) : gb269 ≠ gb270));have n6_:=Aside0.mk ((by rw [hg];exact Nat.ne_of_gt (blk_lt (g:=gb269) (o:=.cells #[.int .i64 a1_0,.int .i64 a1_1,.string a1_2] 24 (0,0)) (by (with_reducible repeat (first|refine blk_drewN ?_ _|refine blk_drew ?_|refine blk_alloc ?_ _));exact BK269.out)) : gb270 ≠ gb269));clear BK269;clear HB;have BK269:=n0_;have HB:=n1_;have BK270:=n2_;have GW270:=n3_;have GE270:=n4_;have NB269_270:=n5_;have NB270_269:=n6_;clear n0_ n1_ n2_ n3_ n4_ n5_ n6_;clear hb hbox hg)|((with_reducible refine gate_dst (N:=6) rfl ?_);refine box_event ?hg (N:=6) ?hd (cs:=#[.int .i64 0,.int .i64 0,.string (⟨#[]⟩ : ByteArray)]) (t:=24) ?hr ?_;(case hd=>rfl);(case hg=>rfl);(case hr=>first|(go_simp;done)|(go_simp;rfl));intro gb271 hg w7 hbox hb;have n0_:=Aside0.mk (blk_below (g:=gb269) (o:=.cells #[.int .i64 a1_0,.int .i64 a1_1,.string a1_2] 24 (0,0)) (by (with_reducible repeat (first|refine blk_drewN ?_ _|refine blk_drew ?_|refine blk_alloc ?_ _));exact BK269.out) hb);have n1_:=Aside0.mk (blk_below (g:=gb270) (o:=.cells #[.int .i64 a2_0,.int .i64 a2_1,.string a2_2] 24 (0,0)) (by (with_reducible repeat (first|refine blk_drewN ?_ _|refine blk_drew ?_|refine blk_alloc ?_ _));exact BK270.out) hb);have n2_:=Aside0.mk (below_step (by repeat (first|(with_reducible first|exact HB.out|apply below_alloc|apply pw_below_drewN|apply below_drew1|refine below_set ?_ GE269.out|refine below_set ?_ GE270.out)|exact HB.out)) hb);have n3_:=Aside0.mk (hbox);have n4_:=Aside0.mk ((by rw [hg];exact (below_size (by repeat (first|(with_reducible first|exact HB.out|apply below_alloc|apply pw_below_drewN|apply below_drew1|refine below_set ?_ GE269.out|refine below_set ?_ GE270.out)|exact HB.out))) : w.heap.size ≤ gb271));have n5_:=Aside0.mk ((by rw [hg];exact (below_size (by repeat (first|(with_reducible first|exact HB.out|apply below_alloc|apply pw_below_drewN|apply below_drew1|refine below_set ?_ GE269.out|refine below_set ?_ GE270.out)|exact HB.out))) : w.heap.size ≤ gb271));have n6_:=Aside0.mk ((by rw [hg];exact Nat.ne_of_lt (blk_lt (g:=gb269) (o:=.cells #[.int .i64 a1_0,.int .i64 a1_1,.string a1_2] 24 (0,0)) (by (with_reducible repeat (first|refine blk_drewN ?_ _|refine blk_drew ?_|refine blk_alloc ?_ _));exact BK269.out)) : gb269 ≠ gb271));have n7_:=Aside0.mk ((by rw [hg];exact Nat.ne_of_gt (blk_lt (g:=gb269) (o:=.cells #[.int .i64 a1_0,.int .i64 a1_1,.string a1_2] 24 (0,0)) (by (with_reducible repeat (first|refine blk_drewN ?_ _|refine blk_drew ?_|refine blk_alloc ?_ _));exact BK269.out)) : gb271 ≠ gb269));have n8_:=Aside0.mk ((by rw [hg];exact Nat.ne_of_lt (blk_lt (g:=gb270) (o:=.cells #[.int .i64 a2_0,.int .i64 a2_1,.string a2_2] 24 (0,0)) (by (with_reducible repeat (first|refine blk_drewN ?_ _|refine blk_drew ?_|refine blk_alloc ?_ _));exact BK270.out)) : gb270 ≠ gb271));have n9_:=Aside0.mk ((by rw [hg];exact Nat.ne_of_gt (blk_lt (g:=gb270) (o:=.cells #[.int .i64 a2_0,.int .i64 a2_1,.string a2_2] 24 (0,0)) (by (with_reducible repeat (first|refine blk_drewN ?_ _|refine blk_drew ?_|refine blk_alloc ?_ _));exact BK270.out)) : gb271 ≠ gb270));clear BK269;clear BK270;clear HB;have BK269:=n0_;have BK270:=n1_;have HB:=n2_;have BK271:=n3_;have GW271:=n4_;have GE271:=n5_;have NB269_271:=n6_;have NB271_269:=n7_;have NB270_271:=n8_;have NB271_270:=n9_;clear n0_ n1_ n2_ n3_ n4_ n5_ n6_ n7_ n8_ n9_;clear hb hbox hg))
 (try simp only [Act.put,List.setIfInBounds_toArray,List.set_cons_zero,List.set_cons_succ])
 go_cut [24] (fun v24 wc=>∃ (kq : Nat) (x24_3 : Bool),v24 = .bool x24_3 ∧ Aside0 (impl_Arith.j0 kq a0 x24_3 a1_0 a1_1 a1_2 a2_0 a2_1 a2_2 = some (r1,r2,r3,r4)) ∧ Aside0 (kq ≤ k) ∧ Aside0 (wc.heap[gb269]? = some (.cells #[.int .i64 a1_0,.int .i64 a1_1,.string a1_2] 24 (0,0))) ∧ Aside0 (wc.heap[gb270]? = some (.cells #[.int .i64 a2_0,.int .i64 a2_1,.string a2_2] 24 (0,0))) ∧ Aside0 (wc.heap[gb271]? = some (.cells #[.int .i64 0,.int .i64 0,.string (⟨#[]⟩ : ByteArray)] 24 (0,0))) ∧ Aside0 (Below w.heap.size w wc))
 case first =>
  have H:=HC4.out
  clear HC4
  replace H:=Option.bind_eq_some_iff.mp H
  obtain ⟨t272,A80,H⟩:=H
  replace H : (if t272 = true then ((impl_CellOk.f a1_0 a1_1 a1_2).bind fun t273=>(if t273 = true then ((impl_CellOk.f a2_0 a2_1 a2_2).bind fun t274=>(impl_Arith.j0 k a0 (!t274) a1_0 a1_1 a1_2 a2_0 a2_1 a2_2)) else (impl_Arith.j0 k a0 true a1_0 a1_1 a1_2 a2_0 a2_1 a2_2))) else (impl_Arith.j0 k a0 true a1_0 a1_1 a1_2 a2_0 a2_1 a2_2)) = some (r1,r2,r3,r4):=H
  have A8:=Aside0.mk A80
  clear A80
  by_cases c9 : t272 = true
  ·subst c9
   have H1 : ((impl_CellOk.f a1_0 a1_1 a1_2).bind fun t273=>(if t273 = true then ((impl_CellOk.f a2_0 a2_1 a2_2).bind fun t274=>(impl_Arith.j0 k a0 (!t274) a1_0 a1_1 a1_2 a2_0 a2_1 a2_2)) else (impl_Arith.j0 k a0 true a1_0 a1_1 a1_2 a2_0 a2_1 a2_2))) = some (r1,r2,r3,r4):=by rw [if_pos rfl] at H;exact H
   clear H
   have H:=H1
   clear H1
   replace H:=Option.bind_eq_some_iff.mp H
   obtain ⟨t273,A100,H⟩:=H
   replace H : (if t273 = true then ((impl_CellOk.f a2_0 a2_1 a2_2).bind fun t274=>(impl_Arith.j0 k a0 (!t274) a1_0 a1_1 a1_2 a2_0 a2_1 a2_2)) else (impl_Arith.j0 k a0 true a1_0 a1_1 a1_2 a2_0 a2_1 a2_2)) = some (r1,r2,r3,r4):=H
   have A10:=Aside0.mk A100
   clear A100
   by_cases c11 : t273 = true
   ·subst c11
    have H1 : ((impl_CellOk.f a2_0 a2_1 a2_2).bind fun t274=>(impl_Arith.j0 k a0 (!t274) a1_0 a1_1 a1_2 a2_0 a2_1 a2_2)) = some (r1,r2,r3,r4):=by rw [if_pos rfl] at H;exact H
    clear H
    have H:=H1
    clear H1
    replace H:=Option.bind_eq_some_iff.mp H
    obtain ⟨t274,A120,H⟩:=H
    replace H : (impl_Arith.j0 k a0 (!t274) a1_0 a1_1 a1_2 a2_0 a2_1 a2_2) = some (r1,r2,r3,r4):=H
    have A12:=Aside0.mk A120
    clear A120
    have H':=Aside0.mk H
    clear H
    go_wp2_with (first|((with_reducible refine gate_callee (f:=25) rfl ?_);refine goesL_ (some 13) rfl rfl Tryz.func25 (by kernel_rfl) rfl #[.int .i64 a0,.int .i64 20,.int .i64 24] rfl (by (try simp only [List.map_toArray,List.map_cons,List.map_nil]);first|done|rfl|(simp only [List.length_drop,List.length_take];rfl)) ?_;(with_reducible refine (impl_between.calls a0 20 24 true _ A8.out).mono ?_);rintro e w' ⟨rfl,⟨nd,rfl⟩⟩;refine ⟨_,rfl,?_⟩;have hnb13:=NB269_270.out;have hnc13:=NB270_269.out;have hnb14:=NB269_271.out;have hnc14:=NB271_269.out;have hcz15_0 : w7.cell? ⟨gb269,0,none⟩ = some (.int .i64 a1_0):=(blk_cell BK269.out 0).trans rfl;have hcz15_1 : w7.cell? ⟨gb269,1,none⟩ = some (.int .i64 a1_1):=(blk_cell BK269.out 1).trans rfl;have hcz15_2 : w7.cell? ⟨gb269,2,none⟩ = some (.string a1_2):=(blk_cell BK269.out 2).trans rfl;have hfz15_0:=blk_frozen BK269.out 0;have hfz15_1:=blk_frozen BK269.out 1;have hfz15_2:=blk_frozen BK269.out 2)|(go_at_call 11;(with_reducible refine (impl_CellOk.calls a1_0 a1_1 a1_2 true _ A10.out).mono ?_);rintro e w16 ⟨rfl,hb⟩;have n0_:=Aside0.mk (blk_below (g:=gb269) (o:=.cells #[.int .i64 a1_0,.int .i64 a1_1,.string a1_2] 24 (0,0)) (by (with_reducible repeat (first|refine blk_drewN ?_ _|refine blk_drew ?_|refine blk_alloc ?_ _));exact BK269.out) hb);have n1_:=Aside0.mk (blk_below (g:=gb270) (o:=.cells #[.int .i64 a2_0,.int .i64 a2_1,.string a2_2] 24 (0,0)) (by (with_reducible repeat (first|refine blk_drewN ?_ _|refine blk_drew ?_|refine blk_alloc ?_ _));exact BK270.out) hb);have n2_:=Aside0.mk (blk_below (g:=gb271) (o:=.cells #[.int .i64 0,.int .i64 0,.string (⟨#[]⟩ : ByteArray)] 24 (0,0)) (by (with_reducible repeat (first|refine blk_drewN ?_ _|refine blk_drew ?_|refine blk_alloc ?_ _));exact BK271.out) hb);have n3_:=Aside0.mk (below_step (by repeat (first|(with_reducible first|exact HB.out|apply below_alloc|apply pw_below_drewN|apply below_drew1|refine below_set ?_ GE269.out|refine below_set ?_ GE270.out|refine below_set ?_ GE271.out)|exact HB.out)) hb);clear BK269;clear BK270;clear BK271;clear HB;have BK269:=n0_;have BK270:=n1_;have BK271:=n2_;have HB:=n3_;clear n0_ n1_ n2_ n3_;(try clear hb);(try clear hb2);(try clear hk);(try clear hi);have hnb17:=NB270_271.out;have hnc17:=NB271_270.out;have hcz18_0 : w16.cell? ⟨gb270,0,none⟩ = some (.int .i64 a2_0):=(blk_cell BK270.out 0).trans rfl;have hcz18_1 : w16.cell? ⟨gb270,1,none⟩ = some (.int .i64 a2_1):=(blk_cell BK270.out 1).trans rfl;have hcz18_2 : w16.cell? ⟨gb270,2,none⟩ = some (.string a2_2):=(blk_cell BK270.out 2).trans rfl;have hfz18_0:=blk_frozen BK270.out 0;have hfz18_1:=blk_frozen BK270.out 1;have hfz18_2:=blk_frozen BK270.out 2)|(go_at_call 11;(with_reducible refine (impl_CellOk.calls a2_0 a2_1 a2_2 t274 _ A12.out).mono ?_);rintro e w19 ⟨rfl,hb⟩;have n0_:=Aside0.mk (blk_below (g:=gb269) (o:=.cells #[.int .i64 a1_0,.int .i64 a1_1,.string a1_2] 24 (0,0)) (by (with_reducible repeat (first|refine blk_drewN ?_ _|refine blk_drew ?_|refine blk_alloc ?_ _));exact BK269.out) hb);have n1_:=Aside0.mk (blk_below (g:=gb270) (o:=.cells #[.int .i64 a2_0,.int .i64 a2_1,.string a2_2] 24 (0,0)) (by (with_reducible repeat (first|refine blk_drewN ?_ _|refine blk_drew ?_|refine blk_alloc ?_ _));exact BK270.out) hb);have n2_:=Aside0.mk (blk_below (g:=gb271) (o:=.cells #[.int .i64 0,.int .i64 0,.string (⟨#[]⟩ : ByteArray)] 24 (0,0)) (by (with_reducible repeat (first|refine blk_drewN ?_ _|refine blk_drew ?_|refine blk_alloc ?_ _));exact BK271.out) hb);have n3_:=Aside0.mk (below_step (by repeat (first|(with_reducible first|exact HB.out|apply below_alloc|apply pw_below_drewN|apply below_drew1|refine below_set ?_ GE269.out|refine below_set ?_ GE270.out|refine below_set ?_ GE271.out)|exact HB.out)) hb);clear BK269;clear BK270;clear BK271;clear HB;have BK269:=n0_;have BK270:=n1_;have BK271:=n2_;have HB:=n3_;clear n0_ n1_ n2_ n3_;(try clear hb);(try clear hb2);(try clear hk);(try clear hi)))
    go_meet
    case rel=>exact ⟨_,(!t274),(by first|rfl|(simp;done)|(simp [*];done)),H',⟨by first|omega|exact Nat.le_refl _⟩,⟨by (with_reducible repeat (first|refine blk_drewN ?_ _|refine blk_drew ?_|refine blk_alloc ?_ _));exact BK269.out⟩,⟨by (with_reducible repeat (first|refine blk_drewN ?_ _|refine blk_drew ?_|refine blk_alloc ?_ _));exact BK270.out⟩,⟨by (with_reducible repeat (first|refine blk_drewN ?_ _|refine blk_drew ?_|refine blk_alloc ?_ _));exact BK271.out⟩,⟨by repeat (first|(with_reducible first|exact HB.out|apply below_alloc|apply pw_below_drewN|apply below_drew1|refine below_set ?_ GE269.out|refine below_set ?_ GE270.out|refine below_set ?_ GE271.out)|exact HB.out)⟩⟩
   ·replace c11:=Bool.eq_false_iff.mpr c11
    subst c11
    have H1 : (impl_Arith.j0 k a0 true a1_0 a1_1 a1_2 a2_0 a2_1 a2_2) = some (r1,r2,r3,r4):=by rw [if_neg (show ¬ (false = true) by decide)] at H;exact H
    clear H
    have H:=H1
    clear H1
    have H':=Aside0.mk H
    clear H
    go_wp2_with (first|((with_reducible refine gate_callee (f:=25) rfl ?_);refine goesL_ (some 13) rfl rfl Tryz.func25 (by kernel_rfl) rfl #[.int .i64 a0,.int .i64 20,.int .i64 24] rfl (by (try simp only [List.map_toArray,List.map_cons,List.map_nil]);first|done|rfl|(simp only [List.length_drop,List.length_take];rfl)) ?_;(with_reducible refine (impl_between.calls a0 20 24 true _ A8.out).mono ?_);rintro e w' ⟨rfl,⟨nd,rfl⟩⟩;refine ⟨_,rfl,?_⟩;have hnb20:=NB269_270.out;have hnc20:=NB270_269.out;have hnb21:=NB269_271.out;have hnc21:=NB271_269.out;have hcz22_0 : w7.cell? ⟨gb269,0,none⟩ = some (.int .i64 a1_0):=(blk_cell BK269.out 0).trans rfl;have hcz22_1 : w7.cell? ⟨gb269,1,none⟩ = some (.int .i64 a1_1):=(blk_cell BK269.out 1).trans rfl;have hcz22_2 : w7.cell? ⟨gb269,2,none⟩ = some (.string a1_2):=(blk_cell BK269.out 2).trans rfl;have hfz22_0:=blk_frozen BK269.out 0;have hfz22_1:=blk_frozen BK269.out 1;have hfz22_2:=blk_frozen BK269.out 2)|(go_at_call 11;(with_reducible refine (impl_CellOk.calls a1_0 a1_1 a1_2 false _ A10.out).mono ?_);rintro e w23 ⟨rfl,hb⟩;have n0_:=Aside0.mk (blk_below (g:=gb269) (o:=.cells #[.int .i64 a1_0,.int .i64 a1_1,.string a1_2] 24 (0,0)) (by (with_reducible repeat (first|refine blk_drewN ?_ _|refine blk_drew ?_|refine blk_alloc ?_ _));exact BK269.out) hb);have n1_:=Aside0.mk (blk_below (g:=gb270) (o:=.cells #[.int .i64 a2_0,.int .i64 a2_1,.string a2_2] 24 (0,0)) (by (with_reducible repeat (first|refine blk_drewN ?_ _|refine blk_drew ?_|refine blk_alloc ?_ _));exact BK270.out) hb);have n2_:=Aside0.mk (blk_below (g:=gb271) (o:=.cells #[.int .i64 0,.int .i64 0,.string (⟨#[]⟩ : ByteArray)] 24 (0,0)) (by (with_reducible repeat (first|refine blk_drewN ?_ _|refine blk_drew ?_|refine blk_alloc ?_ _));exact BK271.out) hb);have n3_:=Aside0.mk (below_step (by repeat (first|(with_reducible first|exact HB.out|apply below_alloc|apply pw_below_drewN|apply below_drew1|refine below_set ?_ GE269.out|refine below_set ?_ GE270.out|refine below_set ?_ GE271.out)|exact HB.out)) hb);clear BK269;clear BK270;clear BK271;clear HB;have BK269:=n0_;have BK270:=n1_;have BK271:=n2_;have HB:=n3_;clear n0_ n1_ n2_ n3_;(try clear hb);(try clear hb2);(try clear hk);(try clear hi)))
    go_meet
    case rel=>exact ⟨_,(true),(by first|rfl|(simp;done)|(simp [*];done)),H',⟨by first|omega|exact Nat.le_refl _⟩,⟨by (with_reducible repeat (first|refine blk_drewN ?_ _|refine blk_drew ?_|refine blk_alloc ?_ _));exact BK269.out⟩,⟨by (with_reducible repeat (first|refine blk_drewN ?_ _|refine blk_drew ?_|refine blk_alloc ?_ _));exact BK270.out⟩,⟨by (with_reducible repeat (first|refine blk_drewN ?_ _|refine blk_drew ?_|refine blk_alloc ?_ _));exact BK271.out⟩,⟨by repeat (first|(with_reducible first|exact HB.out|apply below_alloc|apply pw_below_drewN|apply below_drew1|refine below_set ?_ GE269.out|refine below_set ?_ GE270.out|refine below_set ?_ GE271.out)|exact HB.out)⟩⟩
  ·replace c9:=Bool.eq_false_iff.mpr c9
   subst c9
   have H1 : (impl_Arith.j0 k a0 true a1_0 a1_1 a1_2 a2_0 a2_1 a2_2) = some (r1,r2,r3,r4):=by rw [if_neg (show ¬ (false = true) by decide)] at H;exact H
   clear H
   have H:=H1
   clear H1
   have H':=Aside0.mk H
   clear H
   go_wp2_with (first|((with_reducible refine gate_callee (f:=25) rfl ?_);refine goesL_ (some 13) rfl rfl Tryz.func25 (by kernel_rfl) rfl #[.int .i64 a0,.int .i64 20,.int .i64 24] rfl (by (try simp only [List.map_toArray,List.map_cons,List.map_nil]);first|done|rfl|(simp only [List.length_drop,List.length_take];rfl)) ?_;(with_reducible refine (impl_between.calls a0 20 24 false _ A8.out).mono ?_);rintro e w' ⟨rfl,⟨nd,rfl⟩⟩;refine ⟨_,rfl,?_⟩))
   go_meet
   case rel=>exact ⟨_,(true),(by first|rfl|(simp;done)|(simp [*];done)),H',⟨by first|omega|exact Nat.le_refl _⟩,⟨by (with_reducible repeat (first|refine blk_drewN ?_ _|refine blk_drew ?_|refine blk_alloc ?_ _));exact BK269.out⟩,⟨by (with_reducible repeat (first|refine blk_drewN ?_ _|refine blk_drew ?_|refine blk_alloc ?_ _));exact BK270.out⟩,⟨by (with_reducible repeat (first|refine blk_drewN ?_ _|refine blk_drew ?_|refine blk_alloc ?_ _));exact BK271.out⟩,⟨by repeat (first|(with_reducible first|exact HB.out|apply below_alloc|apply pw_below_drewN|apply below_drew1|refine below_set ?_ GE269.out|refine below_set ?_ GE270.out|refine below_set ?_ GE271.out)|exact HB.out)⟩⟩
 case rest =>
  clear HC4
  try clear c1
  try clear c2
  try clear p2
  try clear c7
  try clear c9
  try clear c11
  try clear c13
  try clear c14
  try clear c17
  try clear c20
  try clear c21
  try clear hcz15_0
  try clear hcz15_1
  try clear hcz15_2
  try clear hcz18_0
  try clear hcz18_1
  try clear hcz18_2
  try clear hcz22_0
  try clear hcz22_1
  try clear hcz22_2
  try clear hfz15_0
  try clear hfz15_1
  try clear hfz15_2
  try clear hfz18_0
  try clear hfz18_1
  try clear hfz18_2
  try clear hfz22_0
  try clear hfz22_1
  try clear hfz22_2
  obtain ⟨kq,x24_3,rfl,HA,HJ3,BK269,BK270,BK271,HB⟩:=hcut
  cases kq with
  | zero=>exact absurd HA.out (by simp [impl_Arith.j0])
  | succ kj3 =>
   have H:=HA.out
   clear HA
   simp only [impl_Arith.j0] at H
   by_cases c24 : x24_3 = true
   ·subst c24
    have H1 : (some (0,0,(⟨#[]⟩ : ByteArray),3)) = some (r1,r2,r3,r4):=by rw [if_pos rfl] at H;exact H
    clear H
    have H:=H1
    clear H1
    simp only [Option.some.injEq,Prod.mk.injEq] at H
    obtain ⟨rfl,rfl,rfl,rfl⟩:=H
    have hnb25:=NB271_269.out
    have hnc25:=NB269_271.out
    have hnb26:=NB271_270.out
    have hnc26:=NB270_271.out
    have hcz27_0 : wc.cell? ⟨gb271,0,none⟩ = some (.int .i64 0):=(blk_cell BK271.out 0).trans rfl
    have hcz27_1 : wc.cell? ⟨gb271,1,none⟩ = some (.int .i64 0):=(blk_cell BK271.out 1).trans rfl
    have hcz27_2 : wc.cell? ⟨gb271,2,none⟩ = some (.string (⟨#[]⟩ : ByteArray)):=(blk_cell BK271.out 2).trans rfl
    have hfz27_0:=blk_frozen BK271.out 0
    have hfz27_1:=blk_frozen BK271.out 1
    have hfz27_2:=blk_frozen BK271.out 2
    go_wp2
    refine bodyPost_ret (results_ct rfl _ _ gb271 24 #[.int .i64 0,.int .i64 0,.string (⟨#[]⟩ : ByteArray)] (0,0) _ rfl (by (with_reducible repeat (first|refine blk_drewN ?_ _|refine blk_drew ?_|refine blk_alloc ?_ _));refine blk_put (cs:=#[.int .i64 0,.int .i64 0,.string (⟨#[]⟩ : ByteArray)]) ?_ 2 _ rfl;(with_reducible repeat (first|refine blk_drewN ?_ _|refine blk_drew ?_|refine blk_alloc ?_ _));refine blk_put (cs:=#[.int .i64 0,.int .i64 0,.string (⟨#[]⟩ : ByteArray)]) ?_ 1 _ rfl;(with_reducible repeat (first|refine blk_drewN ?_ _|refine blk_drew ?_|refine blk_alloc ?_ _));refine blk_put (cs:=#[.int .i64 0,.int .i64 0,.string (⟨#[]⟩ : ByteArray)]) ?_ 0 _ rfl;(with_reducible repeat (first|refine blk_drewN ?_ _|refine blk_drew ?_|refine blk_alloc ?_ _));exact BK271.out) Tryz.underlying24 rfl (by kernel_rfl)) rfl ?_
    exact ⟨by first|rfl|(simp [errW_none,errW_some] <;> rfl)|(simp [*,errW_none,errW_some] <;> rfl),by repeat (first|(with_reducible first|exact HB.out|apply below_alloc|apply pw_below_drewN|apply below_drew1|refine below_set ?_ GE269.out|refine below_set ?_ GE270.out|refine below_set ?_ GE271.out)|exact HB.out)⟩
   ·replace c24:=Bool.eq_false_iff.mpr c24
    subst c24
    have H1 : ((impl_Cell_num.f a1_0 a1_1 a1_2).bind fun t275=>((impl_Cell_num.f a2_0 a2_1 a2_2).bind fun t276=>(if t276 = 0 then (if a0 = 23 then (impl_Arith.j1 kj3 a0 t275 t276 0 false true) else (impl_Arith.j1 kj3 a0 t275 t276 0 false (a0 == 24))) else (impl_Arith.j1 kj3 a0 t275 t276 0 false false)))) = some (r1,r2,r3,r4):=by rw [if_neg (show ¬ (false = true) by decide)] at H;exact H
    clear H
    have H:=H1
    clear H1
    replace H:=Option.bind_eq_some_iff.mp H
    obtain ⟨t275,A280,H⟩:=H
    replace H : ((impl_Cell_num.f a2_0 a2_1 a2_2).bind fun t276=>(if t276 = 0 then (if a0 = 23 then (impl_Arith.j1 kj3 a0 t275 t276 0 false true) else (impl_Arith.j1 kj3 a0 t275 t276 0 false (a0 == 24))) else (impl_Arith.j1 kj3 a0 t275 t276 0 false false))) = some (r1,r2,r3,r4):=H
    have A28:=Aside0.mk A280
    clear A280
    replace H:=Option.bind_eq_some_iff.mp H
    obtain ⟨t276,A290,H⟩:=H
    replace H : (if t276 = 0 then (if a0 = 23 then (impl_Arith.j1 kj3 a0 t275 t276 0 false true) else (impl_Arith.j1 kj3 a0 t275 t276 0 false (a0 == 24))) else (impl_Arith.j1 kj3 a0 t275 t276 0 false false)) = some (r1,r2,r3,r4):=H
    have A29:=Aside0.mk A290
    clear A290
    have HC30:=Aside0.mk H
    clear H
    try go_wp2
    have n0_:=Aside0.mk (blk_drew BK269.out)
    have n1_:=Aside0.mk (blk_drew BK270.out)
    have n2_:=Aside0.mk (blk_drew BK271.out)
    have n3_:=Aside0.mk (below_drew1 HB.out)
    clear BK269
    clear BK270
    clear BK271
    clear HB
    have BK269:=n0_
    have BK270:=n1_
    have BK271:=n2_
    have HB:=n3_
    clear n0_ n1_ n2_ n3_
    refine start_ (n:=8) (S:=fun w'=>w'.cell? ⟨gb269,0,none⟩ = some (.int .i64 a1_0) ∧ w'.cell? ⟨gb269,1,none⟩ = some (.int .i64 a1_1) ∧ w'.cell? ⟨gb269,2,none⟩ = some (.string a1_2) ∧ w'.cell? ⟨gb270,0,none⟩ = some (.int .i64 a2_0) ∧ w'.cell? ⟨gb270,1,none⟩ = some (.int .i64 a2_1) ∧ w'.cell? ⟨gb270,2,none⟩ = some (.string a2_2)) (ds:=[]) #[false,false,false,false,false,false,false,false] (by kernel_rfl) rfl rfl ⟨(blk_cell BK269.out 0).trans rfl,(blk_cell BK269.out 1).trans rfl,(blk_cell BK269.out 2).trans rfl,(blk_cell BK270.out 0).trans rfl,(blk_cell BK270.out 1).trans rfl,(blk_cell BK270.out 2).trans rfl⟩ (fun hHeld=>?_);refine with_tabW impl_Arith.tab3 impl_Arith.bits3 (fun HT_ HW_=>?_)
    generalize wc.drew = w31 at BK269 BK270 BK271 HB hHeld ⊢
    refine take_ (i:=0) (N:=some 26) (v:=?_) (a':=?_) #[true,false,false,false,false,false,false,false] rfl rfl (take_ofW HT_.out HW_.out (by kernel_rfl)) (fun _ _ _ h=>h) (Or.inl ⟨by rfl,?_⟩) hHeld ?_ ?_
    rotate_left
    ·rintro w' ⟨s0,s1,s2,s3,s4,s5⟩
     go_simp
     first|with_reducible rfl|(rw [if_neg (by simp only [ByteArray.size_append,ByteArray.size_extract,eq_iff_iff,iff_true,iff_false] at *;omega)];try with_reducible rfl)
    rotate_left
    ·simp only [Act.put,List.setIfInBounds_toArray,List.set_cons_zero,List.set_cons_succ,i64_w,i32_w]
     rfl
    refine take_ (i:=2) (N:=some 28) (v:=?_) (a':=?_) #[true,false,true,false,false,false,false,false] rfl rfl (take_ofW HT_.out HW_.out (by kernel_rfl)) (fun _ _ _ h=>h) (Or.inl ⟨by rfl,?_⟩) hHeld ?_ ?_
    rotate_left
    ·rintro w' ⟨s0,s1,s2,s3,s4,s5⟩
     go_simp
     first|with_reducible rfl|(rw [if_neg (by simp only [ByteArray.size_append,ByteArray.size_extract,eq_iff_iff,iff_true,iff_false] at *;omega)];try with_reducible rfl)
    rotate_left
    ·simp only [Act.put,List.setIfInBounds_toArray,List.set_cons_zero,List.set_cons_succ,i64_w,i32_w]
     rfl
    refine one_ (i:=1) (N:=some 27) #[true,true,true,false,false,false,false,false] rfl rfl (one_of HT_.out (by kernel_rfl)) (by decide) (fun K hK=>?_)
    refine goes_ Tryz.func26 (by kernel_rfl) rfl #[.agg #[.int .i64 a1_0,.int .i64 a1_1,.string a1_2]] (by rfl) rfl rfl (by (try simp only [List.map_toArray,List.map_cons,List.map_nil]);first|done|rfl|(simp only [List.length_drop,List.length_take];rfl)) ?_
    with_reducible refine (impl_Cell_num.calls a1_0 a1_1 a1_2 t275 _ A28.out).mono ?_
    rintro e w32 ⟨rfl,hb⟩
    refine ⟨_,rfl,?_⟩
    have n0_:=Aside0.mk (blk_below (g:=gb269) (o:=.cells #[.int .i64 a1_0,.int .i64 a1_1,.string a1_2] 24 (0,0)) (by (with_reducible repeat (first|refine blk_drewN ?_ _|refine blk_drew ?_|refine blk_alloc ?_ _));exact BK269.out) hb)
    have n1_:=Aside0.mk (blk_below (g:=gb270) (o:=.cells #[.int .i64 a2_0,.int .i64 a2_1,.string a2_2] 24 (0,0)) (by (with_reducible repeat (first|refine blk_drewN ?_ _|refine blk_drew ?_|refine blk_alloc ?_ _));exact BK270.out) hb)
    have n2_:=Aside0.mk (blk_below (g:=gb271) (o:=.cells #[.int .i64 0,.int .i64 0,.string (⟨#[]⟩ : ByteArray)] 24 (0,0)) (by (with_reducible repeat (first|refine blk_drewN ?_ _|refine blk_drew ?_|refine blk_alloc ?_ _));exact BK271.out) hb)
    have n3_:=Aside0.mk (below_step (by repeat (first|(with_reducible first|exact HB.out|apply below_alloc|apply pw_below_drewN|apply below_drew1|refine below_set ?_ GE269.out|refine below_set ?_ GE270.out|refine below_set ?_ GE271.out)|exact HB.out)) hb)
    clear BK269
    clear BK270
    clear BK271
    clear HB
    have BK269:=n0_
    have BK270:=n1_
    have BK271:=n2_
    have HB:=n3_
    clear n0_ n1_ n2_ n3_
    (try clear hb)
    (try clear hb2)
    (try clear hk)
    (try clear hi)
    refine hK.out _ _ ⟨(blk_cell BK269.out 0).trans rfl,(blk_cell BK269.out 1).trans rfl,(blk_cell BK269.out 2).trans rfl,(blk_cell BK270.out 0).trans rfl,(blk_cell BK270.out 1).trans rfl,(blk_cell BK270.out 2).trans rfl⟩ (fun hHeld=>?_)
    clear hK K
    refine norm_ (a':=?_) ?_ ?_
    rotate_left
    ·show Act.put _ (some 27) _ = _
     simp only [Act.put,List.setIfInBounds_toArray,List.set_cons_zero,List.set_cons_succ,i64_w,i32_w]
     rfl
    refine one_ (i:=3) (N:=some 29) #[true,true,true,true,false,false,false,false] rfl rfl (one_of HT_.out (by kernel_rfl)) (by decide) (fun K hK=>?_)
    refine goes_ Tryz.func26 (by kernel_rfl) rfl #[.agg #[.int .i64 a2_0,.int .i64 a2_1,.string a2_2]] (by rfl) rfl rfl (by (try simp only [List.map_toArray,List.map_cons,List.map_nil]);first|done|rfl|(simp only [List.length_drop,List.length_take];rfl)) ?_
    with_reducible refine (impl_Cell_num.calls a2_0 a2_1 a2_2 t276 _ A29.out).mono ?_
    rintro e w33 ⟨rfl,hb⟩
    refine ⟨_,rfl,?_⟩
    have n0_:=Aside0.mk (blk_below (g:=gb269) (o:=.cells #[.int .i64 a1_0,.int .i64 a1_1,.string a1_2] 24 (0,0)) (by (with_reducible repeat (first|refine blk_drewN ?_ _|refine blk_drew ?_|refine blk_alloc ?_ _));exact BK269.out) hb)
    have n1_:=Aside0.mk (blk_below (g:=gb270) (o:=.cells #[.int .i64 a2_0,.int .i64 a2_1,.string a2_2] 24 (0,0)) (by (with_reducible repeat (first|refine blk_drewN ?_ _|refine blk_drew ?_|refine blk_alloc ?_ _));exact BK270.out) hb)
    have n2_:=Aside0.mk (blk_below (g:=gb271) (o:=.cells #[.int .i64 0,.int .i64 0,.string (⟨#[]⟩ : ByteArray)] 24 (0,0)) (by (with_reducible repeat (first|refine blk_drewN ?_ _|refine blk_drew ?_|refine blk_alloc ?_ _));exact BK271.out) hb)
    have n3_:=Aside0.mk (below_step (by repeat (first|(with_reducible first|exact HB.out|apply below_alloc|apply pw_below_drewN|apply below_drew1|refine below_set ?_ GE269.out|refine below_set ?_ GE270.out|refine below_set ?_ GE271.out)|exact HB.out)) hb)
    clear BK269
    clear BK270
    clear BK271
    clear HB
    have BK269:=n0_
    have BK270:=n1_
    have BK271:=n2_
    have HB:=n3_
    clear n0_ n1_ n2_ n3_
    (try clear hb)
    (try clear hb2)
    (try clear hk)
    (try clear hi)
    refine hK.out _ _ ⟨(blk_cell BK269.out 0).trans rfl,(blk_cell BK269.out 1).trans rfl,(blk_cell BK269.out 2).trans rfl,(blk_cell BK270.out 0).trans rfl,(blk_cell BK270.out 1).trans rfl,(blk_cell BK270.out 2).trans rfl⟩ (fun hHeld=>?_)
    clear hK K
    refine norm_ (a':=?_) ?_ ?_
    rotate_left
    ·show Act.put _ (some 29) _ = _
     simp only [Act.put,List.setIfInBounds_toArray,List.set_cons_zero,List.set_cons_succ,i64_w,i32_w]
     rfl
    refine pure_ (i:=4) (N:=some 8) (v:=?_) (a':=?_) #[true,true,true,true,true,false,false,false] rfl rfl (any_of HT_.out (by kernel_rfl)) (fun _ _ _ h=>h) (Or.inl ⟨by rfl,?_⟩) ?_ ?_
    rotate_left
    ·intro w'
     go_simp
     first|with_reducible rfl|(rw [if_neg (by simp only [ByteArray.size_append,ByteArray.size_extract,eq_iff_iff,iff_true,iff_false] at *;omega)];try with_reducible rfl)
    rotate_left
    ·simp only [Act.put,List.setIfInBounds_toArray,List.set_cons_zero,List.set_cons_succ,i64_w,i32_w]
     rfl
    refine pure_ (i:=5) (N:=some 9) (v:=?_) (a':=?_) #[true,true,true,true,true,true,false,false] rfl rfl (any_of HT_.out (by kernel_rfl)) (fun _ _ _ h=>h) (Or.inl ⟨by rfl,?_⟩) ?_ ?_
    rotate_left
    ·intro w'
     go_simp
     first|with_reducible rfl|(rw [if_neg (by simp only [ByteArray.size_append,ByteArray.size_extract,eq_iff_iff,iff_true,iff_false] at *;omega)];try with_reducible rfl)
    rotate_left
    ·simp only [Act.put,List.setIfInBounds_toArray,List.set_cons_zero,List.set_cons_succ,i64_w,i32_w]
     rfl
    refine pure_ (i:=6) (N:=some 10) (v:=?_) (a':=?_) #[true,true,true,true,true,true,true,false] rfl rfl (any_of HT_.out (by kernel_rfl)) (fun _ _ _ h=>h) (Or.inl ⟨by rfl,?_⟩) ?_ ?_
    rotate_left
    ·intro w'
     go_simp
     first|with_reducible rfl|(rw [if_neg (by simp only [ByteArray.size_append,ByteArray.size_extract,eq_iff_iff,iff_true,iff_false] at *;omega)];try with_reducible rfl)
    rotate_left
    ·simp only [Act.put,List.setIfInBounds_toArray,List.set_cons_zero,List.set_cons_succ,i64_w,i32_w]
     rfl
    refine pure_ (i:=7) (N:=some 11) (v:=?_) (a':=?_) #[true,true,true,true,true,true,true,true] rfl rfl (any_of HT_.out (by kernel_rfl)) (fun _ _ _ h=>h) (Or.inl ⟨by rfl,?_⟩) ?_ ?_
    rotate_left
    ·intro w'
     go_simp
     first|with_reducible rfl|(rw [if_neg (by simp only [ByteArray.size_append,ByteArray.size_extract,eq_iff_iff,iff_true,iff_false] at *;omega)];try with_reducible rfl)
    rotate_left
    ·simp only [Act.put,List.setIfInBounds_toArray,List.set_cons_zero,List.set_cons_succ,i64_w,i32_w]
     rfl
    refine done_ (done_of HT_.out (by kernel_rfl)) ?_
    go_upto_region 4 with (fail)
    go_cut [39] (fun v39 wc=>∃ (kq : Nat) (x39_29 : Bool),v39 = .bool x39_29 ∧ Aside0 (impl_Arith.j1 kq a0 t275 t276 0 false x39_29 = some (r1,r2,r3,r4)) ∧ Aside0 (kq ≤ kj3) ∧ Aside0 (wc.heap[gb269]? = some (.cells #[.int .i64 a1_0,.int .i64 a1_1,.string a1_2] 24 (0,0))) ∧ Aside0 (wc.heap[gb270]? = some (.cells #[.int .i64 a2_0,.int .i64 a2_1,.string a2_2] 24 (0,0))) ∧ Aside0 (wc.heap[gb271]? = some (.cells #[.int .i64 0,.int .i64 0,.string (⟨#[]⟩ : ByteArray)] 24 (0,0))) ∧ Aside0 (Below w.heap.size w wc))
    case first =>
     have H:=HC30.out
     clear HC30
     by_cases c34 : t276 = 0
     ·rw [if_pos c34] at H
      have c34b0 : (t276 == 0) = true:=beq_iff_eq.mpr c34
      have c34b1 : (t276 != 0) = false:=bne_eq_false_iff_eq.mpr c34
      clear c34
      (first|rw [c34b0]|(simp only [i64_w,i32_w];rw [c34b0])|skip)
      by_cases c35 : a0 = 23
      ·rw [if_pos c35] at H
       have c35b0 : (a0 == 23) = true:=beq_iff_eq.mpr c35
       have c35b1 : (a0 != 23) = false:=bne_eq_false_iff_eq.mpr c35
       clear c35
       have H':=Aside0.mk H
       clear H
       go_wp2
       go_meet
       case rel=>exact ⟨_,(true),(by first|rfl|(simp;done)|(simp [*];done)),H',⟨by have:=HJ3.out;first|omega|exact Nat.le_refl _⟩,⟨by (with_reducible repeat (first|refine blk_drewN ?_ _|refine blk_drew ?_|refine blk_alloc ?_ _));exact BK269.out⟩,⟨by (with_reducible repeat (first|refine blk_drewN ?_ _|refine blk_drew ?_|refine blk_alloc ?_ _));exact BK270.out⟩,⟨by (with_reducible repeat (first|refine blk_drewN ?_ _|refine blk_drew ?_|refine blk_alloc ?_ _));exact BK271.out⟩,⟨by repeat (first|(with_reducible first|exact HB.out|apply below_alloc|apply pw_below_drewN|apply below_drew1|refine below_set ?_ GE269.out|refine below_set ?_ GE270.out|refine below_set ?_ GE271.out)|exact HB.out)⟩⟩
      ·rw [if_neg c35] at H
       have c35b0 : (a0 == 23) = false:=beq_eq_false_iff_ne.mpr c35
       have c35b1 : (a0 != 23) = true:=bne_iff_ne.mpr c35
       have H':=Aside0.mk H
       clear H
       go_wp2
       go_meet
       case rel=>exact ⟨_,((a0 == 24)),(by first|rfl|(simp;done)|(simp [*];done)),H',⟨by have:=HJ3.out;first|omega|exact Nat.le_refl _⟩,⟨by (with_reducible repeat (first|refine blk_drewN ?_ _|refine blk_drew ?_|refine blk_alloc ?_ _));exact BK269.out⟩,⟨by (with_reducible repeat (first|refine blk_drewN ?_ _|refine blk_drew ?_|refine blk_alloc ?_ _));exact BK270.out⟩,⟨by (with_reducible repeat (first|refine blk_drewN ?_ _|refine blk_drew ?_|refine blk_alloc ?_ _));exact BK271.out⟩,⟨by repeat (first|(with_reducible first|exact HB.out|apply below_alloc|apply pw_below_drewN|apply below_drew1|refine below_set ?_ GE269.out|refine below_set ?_ GE270.out|refine below_set ?_ GE271.out)|exact HB.out)⟩⟩
     ·rw [if_neg c34] at H
      have c34b0 : (t276 == 0) = false:=beq_eq_false_iff_ne.mpr c34
      have c34b1 : (t276 != 0) = true:=bne_iff_ne.mpr c34
      (first|rw [c34b0]|(simp only [i64_w,i32_w];rw [c34b0])|skip)
      have H':=Aside0.mk H
      clear H
      go_wp2
      go_meet
      case rel=>exact ⟨_,(false),(by first|rfl|(simp;done)|(simp [*];done)),H',⟨by have:=HJ3.out;first|omega|exact Nat.le_refl _⟩,⟨by (with_reducible repeat (first|refine blk_drewN ?_ _|refine blk_drew ?_|refine blk_alloc ?_ _));exact BK269.out⟩,⟨by (with_reducible repeat (first|refine blk_drewN ?_ _|refine blk_drew ?_|refine blk_alloc ?_ _));exact BK270.out⟩,⟨by (with_reducible repeat (first|refine blk_drewN ?_ _|refine blk_drew ?_|refine blk_alloc ?_ _));exact BK271.out⟩,⟨by repeat (first|(with_reducible first|exact HB.out|apply below_alloc|apply pw_below_drewN|apply below_drew1|refine below_set ?_ GE269.out|refine below_set ?_ GE270.out|refine below_set ?_ GE271.out)|exact HB.out)⟩⟩
    case rest =>
     clear HC30
     try clear c1
     try clear c2
     try clear p2
     try clear c3
     try clear c7
     try clear c9
     try clear c11
     try clear c13
     try clear c14
     try clear c17
     try clear c20
     try clear c21
     try clear c24
     try clear c25
     try clear c26
     try clear c34
     try clear c34b0
     try clear c34b1
     try clear c35
     try clear c35b0
     try clear c35b1
     try clear hcz15_0
     try clear hcz15_1
     try clear hcz15_2
     try clear hcz18_0
     try clear hcz18_1
     try clear hcz18_2
     try clear hcz22_0
     try clear hcz22_1
     try clear hcz22_2
     try clear hcz27_0
     try clear hcz27_1
     try clear hcz27_2
     try clear hfz15_0
     try clear hfz15_1
     try clear hfz15_2
     try clear hfz18_0
     try clear hfz18_1
     try clear hfz18_2
     try clear hfz22_0
     try clear hfz22_1
     try clear hfz22_2
     try clear hfz27_0
     try clear hfz27_1
     try clear hfz27_2
     try clear p2
     obtain ⟨kq,x39_29,rfl,HA,HJ29,BK269,BK270,BK271,HB⟩:=hcut
     cases kq with
     | zero=>exact absurd HA.out (by simp [impl_Arith.j1])
     | succ kj29 =>
      have H:=HA.out
      clear HA
      simp only [impl_Arith.j1] at H
      by_cases c36 : x39_29 = true
      ·subst c36
       have H1 : (some (0,0,(⟨#[]⟩ : ByteArray),2)) = some (r1,r2,r3,r4):=by rw [if_pos rfl] at H;exact H
       clear H
       have H:=H1
       clear H1
       simp only [Option.some.injEq,Prod.mk.injEq] at H
       obtain ⟨rfl,rfl,rfl,rfl⟩:=H
       have hnb37:=NB271_269.out
       have hnc37:=NB269_271.out
       have hnb38:=NB271_270.out
       have hnc38:=NB270_271.out
       have hcz39_0 : wc.cell? ⟨gb271,0,none⟩ = some (.int .i64 0):=(blk_cell BK271.out 0).trans rfl
       have hcz39_1 : wc.cell? ⟨gb271,1,none⟩ = some (.int .i64 0):=(blk_cell BK271.out 1).trans rfl
       have hcz39_2 : wc.cell? ⟨gb271,2,none⟩ = some (.string (⟨#[]⟩ : ByteArray)):=(blk_cell BK271.out 2).trans rfl
       have hfz39_0:=blk_frozen BK271.out 0
       have hfz39_1:=blk_frozen BK271.out 1
       have hfz39_2:=blk_frozen BK271.out 2
       go_wp2
       refine bodyPost_ret (results_ct rfl _ _ gb271 24 #[.int .i64 0,.int .i64 0,.string (⟨#[]⟩ : ByteArray)] (0,0) _ rfl (by (with_reducible repeat (first|refine blk_drewN ?_ _|refine blk_drew ?_|refine blk_alloc ?_ _));refine blk_put (cs:=#[.int .i64 0,.int .i64 0,.string (⟨#[]⟩ : ByteArray)]) ?_ 2 _ rfl;(with_reducible repeat (first|refine blk_drewN ?_ _|refine blk_drew ?_|refine blk_alloc ?_ _));refine blk_put (cs:=#[.int .i64 0,.int .i64 0,.string (⟨#[]⟩ : ByteArray)]) ?_ 1 _ rfl;(with_reducible repeat (first|refine blk_drewN ?_ _|refine blk_drew ?_|refine blk_alloc ?_ _));refine blk_put (cs:=#[.int .i64 0,.int .i64 0,.string (⟨#[]⟩ : ByteArray)]) ?_ 0 _ rfl;(with_reducible repeat (first|refine blk_drewN ?_ _|refine blk_drew ?_|refine blk_alloc ?_ _));exact BK271.out) Tryz.underlying24 rfl (by kernel_rfl)) rfl ?_
       exact ⟨by first|rfl|(simp [errW_none,errW_some] <;> rfl)|(simp [*,errW_none,errW_some] <;> rfl),by repeat (first|(with_reducible first|exact HB.out|apply below_alloc|apply pw_below_drewN|apply below_drew1|refine below_set ?_ GE269.out|refine below_set ?_ GE270.out|refine below_set ?_ GE271.out)|exact HB.out)⟩
      ·replace c36:=Bool.eq_false_iff.mpr c36
       subst c36
       have H1 : (if a0 = 20 then ((impl_DecAdd.f t275 t276).bind fun bt277=>(if bt277.2 = true then (some (1,bt277.1,(⟨#[]⟩ : ByteArray),0)) else (some (0,0,(⟨#[]⟩ : ByteArray),1)))) else (if a0 = 21 then ((impl_DecSub.f t275 t276).bind fun bt279=>(if bt279.2 = true then (some (1,bt279.1,(⟨#[]⟩ : ByteArray),0)) else (some (0,0,(⟨#[]⟩ : ByteArray),1)))) else (if a0 = 22 then ((impl_DecMul.f kj29 t275 t276).bind fun bt281=>(if bt281.2 = true then (some (1,bt281.1,(⟨#[]⟩ : ByteArray),0)) else (some (0,0,(⟨#[]⟩ : ByteArray),1)))) else (if a0 = 23 then ((impl_DecDiv.f t275 t276).bind fun bt283=>(if bt283.2 = true then (some (1,bt283.1,(⟨#[]⟩ : ByteArray),0)) else (some (0,0,(⟨#[]⟩ : ByteArray),1)))) else (if a0 = 24 then ((impl_DecMod.f t275 t276).bind fun bt285=>(if bt285.2 = true then (some (1,bt285.1,(⟨#[]⟩ : ByteArray),0)) else (some (0,0,(⟨#[]⟩ : ByteArray),1)))) else (if false = true then (some (1,0,(⟨#[]⟩ : ByteArray),0)) else (some (0,0,(⟨#[]⟩ : ByteArray),1)))))))) = some (r1,r2,r3,r4):=by rw [if_neg (show ¬ (false = true) by decide)] at H;exact H
       clear H
       have H:=H1
       clear H1
       by_cases c40 : a0 = 20
       ·rw [if_pos c40] at H
        have c40b0 : (a0 == 20) = true:=beq_iff_eq.mpr c40
        have c40b1 : (a0 != 20) = false:=bne_eq_false_iff_eq.mpr c40
        clear c40
        replace H:=Option.bind_eq_some_iff.mp H
        obtain ⟨⟨t277,t278⟩,A410,H⟩:=H
        replace H : (if t278 = true then (some (1,t277,(⟨#[]⟩ : ByteArray),0)) else (some (0,0,(⟨#[]⟩ : ByteArray),1))) = some (r1,r2,r3,r4):=H
        have A41:=Aside0.mk A410
        clear A410
        by_cases c42 : t278 = true
        ·subst c42
         have H1 : (some (1,t277,(⟨#[]⟩ : ByteArray),0)) = some (r1,r2,r3,r4):=by rw [if_pos rfl] at H;exact H
         clear H
         have H:=H1
         clear H1
         simp only [Option.some.injEq,Prod.mk.injEq] at H
         obtain ⟨rfl,rfl,rfl,rfl⟩:=H
         go_wp2_with (first|((with_reducible refine gate_callee (f:=27) rfl ?_);refine goesL_ (some 47) rfl rfl Tryz.func27 (by kernel_rfl) rfl #[.int .i64 t275,.int .i64 t276] rfl (by (try simp only [List.map_toArray,List.map_cons,List.map_nil]);first|done|rfl|(simp only [List.length_drop,List.length_take];rfl)) ?_;(with_reducible refine (impl_DecAdd.calls t275 t276 t277 true _ A41.out).mono ?_);rintro e w' ⟨rfl,⟨nd,rfl⟩⟩;refine ⟨_,rfl,?_⟩;(try (rw [drewN_self wc];generalize hq_ : World.drewN wc _ = wc;have n0_ : Aside0 (wc.heap[gb269]? = some (.cells #[.int .i64 a1_0,.int .i64 a1_1,.string a1_2] 24 (0,0))):=⟨by rw [← hq_];exact (by (with_reducible repeat (first|refine blk_drewN ?_ _|refine blk_drew ?_|refine blk_alloc ?_ _));exact BK269.out)⟩;have n1_ : Aside0 (wc.heap[gb270]? = some (.cells #[.int .i64 a2_0,.int .i64 a2_1,.string a2_2] 24 (0,0))):=⟨by rw [← hq_];exact (by (with_reducible repeat (first|refine blk_drewN ?_ _|refine blk_drew ?_|refine blk_alloc ?_ _));exact BK270.out)⟩;have n2_ : Aside0 (wc.heap[gb271]? = some (.cells #[.int .i64 0,.int .i64 0,.string (⟨#[]⟩ : ByteArray)] 24 (0,0))):=⟨by rw [← hq_];exact (by (with_reducible repeat (first|refine blk_drewN ?_ _|refine blk_drew ?_|refine blk_alloc ?_ _));exact BK271.out)⟩;have n3_ : Aside0 (Below w.heap.size w wc):=⟨by rw [← hq_];exact (by repeat (first|(with_reducible first|exact HB.out|apply below_alloc|apply pw_below_drewN|apply below_drew1|refine below_set ?_ GE269.out|refine below_set ?_ GE270.out|refine below_set ?_ GE271.out)|exact HB.out))⟩;clear BK269 BK270 BK271 HB hq_;have BK269:=n0_;have BK270:=n1_;have BK271:=n2_;have HB:=n3_;clear n0_ n1_ n2_ n3_));have hnb43:=NB271_269.out;have hnc43:=NB269_271.out;have hnb44:=NB271_270.out;have hnc44:=NB270_271.out;have hcz45_0 : wc.cell? ⟨gb271,0,none⟩ = some (.int .i64 0):=(blk_cell BK271.out 0).trans rfl;have hcz45_1 : wc.cell? ⟨gb271,1,none⟩ = some (.int .i64 0):=(blk_cell BK271.out 1).trans rfl;have hcz45_2 : wc.cell? ⟨gb271,2,none⟩ = some (.string (⟨#[]⟩ : ByteArray)):=(blk_cell BK271.out 2).trans rfl;have hfz45_0:=blk_frozen BK271.out 0;have hfz45_1:=blk_frozen BK271.out 1;have hfz45_2:=blk_frozen BK271.out 2))
         refine bodyPost_ret (results_ct rfl _ _ gb271 24 #[.int .i64 1,.int .i64 t277,.string (⟨#[]⟩ : ByteArray)] (0,0) _ rfl (by (with_reducible repeat (first|refine blk_drewN ?_ _|refine blk_drew ?_|refine blk_alloc ?_ _));refine blk_put (cs:=#[.int .i64 1,.int .i64 t277,.string (⟨#[]⟩ : ByteArray)]) ?_ 2 _ rfl;(with_reducible repeat (first|refine blk_drewN ?_ _|refine blk_drew ?_|refine blk_alloc ?_ _));refine blk_put (cs:=#[.int .i64 1,.int .i64 0,.string (⟨#[]⟩ : ByteArray)]) ?_ 1 _ rfl;(with_reducible repeat (first|refine blk_drewN ?_ _|refine blk_drew ?_|refine blk_alloc ?_ _));refine blk_put (cs:=#[.int .i64 0,.int .i64 0,.string (⟨#[]⟩ : ByteArray)]) ?_ 0 _ rfl;(with_reducible repeat (first|refine blk_drewN ?_ _|refine blk_drew ?_|refine blk_alloc ?_ _));exact BK271.out) Tryz.underlying24 rfl (by kernel_rfl)) rfl ?_
         exact ⟨by first|rfl|(simp [errW_none,errW_some] <;> rfl)|(simp [*,errW_none,errW_some] <;> rfl),by repeat (first|(with_reducible first|exact HB.out|apply below_alloc|apply pw_below_drewN|apply below_drew1|refine below_set ?_ GE269.out|refine below_set ?_ GE270.out|refine below_set ?_ GE271.out)|exact HB.out)⟩
        ·replace c42:=Bool.eq_false_iff.mpr c42
         subst c42
         have H1 : (some (0,0,(⟨#[]⟩ : ByteArray),1)) = some (r1,r2,r3,r4):=by rw [if_neg (show ¬ (false = true) by decide)] at H;exact H
         clear H
         have H:=H1
         clear H1
         simp only [Option.some.injEq,Prod.mk.injEq] at H
         obtain ⟨rfl,rfl,rfl,rfl⟩:=H
         go_wp2_with (first|((with_reducible refine gate_callee (f:=27) rfl ?_);refine goesL_ (some 47) rfl rfl Tryz.func27 (by kernel_rfl) rfl #[.int .i64 t275,.int .i64 t276] rfl (by (try simp only [List.map_toArray,List.map_cons,List.map_nil]);first|done|rfl|(simp only [List.length_drop,List.length_take];rfl)) ?_;(with_reducible refine (impl_DecAdd.calls t275 t276 t277 false _ A41.out).mono ?_);rintro e w' ⟨rfl,⟨nd,rfl⟩⟩;refine ⟨_,rfl,?_⟩;(try (rw [drewN_self wc];generalize hq_ : World.drewN wc _ = wc;have n0_ : Aside0 (wc.heap[gb269]? = some (.cells #[.int .i64 a1_0,.int .i64 a1_1,.string a1_2] 24 (0,0))):=⟨by rw [← hq_];exact (by (with_reducible repeat (first|refine blk_drewN ?_ _|refine blk_drew ?_|refine blk_alloc ?_ _));exact BK269.out)⟩;have n1_ : Aside0 (wc.heap[gb270]? = some (.cells #[.int .i64 a2_0,.int .i64 a2_1,.string a2_2] 24 (0,0))):=⟨by rw [← hq_];exact (by (with_reducible repeat (first|refine blk_drewN ?_ _|refine blk_drew ?_|refine blk_alloc ?_ _));exact BK270.out)⟩;have n2_ : Aside0 (wc.heap[gb271]? = some (.cells #[.int .i64 0,.int .i64 0,.string (⟨#[]⟩ : ByteArray)] 24 (0,0))):=⟨by rw [← hq_];exact (by (with_reducible repeat (first|refine blk_drewN ?_ _|refine blk_drew ?_|refine blk_alloc ?_ _));exact BK271.out)⟩;have n3_ : Aside0 (Below w.heap.size w wc):=⟨by rw [← hq_];exact (by repeat (first|(with_reducible first|exact HB.out|apply below_alloc|apply pw_below_drewN|apply below_drew1|refine below_set ?_ GE269.out|refine below_set ?_ GE270.out|refine below_set ?_ GE271.out)|exact HB.out))⟩;clear BK269 BK270 BK271 HB hq_;have BK269:=n0_;have BK270:=n1_;have BK271:=n2_;have HB:=n3_;clear n0_ n1_ n2_ n3_));have hnb46:=NB271_269.out;have hnc46:=NB269_271.out;have hnb47:=NB271_270.out;have hnc47:=NB270_271.out;have hcz48_0 : wc.cell? ⟨gb271,0,none⟩ = some (.int .i64 0):=(blk_cell BK271.out 0).trans rfl;have hcz48_1 : wc.cell? ⟨gb271,1,none⟩ = some (.int .i64 0):=(blk_cell BK271.out 1).trans rfl;have hcz48_2 : wc.cell? ⟨gb271,2,none⟩ = some (.string (⟨#[]⟩ : ByteArray)):=(blk_cell BK271.out 2).trans rfl;have hfz48_0:=blk_frozen BK271.out 0;have hfz48_1:=blk_frozen BK271.out 1;have hfz48_2:=blk_frozen BK271.out 2))
         refine bodyPost_ret (results_ct rfl _ _ gb271 24 #[.int .i64 0,.int .i64 0,.string (⟨#[]⟩ : ByteArray)] (0,0) _ rfl (by (with_reducible repeat (first|refine blk_drewN ?_ _|refine blk_drew ?_|refine blk_alloc ?_ _));refine blk_put (cs:=#[.int .i64 0,.int .i64 0,.string (⟨#[]⟩ : ByteArray)]) ?_ 2 _ rfl;(with_reducible repeat (first|refine blk_drewN ?_ _|refine blk_drew ?_|refine blk_alloc ?_ _));refine blk_put (cs:=#[.int .i64 0,.int .i64 0,.string (⟨#[]⟩ : ByteArray)]) ?_ 1 _ rfl;(with_reducible repeat (first|refine blk_drewN ?_ _|refine blk_drew ?_|refine blk_alloc ?_ _));refine blk_put (cs:=#[.int .i64 0,.int .i64 0,.string (⟨#[]⟩ : ByteArray)]) ?_ 0 _ rfl;(with_reducible repeat (first|refine blk_drewN ?_ _|refine blk_drew ?_|refine blk_alloc ?_ _));exact BK271.out) Tryz.underlying24 rfl (by kernel_rfl)) rfl ?_
         exact ⟨by first|rfl|(simp [errW_none,errW_some] <;> rfl)|(simp [*,errW_none,errW_some] <;> rfl),by repeat (first|(with_reducible first|exact HB.out|apply below_alloc|apply pw_below_drewN|apply below_drew1|refine below_set ?_ GE269.out|refine below_set ?_ GE270.out|refine below_set ?_ GE271.out)|exact HB.out)⟩
       ·rw [if_neg c40] at H
        have c40b0 : (a0 == 20) = false:=beq_eq_false_iff_ne.mpr c40
        have c40b1 : (a0 != 20) = true:=bne_iff_ne.mpr c40
        by_cases c49 : a0 = 21
        ·rw [if_pos c49] at H
         have c49b0 : (a0 == 21) = true:=beq_iff_eq.mpr c49
         have c49b1 : (a0 != 21) = false:=bne_eq_false_iff_eq.mpr c49
         clear c49
         replace H:=Option.bind_eq_some_iff.mp H
         obtain ⟨⟨t279,t280⟩,A500,H⟩:=H
         replace H : (if t280 = true then (some (1,t279,(⟨#[]⟩ : ByteArray),0)) else (some (0,0,(⟨#[]⟩ : ByteArray),1))) = some (r1,r2,r3,r4):=H
         have A50:=Aside0.mk A500
         clear A500
         by_cases c51 : t280 = true
         ·subst c51
          have H1 : (some (1,t279,(⟨#[]⟩ : ByteArray),0)) = some (r1,r2,r3,r4):=by rw [if_pos rfl] at H;exact H
          clear H
          have H:=H1
          clear H1
          simp only [Option.some.injEq,Prod.mk.injEq] at H
          obtain ⟨rfl,rfl,rfl,rfl⟩:=H
          go_wp2_with (first|((with_reducible refine gate_callee (f:=28) rfl ?_);refine goesL_ (some 55) rfl rfl Tryz.func28 (by kernel_rfl) rfl #[.int .i64 t275,.int .i64 t276] rfl (by (try simp only [List.map_toArray,List.map_cons,List.map_nil]);first|done|rfl|(simp only [List.length_drop,List.length_take];rfl)) ?_;(with_reducible refine (impl_DecSub.calls t275 t276 t279 true _ A50.out).mono ?_);rintro e w' ⟨rfl,⟨nd,rfl⟩⟩;refine ⟨_,rfl,?_⟩;(try (rw [drewN_self wc];generalize hq_ : World.drewN wc _ = wc;have n0_ : Aside0 (wc.heap[gb269]? = some (.cells #[.int .i64 a1_0,.int .i64 a1_1,.string a1_2] 24 (0,0))):=⟨by rw [← hq_];exact (by (with_reducible repeat (first|refine blk_drewN ?_ _|refine blk_drew ?_|refine blk_alloc ?_ _));exact BK269.out)⟩;have n1_ : Aside0 (wc.heap[gb270]? = some (.cells #[.int .i64 a2_0,.int .i64 a2_1,.string a2_2] 24 (0,0))):=⟨by rw [← hq_];exact (by (with_reducible repeat (first|refine blk_drewN ?_ _|refine blk_drew ?_|refine blk_alloc ?_ _));exact BK270.out)⟩;have n2_ : Aside0 (wc.heap[gb271]? = some (.cells #[.int .i64 0,.int .i64 0,.string (⟨#[]⟩ : ByteArray)] 24 (0,0))):=⟨by rw [← hq_];exact (by (with_reducible repeat (first|refine blk_drewN ?_ _|refine blk_drew ?_|refine blk_alloc ?_ _));exact BK271.out)⟩;have n3_ : Aside0 (Below w.heap.size w wc):=⟨by rw [← hq_];exact (by repeat (first|(with_reducible first|exact HB.out|apply below_alloc|apply pw_below_drewN|apply below_drew1|refine below_set ?_ GE269.out|refine below_set ?_ GE270.out|refine below_set ?_ GE271.out)|exact HB.out))⟩;clear BK269 BK270 BK271 HB hq_;have BK269:=n0_;have BK270:=n1_;have BK271:=n2_;have HB:=n3_;clear n0_ n1_ n2_ n3_));have hnb52:=NB271_269.out;have hnc52:=NB269_271.out;have hnb53:=NB271_270.out;have hnc53:=NB270_271.out;have hcz54_0 : wc.cell? ⟨gb271,0,none⟩ = some (.int .i64 0):=(blk_cell BK271.out 0).trans rfl;have hcz54_1 : wc.cell? ⟨gb271,1,none⟩ = some (.int .i64 0):=(blk_cell BK271.out 1).trans rfl;have hcz54_2 : wc.cell? ⟨gb271,2,none⟩ = some (.string (⟨#[]⟩ : ByteArray)):=(blk_cell BK271.out 2).trans rfl;have hfz54_0:=blk_frozen BK271.out 0;have hfz54_1:=blk_frozen BK271.out 1;have hfz54_2:=blk_frozen BK271.out 2))
          refine bodyPost_ret (results_ct rfl _ _ gb271 24 #[.int .i64 1,.int .i64 t279,.string (⟨#[]⟩ : ByteArray)] (0,0) _ rfl (by (with_reducible repeat (first|refine blk_drewN ?_ _|refine blk_drew ?_|refine blk_alloc ?_ _));refine blk_put (cs:=#[.int .i64 1,.int .i64 t279,.string (⟨#[]⟩ : ByteArray)]) ?_ 2 _ rfl;(with_reducible repeat (first|refine blk_drewN ?_ _|refine blk_drew ?_|refine blk_alloc ?_ _));refine blk_put (cs:=#[.int .i64 1,.int .i64 0,.string (⟨#[]⟩ : ByteArray)]) ?_ 1 _ rfl;(with_reducible repeat (first|refine blk_drewN ?_ _|refine blk_drew ?_|refine blk_alloc ?_ _));refine blk_put (cs:=#[.int .i64 0,.int .i64 0,.string (⟨#[]⟩ : ByteArray)]) ?_ 0 _ rfl;(with_reducible repeat (first|refine blk_drewN ?_ _|refine blk_drew ?_|refine blk_alloc ?_ _));exact BK271.out) Tryz.underlying24 rfl (by kernel_rfl)) rfl ?_
          exact ⟨by first|rfl|(simp [errW_none,errW_some] <;> rfl)|(simp [*,errW_none,errW_some] <;> rfl),by repeat (first|(with_reducible first|exact HB.out|apply below_alloc|apply pw_below_drewN|apply below_drew1|refine below_set ?_ GE269.out|refine below_set ?_ GE270.out|refine below_set ?_ GE271.out)|exact HB.out)⟩
         ·replace c51:=Bool.eq_false_iff.mpr c51
          subst c51
          have H1 : (some (0,0,(⟨#[]⟩ : ByteArray),1)) = some (r1,r2,r3,r4):=by rw [if_neg (show ¬ (false = true) by decide)] at H;exact H
          clear H
          have H:=H1
          clear H1
          simp only [Option.some.injEq,Prod.mk.injEq] at H
          obtain ⟨rfl,rfl,rfl,rfl⟩:=H
          go_wp2_with (first|((with_reducible refine gate_callee (f:=28) rfl ?_);refine goesL_ (some 55) rfl rfl Tryz.func28 (by kernel_rfl) rfl #[.int .i64 t275,.int .i64 t276] rfl (by (try simp only [List.map_toArray,List.map_cons,List.map_nil]);first|done|rfl|(simp only [List.length_drop,List.length_take];rfl)) ?_;(with_reducible refine (impl_DecSub.calls t275 t276 t279 false _ A50.out).mono ?_);rintro e w' ⟨rfl,⟨nd,rfl⟩⟩;refine ⟨_,rfl,?_⟩;(try (rw [drewN_self wc];generalize hq_ : World.drewN wc _ = wc;have n0_ : Aside0 (wc.heap[gb269]? = some (.cells #[.int .i64 a1_0,.int .i64 a1_1,.string a1_2] 24 (0,0))):=⟨by rw [← hq_];exact (by (with_reducible repeat (first|refine blk_drewN ?_ _|refine blk_drew ?_|refine blk_alloc ?_ _));exact BK269.out)⟩;have n1_ : Aside0 (wc.heap[gb270]? = some (.cells #[.int .i64 a2_0,.int .i64 a2_1,.string a2_2] 24 (0,0))):=⟨by rw [← hq_];exact (by (with_reducible repeat (first|refine blk_drewN ?_ _|refine blk_drew ?_|refine blk_alloc ?_ _));exact BK270.out)⟩;have n2_ : Aside0 (wc.heap[gb271]? = some (.cells #[.int .i64 0,.int .i64 0,.string (⟨#[]⟩ : ByteArray)] 24 (0,0))):=⟨by rw [← hq_];exact (by (with_reducible repeat (first|refine blk_drewN ?_ _|refine blk_drew ?_|refine blk_alloc ?_ _));exact BK271.out)⟩;have n3_ : Aside0 (Below w.heap.size w wc):=⟨by rw [← hq_];exact (by repeat (first|(with_reducible first|exact HB.out|apply below_alloc|apply pw_below_drewN|apply below_drew1|refine below_set ?_ GE269.out|refine below_set ?_ GE270.out|refine below_set ?_ GE271.out)|exact HB.out))⟩;clear BK269 BK270 BK271 HB hq_;have BK269:=n0_;have BK270:=n1_;have BK271:=n2_;have HB:=n3_;clear n0_ n1_ n2_ n3_));have hnb55:=NB271_269.out;have hnc55:=NB269_271.out;have hnb56:=NB271_270.out;have hnc56:=NB270_271.out;have hcz57_0 : wc.cell? ⟨gb271,0,none⟩ = some (.int .i64 0):=(blk_cell BK271.out 0).trans rfl;have hcz57_1 : wc.cell? ⟨gb271,1,none⟩ = some (.int .i64 0):=(blk_cell BK271.out 1).trans rfl;have hcz57_2 : wc.cell? ⟨gb271,2,none⟩ = some (.string (⟨#[]⟩ : ByteArray)):=(blk_cell BK271.out 2).trans rfl;have hfz57_0:=blk_frozen BK271.out 0;have hfz57_1:=blk_frozen BK271.out 1;have hfz57_2:=blk_frozen BK271.out 2))
          refine bodyPost_ret (results_ct rfl _ _ gb271 24 #[.int .i64 0,.int .i64 0,.string (⟨#[]⟩ : ByteArray)] (0,0) _ rfl (by (with_reducible repeat (first|refine blk_drewN ?_ _|refine blk_drew ?_|refine blk_alloc ?_ _));refine blk_put (cs:=#[.int .i64 0,.int .i64 0,.string (⟨#[]⟩ : ByteArray)]) ?_ 2 _ rfl;(with_reducible repeat (first|refine blk_drewN ?_ _|refine blk_drew ?_|refine blk_alloc ?_ _));refine blk_put (cs:=#[.int .i64 0,.int .i64 0,.string (⟨#[]⟩ : ByteArray)]) ?_ 1 _ rfl;(with_reducible repeat (first|refine blk_drewN ?_ _|refine blk_drew ?_|refine blk_alloc ?_ _));refine blk_put (cs:=#[.int .i64 0,.int .i64 0,.string (⟨#[]⟩ : ByteArray)]) ?_ 0 _ rfl;(with_reducible repeat (first|refine blk_drewN ?_ _|refine blk_drew ?_|refine blk_alloc ?_ _));exact BK271.out) Tryz.underlying24 rfl (by kernel_rfl)) rfl ?_
          exact ⟨by first|rfl|(simp [errW_none,errW_some] <;> rfl)|(simp [*,errW_none,errW_some] <;> rfl),by repeat (first|(with_reducible first|exact HB.out|apply below_alloc|apply pw_below_drewN|apply below_drew1|refine below_set ?_ GE269.out|refine below_set ?_ GE270.out|refine below_set ?_ GE271.out)|exact HB.out)⟩
        ·rw [if_neg c49] at H
         have c49b0 : (a0 == 21) = false:=beq_eq_false_iff_ne.mpr c49
         have c49b1 : (a0 != 21) = true:=bne_iff_ne.mpr c49
         by_cases c58 : a0 = 22
         ·rw [if_pos c58] at H
          have c58b0 : (a0 == 22) = true:=beq_iff_eq.mpr c58
          have c58b1 : (a0 != 22) = false:=bne_eq_false_iff_eq.mpr c58
          clear c58
          replace H:=Option.bind_eq_some_iff.mp H
          obtain ⟨⟨t281,t282⟩,A590,H⟩:=H
          replace H : (if t282 = true then (some (1,t281,(⟨#[]⟩ : ByteArray),0)) else (some (0,0,(⟨#[]⟩ : ByteArray),1))) = some (r1,r2,r3,r4):=H
          have A59:=Aside0.mk A590
          clear A590
          by_cases c60 : t282 = true
          ·subst c60
           have H1 : (some (1,t281,(⟨#[]⟩ : ByteArray),0)) = some (r1,r2,r3,r4):=by rw [if_pos rfl] at H;exact H
           clear H
           have H:=H1
           clear H1
           simp only [Option.some.injEq,Prod.mk.injEq] at H
           obtain ⟨rfl,rfl,rfl,rfl⟩:=H
           go_wp2_with (first|((with_reducible refine gate_callee (f:=29) rfl ?_);refine goesL_ (some 63) rfl rfl Tryz.func29 (by kernel_rfl) rfl #[.int .i64 t275,.int .i64 t276] rfl (by (try simp only [List.map_toArray,List.map_cons,List.map_nil]);first|done|rfl|(simp only [List.length_drop,List.length_take];rfl)) ?_;(with_reducible refine (impl_DecMul.calls kj29 t275 t276 t281 true _ A59.out).mono ?_);rintro e w61 ⟨rfl,hb⟩;refine ⟨_,rfl,?_⟩;have n0_:=Aside0.mk (blk_below (g:=gb269) (o:=.cells #[.int .i64 a1_0,.int .i64 a1_1,.string a1_2] 24 (0,0)) (by (with_reducible repeat (first|refine blk_drewN ?_ _|refine blk_drew ?_|refine blk_alloc ?_ _));exact BK269.out) hb);have n1_:=Aside0.mk (blk_below (g:=gb270) (o:=.cells #[.int .i64 a2_0,.int .i64 a2_1,.string a2_2] 24 (0,0)) (by (with_reducible repeat (first|refine blk_drewN ?_ _|refine blk_drew ?_|refine blk_alloc ?_ _));exact BK270.out) hb);have n2_:=Aside0.mk (blk_below (g:=gb271) (o:=.cells #[.int .i64 0,.int .i64 0,.string (⟨#[]⟩ : ByteArray)] 24 (0,0)) (by (with_reducible repeat (first|refine blk_drewN ?_ _|refine blk_drew ?_|refine blk_alloc ?_ _));exact BK271.out) hb);have n3_:=Aside0.mk (below_step (by repeat (first|(with_reducible first|exact HB.out|apply below_alloc|apply pw_below_drewN|apply below_drew1|refine below_set ?_ GE269.out|refine below_set ?_ GE270.out|refine below_set ?_ GE271.out)|exact HB.out)) hb);clear BK269;clear BK270;clear BK271;clear HB;have BK269:=n0_;have BK270:=n1_;have BK271:=n2_;have HB:=n3_;clear n0_ n1_ n2_ n3_;(try clear hb);(try clear hb2);(try clear hk);(try clear hi);have hnb62:=NB271_269.out;have hnc62:=NB269_271.out;have hnb63:=NB271_270.out;have hnc63:=NB270_271.out;have hcz64_0 : w61.cell? ⟨gb271,0,none⟩ = some (.int .i64 0):=(blk_cell BK271.out 0).trans rfl;have hcz64_1 : w61.cell? ⟨gb271,1,none⟩ = some (.int .i64 0):=(blk_cell BK271.out 1).trans rfl;have hcz64_2 : w61.cell? ⟨gb271,2,none⟩ = some (.string (⟨#[]⟩ : ByteArray)):=(blk_cell BK271.out 2).trans rfl;have hfz64_0:=blk_frozen BK271.out 0;have hfz64_1:=blk_frozen BK271.out 1;have hfz64_2:=blk_frozen BK271.out 2))
           refine bodyPost_ret (results_ct rfl _ _ gb271 24 #[.int .i64 1,.int .i64 t281,.string (⟨#[]⟩ : ByteArray)] (0,0) _ rfl (by (with_reducible repeat (first|refine blk_drewN ?_ _|refine blk_drew ?_|refine blk_alloc ?_ _));refine blk_put (cs:=#[.int .i64 1,.int .i64 t281,.string (⟨#[]⟩ : ByteArray)]) ?_ 2 _ rfl;(with_reducible repeat (first|refine blk_drewN ?_ _|refine blk_drew ?_|refine blk_alloc ?_ _));refine blk_put (cs:=#[.int .i64 1,.int .i64 0,.string (⟨#[]⟩ : ByteArray)]) ?_ 1 _ rfl;(with_reducible repeat (first|refine blk_drewN ?_ _|refine blk_drew ?_|refine blk_alloc ?_ _));refine blk_put (cs:=#[.int .i64 0,.int .i64 0,.string (⟨#[]⟩ : ByteArray)]) ?_ 0 _ rfl;(with_reducible repeat (first|refine blk_drewN ?_ _|refine blk_drew ?_|refine blk_alloc ?_ _));exact BK271.out) Tryz.underlying24 rfl (by kernel_rfl)) rfl ?_
           exact ⟨by first|rfl|(simp [errW_none,errW_some] <;> rfl)|(simp [*,errW_none,errW_some] <;> rfl),by repeat (first|(with_reducible first|exact HB.out|apply below_alloc|apply pw_below_drewN|apply below_drew1|refine below_set ?_ GE269.out|refine below_set ?_ GE270.out|refine below_set ?_ GE271.out)|exact HB.out)⟩
          ·replace c60:=Bool.eq_false_iff.mpr c60
           subst c60
           have H1 : (some (0,0,(⟨#[]⟩ : ByteArray),1)) = some (r1,r2,r3,r4):=by rw [if_neg (show ¬ (false = true) by decide)] at H;exact H
           clear H
           have H:=H1
           clear H1
           simp only [Option.some.injEq,Prod.mk.injEq] at H
           obtain ⟨rfl,rfl,rfl,rfl⟩:=H
           go_wp2_with (first|((with_reducible refine gate_callee (f:=29) rfl ?_);refine goesL_ (some 63) rfl rfl Tryz.func29 (by kernel_rfl) rfl #[.int .i64 t275,.int .i64 t276] rfl (by (try simp only [List.map_toArray,List.map_cons,List.map_nil]);first|done|rfl|(simp only [List.length_drop,List.length_take];rfl)) ?_;(with_reducible refine (impl_DecMul.calls kj29 t275 t276 t281 false _ A59.out).mono ?_);rintro e w65 ⟨rfl,hb⟩;refine ⟨_,rfl,?_⟩;have n0_:=Aside0.mk (blk_below (g:=gb269) (o:=.cells #[.int .i64 a1_0,.int .i64 a1_1,.string a1_2] 24 (0,0)) (by (with_reducible repeat (first|refine blk_drewN ?_ _|refine blk_drew ?_|refine blk_alloc ?_ _));exact BK269.out) hb);have n1_:=Aside0.mk (blk_below (g:=gb270) (o:=.cells #[.int .i64 a2_0,.int .i64 a2_1,.string a2_2] 24 (0,0)) (by (with_reducible repeat (first|refine blk_drewN ?_ _|refine blk_drew ?_|refine blk_alloc ?_ _));exact BK270.out) hb);have n2_:=Aside0.mk (blk_below (g:=gb271) (o:=.cells #[.int .i64 0,.int .i64 0,.string (⟨#[]⟩ : ByteArray)] 24 (0,0)) (by (with_reducible repeat (first|refine blk_drewN ?_ _|refine blk_drew ?_|refine blk_alloc ?_ _));exact BK271.out) hb);have n3_:=Aside0.mk (below_step (by repeat (first|(with_reducible first|exact HB.out|apply below_alloc|apply pw_below_drewN|apply below_drew1|refine below_set ?_ GE269.out|refine below_set ?_ GE270.out|refine below_set ?_ GE271.out)|exact HB.out)) hb);clear BK269;clear BK270;clear BK271;clear HB;have BK269:=n0_;have BK270:=n1_;have BK271:=n2_;have HB:=n3_;clear n0_ n1_ n2_ n3_;(try clear hb);(try clear hb2);(try clear hk);(try clear hi);have hnb66:=NB271_269.out;have hnc66:=NB269_271.out;have hnb67:=NB271_270.out;have hnc67:=NB270_271.out;have hcz68_0 : w65.cell? ⟨gb271,0,none⟩ = some (.int .i64 0):=(blk_cell BK271.out 0).trans rfl;have hcz68_1 : w65.cell? ⟨gb271,1,none⟩ = some (.int .i64 0):=(blk_cell BK271.out 1).trans rfl;have hcz68_2 : w65.cell? ⟨gb271,2,none⟩ = some (.string (⟨#[]⟩ : ByteArray)):=(blk_cell BK271.out 2).trans rfl;have hfz68_0:=blk_frozen BK271.out 0;have hfz68_1:=blk_frozen BK271.out 1;have hfz68_2:=blk_frozen BK271.out 2))
           refine bodyPost_ret (results_ct rfl _ _ gb271 24 #[.int .i64 0,.int .i64 0,.string (⟨#[]⟩ : ByteArray)] (0,0) _ rfl (by (with_reducible repeat (first|refine blk_drewN ?_ _|refine blk_drew ?_|refine blk_alloc ?_ _));refine blk_put (cs:=#[.int .i64 0,.int .i64 0,.string (⟨#[]⟩ : ByteArray)]) ?_ 2 _ rfl;(with_reducible repeat (first|refine blk_drewN ?_ _|refine blk_drew ?_|refine blk_alloc ?_ _));refine blk_put (cs:=#[.int .i64 0,.int .i64 0,.string (⟨#[]⟩ : ByteArray)]) ?_ 1 _ rfl;(with_reducible repeat (first|refine blk_drewN ?_ _|refine blk_drew ?_|refine blk_alloc ?_ _));refine blk_put (cs:=#[.int .i64 0,.int .i64 0,.string (⟨#[]⟩ : ByteArray)]) ?_ 0 _ rfl;(with_reducible repeat (first|refine blk_drewN ?_ _|refine blk_drew ?_|refine blk_alloc ?_ _));exact BK271.out) Tryz.underlying24 rfl (by kernel_rfl)) rfl ?_
           exact ⟨by first|rfl|(simp [errW_none,errW_some] <;> rfl)|(simp [*,errW_none,errW_some] <;> rfl),by repeat (first|(with_reducible first|exact HB.out|apply below_alloc|apply pw_below_drewN|apply below_drew1|refine below_set ?_ GE269.out|refine below_set ?_ GE270.out|refine below_set ?_ GE271.out)|exact HB.out)⟩
         ·rw [if_neg c58] at H
          have c58b0 : (a0 == 22) = false:=beq_eq_false_iff_ne.mpr c58
          have c58b1 : (a0 != 22) = true:=bne_iff_ne.mpr c58
          by_cases c69 : a0 = 23
          ·rw [if_pos c69] at H
           have c69b0 : (a0 == 23) = true:=beq_iff_eq.mpr c69
           have c69b1 : (a0 != 23) = false:=bne_eq_false_iff_eq.mpr c69
           clear c69
           replace H:=Option.bind_eq_some_iff.mp H
           obtain ⟨⟨t283,t284⟩,A700,H⟩:=H
           replace H : (if t284 = true then (some (1,t283,(⟨#[]⟩ : ByteArray),0)) else (some (0,0,(⟨#[]⟩ : ByteArray),1))) = some (r1,r2,r3,r4):=H
           have A70:=Aside0.mk A700
           clear A700
           by_cases c71 : t284 = true
           ·subst c71
            have H1 : (some (1,t283,(⟨#[]⟩ : ByteArray),0)) = some (r1,r2,r3,r4):=by rw [if_pos rfl] at H;exact H
            clear H
            have H:=H1
            clear H1
            simp only [Option.some.injEq,Prod.mk.injEq] at H
            obtain ⟨rfl,rfl,rfl,rfl⟩:=H
            go_wp2_with (first|((with_reducible refine gate_callee (f:=30) rfl ?_);refine goesL_ (some 71) rfl rfl Tryz.func30 (by kernel_rfl) rfl #[.int .i64 t275,.int .i64 t276] rfl (by (try simp only [List.map_toArray,List.map_cons,List.map_nil]);first|done|rfl|(simp only [List.length_drop,List.length_take];rfl)) ?_;(with_reducible refine (impl_DecDiv.calls t275 t276 t283 true _ A70.out).mono ?_);rintro e w' ⟨rfl,⟨nd,rfl⟩⟩;refine ⟨_,rfl,?_⟩;(try (rw [drewN_self wc];generalize hq_ : World.drewN wc _ = wc;have n0_ : Aside0 (wc.heap[gb269]? = some (.cells #[.int .i64 a1_0,.int .i64 a1_1,.string a1_2] 24 (0,0))):=⟨by rw [← hq_];exact (by (with_reducible repeat (first|refine blk_drewN ?_ _|refine blk_drew ?_|refine blk_alloc ?_ _));exact BK269.out)⟩;have n1_ : Aside0 (wc.heap[gb270]? = some (.cells #[.int .i64 a2_0,.int .i64 a2_1,.string a2_2] 24 (0,0))):=⟨by rw [← hq_];exact (by (with_reducible repeat (first|refine blk_drewN ?_ _|refine blk_drew ?_|refine blk_alloc ?_ _));exact BK270.out)⟩;have n2_ : Aside0 (wc.heap[gb271]? = some (.cells #[.int .i64 0,.int .i64 0,.string (⟨#[]⟩ : ByteArray)] 24 (0,0))):=⟨by rw [← hq_];exact (by (with_reducible repeat (first|refine blk_drewN ?_ _|refine blk_drew ?_|refine blk_alloc ?_ _));exact BK271.out)⟩;have n3_ : Aside0 (Below w.heap.size w wc):=⟨by rw [← hq_];exact (by repeat (first|(with_reducible first|exact HB.out|apply below_alloc|apply pw_below_drewN|apply below_drew1|refine below_set ?_ GE269.out|refine below_set ?_ GE270.out|refine below_set ?_ GE271.out)|exact HB.out))⟩;clear BK269 BK270 BK271 HB hq_;have BK269:=n0_;have BK270:=n1_;have BK271:=n2_;have HB:=n3_;clear n0_ n1_ n2_ n3_));have hnb72:=NB271_269.out;have hnc72:=NB269_271.out;have hnb73:=NB271_270.out;have hnc73:=NB270_271.out;have hcz74_0 : wc.cell? ⟨gb271,0,none⟩ = some (.int .i64 0):=(blk_cell BK271.out 0).trans rfl;have hcz74_1 : wc.cell? ⟨gb271,1,none⟩ = some (.int .i64 0):=(blk_cell BK271.out 1).trans rfl;have hcz74_2 : wc.cell? ⟨gb271,2,none⟩ = some (.string (⟨#[]⟩ : ByteArray)):=(blk_cell BK271.out 2).trans rfl;have hfz74_0:=blk_frozen BK271.out 0;have hfz74_1:=blk_frozen BK271.out 1;have hfz74_2:=blk_frozen BK271.out 2))
            refine bodyPost_ret (results_ct rfl _ _ gb271 24 #[.int .i64 1,.int .i64 t283,.string (⟨#[]⟩ : ByteArray)] (0,0) _ rfl (by (with_reducible repeat (first|refine blk_drewN ?_ _|refine blk_drew ?_|refine blk_alloc ?_ _));refine blk_put (cs:=#[.int .i64 1,.int .i64 t283,.string (⟨#[]⟩ : ByteArray)]) ?_ 2 _ rfl;(with_reducible repeat (first|refine blk_drewN ?_ _|refine blk_drew ?_|refine blk_alloc ?_ _));refine blk_put (cs:=#[.int .i64 1,.int .i64 0,.string (⟨#[]⟩ : ByteArray)]) ?_ 1 _ rfl;(with_reducible repeat (first|refine blk_drewN ?_ _|refine blk_drew ?_|refine blk_alloc ?_ _));refine blk_put (cs:=#[.int .i64 0,.int .i64 0,.string (⟨#[]⟩ : ByteArray)]) ?_ 0 _ rfl;(with_reducible repeat (first|refine blk_drewN ?_ _|refine blk_drew ?_|refine blk_alloc ?_ _));exact BK271.out) Tryz.underlying24 rfl (by kernel_rfl)) rfl ?_
            exact ⟨by first|rfl|(simp [errW_none,errW_some] <;> rfl)|(simp [*,errW_none,errW_some] <;> rfl),by repeat (first|(with_reducible first|exact HB.out|apply below_alloc|apply pw_below_drewN|apply below_drew1|refine below_set ?_ GE269.out|refine below_set ?_ GE270.out|refine below_set ?_ GE271.out)|exact HB.out)⟩
           ·replace c71:=Bool.eq_false_iff.mpr c71
            subst c71
            have H1 : (some (0,0,(⟨#[]⟩ : ByteArray),1)) = some (r1,r2,r3,r4):=by rw [if_neg (show ¬ (false = true) by decide)] at H;exact H
            clear H
            have H:=H1
            clear H1
            simp only [Option.some.injEq,Prod.mk.injEq] at H
            obtain ⟨rfl,rfl,rfl,rfl⟩:=H
            go_wp2_with (first|((with_reducible refine gate_callee (f:=30) rfl ?_);refine goesL_ (some 71) rfl rfl Tryz.func30 (by kernel_rfl) rfl #[.int .i64 t275,.int .i64 t276] rfl (by (try simp only [List.map_toArray,List.map_cons,List.map_nil]);first|done|rfl|(simp only [List.length_drop,List.length_take];rfl)) ?_;(with_reducible refine (impl_DecDiv.calls t275 t276 t283 false _ A70.out).mono ?_);rintro e w' ⟨rfl,⟨nd,rfl⟩⟩;refine ⟨_,rfl,?_⟩;(try (rw [drewN_self wc];generalize hq_ : World.drewN wc _ = wc;have n0_ : Aside0 (wc.heap[gb269]? = some (.cells #[.int .i64 a1_0,.int .i64 a1_1,.string a1_2] 24 (0,0))):=⟨by rw [← hq_];exact (by (with_reducible repeat (first|refine blk_drewN ?_ _|refine blk_drew ?_|refine blk_alloc ?_ _));exact BK269.out)⟩;have n1_ : Aside0 (wc.heap[gb270]? = some (.cells #[.int .i64 a2_0,.int .i64 a2_1,.string a2_2] 24 (0,0))):=⟨by rw [← hq_];exact (by (with_reducible repeat (first|refine blk_drewN ?_ _|refine blk_drew ?_|refine blk_alloc ?_ _));exact BK270.out)⟩;have n2_ : Aside0 (wc.heap[gb271]? = some (.cells #[.int .i64 0,.int .i64 0,.string (⟨#[]⟩ : ByteArray)] 24 (0,0))):=⟨by rw [← hq_];exact (by (with_reducible repeat (first|refine blk_drewN ?_ _|refine blk_drew ?_|refine blk_alloc ?_ _));exact BK271.out)⟩;have n3_ : Aside0 (Below w.heap.size w wc):=⟨by rw [← hq_];exact (by repeat (first|(with_reducible first|exact HB.out|apply below_alloc|apply pw_below_drewN|apply below_drew1|refine below_set ?_ GE269.out|refine below_set ?_ GE270.out|refine below_set ?_ GE271.out)|exact HB.out))⟩;clear BK269 BK270 BK271 HB hq_;have BK269:=n0_;have BK270:=n1_;have BK271:=n2_;have HB:=n3_;clear n0_ n1_ n2_ n3_));have hnb75:=NB271_269.out;have hnc75:=NB269_271.out;have hnb76:=NB271_270.out;have hnc76:=NB270_271.out;have hcz77_0 : wc.cell? ⟨gb271,0,none⟩ = some (.int .i64 0):=(blk_cell BK271.out 0).trans rfl;have hcz77_1 : wc.cell? ⟨gb271,1,none⟩ = some (.int .i64 0):=(blk_cell BK271.out 1).trans rfl;have hcz77_2 : wc.cell? ⟨gb271,2,none⟩ = some (.string (⟨#[]⟩ : ByteArray)):=(blk_cell BK271.out 2).trans rfl;have hfz77_0:=blk_frozen BK271.out 0;have hfz77_1:=blk_frozen BK271.out 1;have hfz77_2:=blk_frozen BK271.out 2))
            refine bodyPost_ret (results_ct rfl _ _ gb271 24 #[.int .i64 0,.int .i64 0,.string (⟨#[]⟩ : ByteArray)] (0,0) _ rfl (by (with_reducible repeat (first|refine blk_drewN ?_ _|refine blk_drew ?_|refine blk_alloc ?_ _));refine blk_put (cs:=#[.int .i64 0,.int .i64 0,.string (⟨#[]⟩ : ByteArray)]) ?_ 2 _ rfl;(with_reducible repeat (first|refine blk_drewN ?_ _|refine blk_drew ?_|refine blk_alloc ?_ _));refine blk_put (cs:=#[.int .i64 0,.int .i64 0,.string (⟨#[]⟩ : ByteArray)]) ?_ 1 _ rfl;(with_reducible repeat (first|refine blk_drewN ?_ _|refine blk_drew ?_|refine blk_alloc ?_ _));refine blk_put (cs:=#[.int .i64 0,.int .i64 0,.string (⟨#[]⟩ : ByteArray)]) ?_ 0 _ rfl;(with_reducible repeat (first|refine blk_drewN ?_ _|refine blk_drew ?_|refine blk_alloc ?_ _));exact BK271.out) Tryz.underlying24 rfl (by kernel_rfl)) rfl ?_
            exact ⟨by first|rfl|(simp [errW_none,errW_some] <;> rfl)|(simp [*,errW_none,errW_some] <;> rfl),by repeat (first|(with_reducible first|exact HB.out|apply below_alloc|apply pw_below_drewN|apply below_drew1|refine below_set ?_ GE269.out|refine below_set ?_ GE270.out|refine below_set ?_ GE271.out)|exact HB.out)⟩
          ·rw [if_neg c69] at H
           have c69b0 : (a0 == 23) = false:=beq_eq_false_iff_ne.mpr c69
           have c69b1 : (a0 != 23) = true:=bne_iff_ne.mpr c69
           by_cases c78 : a0 = 24
           ·rw [if_pos c78] at H
            have c78b0 : (a0 == 24) = true:=beq_iff_eq.mpr c78
            have c78b1 : (a0 != 24) = false:=bne_eq_false_iff_eq.mpr c78
            clear c78
            replace H:=Option.bind_eq_some_iff.mp H
            obtain ⟨⟨t285,t286⟩,A790,H⟩:=H
            replace H : (if t286 = true then (some (1,t285,(⟨#[]⟩ : ByteArray),0)) else (some (0,0,(⟨#[]⟩ : ByteArray),1))) = some (r1,r2,r3,r4):=H
            have A79:=Aside0.mk A790
            clear A790
            by_cases c80 : t286 = true
            ·subst c80
             have H1 : (some (1,t285,(⟨#[]⟩ : ByteArray),0)) = some (r1,r2,r3,r4):=by rw [if_pos rfl] at H;exact H
             clear H
             have H:=H1
             clear H1
             simp only [Option.some.injEq,Prod.mk.injEq] at H
             obtain ⟨rfl,rfl,rfl,rfl⟩:=H
             go_wp2_with (first|((with_reducible refine gate_callee (f:=31) rfl ?_);refine goesL_ (some 79) rfl rfl Tryz.func31 (by kernel_rfl) rfl #[.int .i64 t275,.int .i64 t276] rfl (by (try simp only [List.map_toArray,List.map_cons,List.map_nil]);first|done|rfl|(simp only [List.length_drop,List.length_take];rfl)) ?_;(with_reducible refine (impl_DecMod.calls t275 t276 t285 true _ A79.out).mono ?_);rintro e w' ⟨rfl,⟨nd,rfl⟩⟩;refine ⟨_,rfl,?_⟩;(try (rw [drewN_self wc];generalize hq_ : World.drewN wc _ = wc;have n0_ : Aside0 (wc.heap[gb269]? = some (.cells #[.int .i64 a1_0,.int .i64 a1_1,.string a1_2] 24 (0,0))):=⟨by rw [← hq_];exact (by (with_reducible repeat (first|refine blk_drewN ?_ _|refine blk_drew ?_|refine blk_alloc ?_ _));exact BK269.out)⟩;have n1_ : Aside0 (wc.heap[gb270]? = some (.cells #[.int .i64 a2_0,.int .i64 a2_1,.string a2_2] 24 (0,0))):=⟨by rw [← hq_];exact (by (with_reducible repeat (first|refine blk_drewN ?_ _|refine blk_drew ?_|refine blk_alloc ?_ _));exact BK270.out)⟩;have n2_ : Aside0 (wc.heap[gb271]? = some (.cells #[.int .i64 0,.int .i64 0,.string (⟨#[]⟩ : ByteArray)] 24 (0,0))):=⟨by rw [← hq_];exact (by (with_reducible repeat (first|refine blk_drewN ?_ _|refine blk_drew ?_|refine blk_alloc ?_ _));exact BK271.out)⟩;have n3_ : Aside0 (Below w.heap.size w wc):=⟨by rw [← hq_];exact (by repeat (first|(with_reducible first|exact HB.out|apply below_alloc|apply pw_below_drewN|apply below_drew1|refine below_set ?_ GE269.out|refine below_set ?_ GE270.out|refine below_set ?_ GE271.out)|exact HB.out))⟩;clear BK269 BK270 BK271 HB hq_;have BK269:=n0_;have BK270:=n1_;have BK271:=n2_;have HB:=n3_;clear n0_ n1_ n2_ n3_));have hnb81:=NB271_269.out;have hnc81:=NB269_271.out;have hnb82:=NB271_270.out;have hnc82:=NB270_271.out;have hcz83_0 : wc.cell? ⟨gb271,0,none⟩ = some (.int .i64 0):=(blk_cell BK271.out 0).trans rfl;have hcz83_1 : wc.cell? ⟨gb271,1,none⟩ = some (.int .i64 0):=(blk_cell BK271.out 1).trans rfl;have hcz83_2 : wc.cell? ⟨gb271,2,none⟩ = some (.string (⟨#[]⟩ : ByteArray)):=(blk_cell BK271.out 2).trans rfl;have hfz83_0:=blk_frozen BK271.out 0;have hfz83_1:=blk_frozen BK271.out 1;have hfz83_2:=blk_frozen BK271.out 2))
             refine bodyPost_ret (results_ct rfl _ _ gb271 24 #[.int .i64 1,.int .i64 t285,.string (⟨#[]⟩ : ByteArray)] (0,0) _ rfl (by (with_reducible repeat (first|refine blk_drewN ?_ _|refine blk_drew ?_|refine blk_alloc ?_ _));refine blk_put (cs:=#[.int .i64 1,.int .i64 t285,.string (⟨#[]⟩ : ByteArray)]) ?_ 2 _ rfl;(with_reducible repeat (first|refine blk_drewN ?_ _|refine blk_drew ?_|refine blk_alloc ?_ _));refine blk_put (cs:=#[.int .i64 1,.int .i64 0,.string (⟨#[]⟩ : ByteArray)]) ?_ 1 _ rfl;(with_reducible repeat (first|refine blk_drewN ?_ _|refine blk_drew ?_|refine blk_alloc ?_ _));refine blk_put (cs:=#[.int .i64 0,.int .i64 0,.string (⟨#[]⟩ : ByteArray)]) ?_ 0 _ rfl;(with_reducible repeat (first|refine blk_drewN ?_ _|refine blk_drew ?_|refine blk_alloc ?_ _));exact BK271.out) Tryz.underlying24 rfl (by kernel_rfl)) rfl ?_
             exact ⟨by first|rfl|(simp [errW_none,errW_some] <;> rfl)|(simp [*,errW_none,errW_some] <;> rfl),by repeat (first|(with_reducible first|exact HB.out|apply below_alloc|apply pw_below_drewN|apply below_drew1|refine below_set ?_ GE269.out|refine below_set ?_ GE270.out|refine below_set ?_ GE271.out)|exact HB.out)⟩
            ·replace c80:=Bool.eq_false_iff.mpr c80
             subst c80
             have H1 : (some (0,0,(⟨#[]⟩ : ByteArray),1)) = some (r1,r2,r3,r4):=by rw [if_neg (show ¬ (false = true) by decide)] at H;exact H
             clear H
             have H:=H1
             clear H1
             simp only [Option.some.injEq,Prod.mk.injEq] at H
             obtain ⟨rfl,rfl,rfl,rfl⟩:=H
             go_wp2_with (first|((with_reducible refine gate_callee (f:=31) rfl ?_);refine goesL_ (some 79) rfl rfl Tryz.func31 (by kernel_rfl) rfl #[.int .i64 t275,.int .i64 t276] rfl (by (try simp only [List.map_toArray,List.map_cons,List.map_nil]);first|done|rfl|(simp only [List.length_drop,List.length_take];rfl)) ?_;(with_reducible refine (impl_DecMod.calls t275 t276 t285 false _ A79.out).mono ?_);rintro e w' ⟨rfl,⟨nd,rfl⟩⟩;refine ⟨_,rfl,?_⟩;(try (rw [drewN_self wc];generalize hq_ : World.drewN wc _ = wc;have n0_ : Aside0 (wc.heap[gb269]? = some (.cells #[.int .i64 a1_0,.int .i64 a1_1,.string a1_2] 24 (0,0))):=⟨by rw [← hq_];exact (by (with_reducible repeat (first|refine blk_drewN ?_ _|refine blk_drew ?_|refine blk_alloc ?_ _));exact BK269.out)⟩;have n1_ : Aside0 (wc.heap[gb270]? = some (.cells #[.int .i64 a2_0,.int .i64 a2_1,.string a2_2] 24 (0,0))):=⟨by rw [← hq_];exact (by (with_reducible repeat (first|refine blk_drewN ?_ _|refine blk_drew ?_|refine blk_alloc ?_ _));exact BK270.out)⟩;have n2_ : Aside0 (wc.heap[gb271]? = some (.cells #[.int .i64 0,.int .i64 0,.string (⟨#[]⟩ : ByteArray)] 24 (0,0))):=⟨by rw [← hq_];exact (by (with_reducible repeat (first|refine blk_drewN ?_ _|refine blk_drew ?_|refine blk_alloc ?_ _));exact BK271.out)⟩;have n3_ : Aside0 (Below w.heap.size w wc):=⟨by rw [← hq_];exact (by repeat (first|(with_reducible first|exact HB.out|apply below_alloc|apply pw_below_drewN|apply below_drew1|refine below_set ?_ GE269.out|refine below_set ?_ GE270.out|refine below_set ?_ GE271.out)|exact HB.out))⟩;clear BK269 BK270 BK271 HB hq_;have BK269:=n0_;have BK270:=n1_;have BK271:=n2_;have HB:=n3_;clear n0_ n1_ n2_ n3_));have hnb84:=NB271_269.out;have hnc84:=NB269_271.out;have hnb85:=NB271_270.out;have hnc85:=NB270_271.out;have hcz86_0 : wc.cell? ⟨gb271,0,none⟩ = some (.int .i64 0):=(blk_cell BK271.out 0).trans rfl;have hcz86_1 : wc.cell? ⟨gb271,1,none⟩ = some (.int .i64 0):=(blk_cell BK271.out 1).trans rfl;have hcz86_2 : wc.cell? ⟨gb271,2,none⟩ = some (.string (⟨#[]⟩ : ByteArray)):=(blk_cell BK271.out 2).trans rfl;have hfz86_0:=blk_frozen BK271.out 0;have hfz86_1:=blk_frozen BK271.out 1;have hfz86_2:=blk_frozen BK271.out 2))
             refine bodyPost_ret (results_ct rfl _ _ gb271 24 #[.int .i64 0,.int .i64 0,.string (⟨#[]⟩ : ByteArray)] (0,0) _ rfl (by (with_reducible repeat (first|refine blk_drewN ?_ _|refine blk_drew ?_|refine blk_alloc ?_ _));refine blk_put (cs:=#[.int .i64 0,.int .i64 0,.string (⟨#[]⟩ : ByteArray)]) ?_ 2 _ rfl;(with_reducible repeat (first|refine blk_drewN ?_ _|refine blk_drew ?_|refine blk_alloc ?_ _));refine blk_put (cs:=#[.int .i64 0,.int .i64 0,.string (⟨#[]⟩ : ByteArray)]) ?_ 1 _ rfl;(with_reducible repeat (first|refine blk_drewN ?_ _|refine blk_drew ?_|refine blk_alloc ?_ _));refine blk_put (cs:=#[.int .i64 0,.int .i64 0,.string (⟨#[]⟩ : ByteArray)]) ?_ 0 _ rfl;(with_reducible repeat (first|refine blk_drewN ?_ _|refine blk_drew ?_|refine blk_alloc ?_ _));exact BK271.out) Tryz.underlying24 rfl (by kernel_rfl)) rfl ?_
             exact ⟨by first|rfl|(simp [errW_none,errW_some] <;> rfl)|(simp [*,errW_none,errW_some] <;> rfl),by repeat (first|(with_reducible first|exact HB.out|apply below_alloc|apply pw_below_drewN|apply below_drew1|refine below_set ?_ GE269.out|refine below_set ?_ GE270.out|refine below_set ?_ GE271.out)|exact HB.out)⟩
           ·rw [if_neg c78] at H
            have c78b0 : (a0 == 24) = false:=beq_eq_false_iff_ne.mpr c78
            have c78b1 : (a0 != 24) = true:=bne_iff_ne.mpr c78
            have H1 : (some (0,0,(⟨#[]⟩ : ByteArray),1)) = some (r1,r2,r3,r4):=by rw [if_neg (show ¬ (false = true) by decide)] at H;exact H
            clear H
            have H:=H1
            clear H1
            simp only [Option.some.injEq,Prod.mk.injEq] at H
            obtain ⟨rfl,rfl,rfl,rfl⟩:=H
            have hnb87:=NB271_269.out
            have hnc87:=NB269_271.out
            have hnb88:=NB271_270.out
            have hnc88:=NB270_271.out
            have hcz89_0 : wc.cell? ⟨gb271,0,none⟩ = some (.int .i64 0):=(blk_cell BK271.out 0).trans rfl
            have hcz89_1 : wc.cell? ⟨gb271,1,none⟩ = some (.int .i64 0):=(blk_cell BK271.out 1).trans rfl
            have hcz89_2 : wc.cell? ⟨gb271,2,none⟩ = some (.string (⟨#[]⟩ : ByteArray)):=(blk_cell BK271.out 2).trans rfl
            have hfz89_0:=blk_frozen BK271.out 0
            have hfz89_1:=blk_frozen BK271.out 1
            have hfz89_2:=blk_frozen BK271.out 2
            go_wp2
            refine bodyPost_ret (results_ct rfl _ _ gb271 24 #[.int .i64 0,.int .i64 0,.string (⟨#[]⟩ : ByteArray)] (0,0) _ rfl (by (with_reducible repeat (first|refine blk_drewN ?_ _|refine blk_drew ?_|refine blk_alloc ?_ _));refine blk_put (cs:=#[.int .i64 0,.int .i64 0,.string (⟨#[]⟩ : ByteArray)]) ?_ 2 _ rfl;(with_reducible repeat (first|refine blk_drewN ?_ _|refine blk_drew ?_|refine blk_alloc ?_ _));refine blk_put (cs:=#[.int .i64 0,.int .i64 0,.string (⟨#[]⟩ : ByteArray)]) ?_ 1 _ rfl;(with_reducible repeat (first|refine blk_drewN ?_ _|refine blk_drew ?_|refine blk_alloc ?_ _));refine blk_put (cs:=#[.int .i64 0,.int .i64 0,.string (⟨#[]⟩ : ByteArray)]) ?_ 0 _ rfl;(with_reducible repeat (first|refine blk_drewN ?_ _|refine blk_drew ?_|refine blk_alloc ?_ _));exact BK271.out) Tryz.underlying24 rfl (by kernel_rfl)) rfl ?_
            exact ⟨by first|rfl|(simp [errW_none,errW_some] <;> rfl)|(simp [*,errW_none,errW_some] <;> rfl),by repeat (first|(with_reducible first|exact HB.out|apply below_alloc|apply pw_below_drewN|apply below_drew1|refine below_set ?_ GE269.out|refine below_set ?_ GE270.out|refine below_set ?_ GE271.out)|exact HB.out)⟩
def spec_DecOk.f (a0 : Int) : Option (Bool):=if a0 ≥ (-9000000000000) then (some (decide (a0 ≤ 9000000000000))) else (some false)
set_option maxHeartbeats 8000000 in
set_option maxRecDepth 100000 in
theorem spec_DecOk.calls (a0 : Int) (r : Bool) (w : World) (h : spec_DecOk.f a0 = some r) :
  Calls Tryz.prog 68 #[.int .i64 a0] w fun e w'=>e = .returned (.bool r) ∧ Drawn0 w w':=by
 have H : (if a0 ≥ (-9000000000000) then (some (decide (a0 ≤ 9000000000000))) else (some false)) = some r:=h
 clear h
 by_cases c2 : a0 ≥ (-9000000000000)
 ·rw [if_pos c2] at H
  have c2b0 : decide ((-9000000000000) ≤ a0) = true:=decide_eq_true c2
  clear c2
  obtain rfl:=Option.some.inj H
  go_enter Tryz.func68,Tryz.ntmps68
  go_wp2
  go_ret
  exact ⟨by first|rfl|(simp;done)|(simp [*];done),by repeat (first|exact Drawn0.refl _|apply Drawn0.step)⟩
 ·rw [if_neg c2] at H
  have c2b0 : decide ((-9000000000000) ≤ a0) = false:=decide_eq_false c2
  clear c2
  obtain rfl:=Option.some.inj H
  go_enter Tryz.func68,Tryz.ntmps68
  go_wp2
  go_ret
  exact ⟨by first|rfl|(simp;done)|(simp [*];done),by repeat (first|exact Drawn0.refl _|apply Drawn0.step)⟩
def spec_CellOk.f (k : Nat) (a0_0 : Int) (a0_1 : Int) (a0_2 : ByteArray) : Option (Bool):=if (a0_2.size : Int) > 500 then (some false) else (if a0_0 = 0 then (if a0_2.toList = ([] : List UInt8) then (some (a0_1 == 0)) else (some false)) else (if a0_0 = 1 then (if a0_2.toList = ([] : List UInt8) then ((spec_DecOk.f a0_1).bind fun t288=>(some t288)) else (some false)) else (if a0_0 = 2 then (some (a0_1 == 0)) else (if a0_0 = 3 then ((spec_ReadDec.f k a0_2).bind fun bt289=>((spec_LooksNum.f k a0_2).bind fun t291=>(if t291 = true then (some (a0_1 == bt289.1)) else (some false)))) else (some false)))))
set_option maxHeartbeats 8000000 in
set_option maxRecDepth 100000 in
theorem spec_CellOk.calls (k : Nat) (a0_0 : Int) (a0_1 : Int) (a0_2 : ByteArray) (r : Bool) (w : World) (h : spec_CellOk.f k a0_0 a0_1 a0_2 = some r) :
  Calls Tryz.prog 32 #[.agg #[.int .i64 a0_0,.int .i64 a0_1,.string a0_2]] w fun e w'=>e = .returned (.bool r) ∧ Below w.heap.size w w':=by
 have hu24:=Tryz.underlying24
 have HB:=Aside0.mk (Below.refl w.heap.size w)
 have H : (if (a0_2.size : Int) > 500 then (some false) else (if a0_0 = 0 then (if a0_2.toList = ([] : List UInt8) then (some (a0_1 == 0)) else (some false)) else (if a0_0 = 1 then (if a0_2.toList = ([] : List UInt8) then ((spec_DecOk.f a0_1).bind fun t288=>(some t288)) else (some false)) else (if a0_0 = 2 then (some (a0_1 == 0)) else (if a0_0 = 3 then ((spec_ReadDec.f k a0_2).bind fun bt289=>((spec_LooksNum.f k a0_2).bind fun t291=>(if t291 = true then (some (a0_1 == bt289.1)) else (some false)))) else (some false)))))) = some r:=h
 clear h
 by_cases c2 : (a0_2.size : Int) > 500
 ·rw [if_pos c2] at H
  have c2b0 : decide (500 < (a0_2.size : Int)) = true:=decide_eq_true c2
  have c2b1 : decide (500 < a0_2.size) = true:=decide_eq_true (by omega)
  clear c2
  obtain rfl:=Option.some.inj H
  go_enter Tryz.func32,Tryz.ntmps32
  go_wp2_with (first|((with_reducible refine gate_dst (N:=1) rfl ?_);refine box_event ?hg (N:=1) ?hd (cs:=#[.int .i64 a0_0,.int .i64 a0_1,.string a0_2]) (t:=24) ?hr ?_;(case hd=>rfl);(case hg=>rfl);(case hr=>first|(go_simp;done)|(go_simp;rfl));intro gb287 hg w3 hbox hb;have n0_:=Aside0.mk (below_step (by repeat (first|(with_reducible first|exact HB.out|apply below_alloc|apply pw_below_drewN|apply below_drew1)|exact HB.out)) hb);have n1_:=Aside0.mk (hbox);have n2_:=Aside0.mk ((by rw [hg];exact (below_size (by repeat (first|(with_reducible first|exact HB.out|apply below_alloc|apply pw_below_drewN|apply below_drew1)|exact HB.out))) : w.heap.size ≤ gb287));have n3_:=Aside0.mk ((by rw [hg];exact (below_size (by repeat (first|(with_reducible first|exact HB.out|apply below_alloc|apply pw_below_drewN|apply below_drew1)|exact HB.out))) : w.heap.size ≤ gb287));clear HB;have HB:=n0_;have BK287:=n1_;have GW287:=n2_;have GE287:=n3_;clear n0_ n1_ n2_ n3_;clear hb hbox hg;have hcz4_0 : w3.cell? ⟨gb287,0,none⟩ = some (.int .i64 a0_0):=(blk_cell BK287.out 0).trans rfl;have hcz4_1 : w3.cell? ⟨gb287,1,none⟩ = some (.int .i64 a0_1):=(blk_cell BK287.out 1).trans rfl;have hcz4_2 : w3.cell? ⟨gb287,2,none⟩ = some (.string a0_2):=(blk_cell BK287.out 2).trans rfl;have hfz4_0:=blk_frozen BK287.out 0;have hfz4_1:=blk_frozen BK287.out 1;have hfz4_2:=blk_frozen BK287.out 2))
  go_ret
  exact ⟨by first|rfl|(simp [errW_none,errW_some] <;> rfl)|(simp [*,errW_none,errW_some] <;> rfl),by repeat (first|(with_reducible first|exact HB.out|apply below_alloc|apply pw_below_drewN|apply below_drew1|refine below_set ?_ GE287.out)|exact HB.out)⟩
 ·rw [if_neg c2] at H
  have c2b0 : decide (500 < (a0_2.size : Int)) = false:=decide_eq_false c2
  have c2b1 : decide (500 < a0_2.size) = false:=decide_eq_false (by omega)
  clear c2
  by_cases c5 : a0_0 = 0
  ·rw [if_pos c5] at H
   have c5b0 : (a0_0 == 0) = true:=beq_iff_eq.mpr c5
   have c5b1 : (a0_0 != 0) = false:=bne_eq_false_iff_eq.mpr c5
   clear c5
   by_cases c6 : a0_2.toList = ([] : List UInt8)
   ·rw [if_pos c6] at H
    have c6b0 : (a0_2.toList == ([] : List UInt8)) = true:=beq_iff_eq.mpr c6
    have c6b1 : (a0_2.toList != ([] : List UInt8)) = false:=bne_eq_false_iff_eq.mpr c6
    clear c6
    obtain rfl:=Option.some.inj H
    go_enter Tryz.func32,Tryz.ntmps32
    go_wp2_with (first|((with_reducible refine gate_dst (N:=1) rfl ?_);refine box_event ?hg (N:=1) ?hd (cs:=#[.int .i64 a0_0,.int .i64 a0_1,.string a0_2]) (t:=24) ?hr ?_;(case hd=>rfl);(case hg=>rfl);(case hr=>first|(go_simp;done)|(go_simp;rfl));intro gb287 hg w7 hbox hb;have n0_:=Aside0.mk (below_step (by repeat (first|(with_reducible first|exact HB.out|apply below_alloc|apply pw_below_drewN|apply below_drew1)|exact HB.out)) hb);have n1_:=Aside0.mk (hbox);have n2_:=Aside0.mk ((by rw [hg];exact (below_size (by repeat (first|(with_reducible first|exact HB.out|apply below_alloc|apply pw_below_drewN|apply below_drew1)|exact HB.out))) : w.heap.size ≤ gb287));have n3_:=Aside0.mk ((by rw [hg];exact (below_size (by repeat (first|(with_reducible first|exact HB.out|apply below_alloc|apply pw_below_drewN|apply below_drew1)|exact HB.out))) : w.heap.size ≤ gb287));clear HB;have HB:=n0_;have BK287:=n1_;have GW287:=n2_;have GE287:=n3_;clear n0_ n1_ n2_ n3_;clear hb hbox hg;have hcz8_0 : w7.cell? ⟨gb287,0,none⟩ = some (.int .i64 a0_0):=(blk_cell BK287.out 0).trans rfl;have hcz8_1 : w7.cell? ⟨gb287,1,none⟩ = some (.int .i64 a0_1):=(blk_cell BK287.out 1).trans rfl;have hcz8_2 : w7.cell? ⟨gb287,2,none⟩ = some (.string a0_2):=(blk_cell BK287.out 2).trans rfl;have hfz8_0:=blk_frozen BK287.out 0;have hfz8_1:=blk_frozen BK287.out 1;have hfz8_2:=blk_frozen BK287.out 2))
    go_ret
    exact ⟨by first|rfl|(simp [errW_none,errW_some] <;> rfl)|(simp [*,errW_none,errW_some] <;> rfl),by repeat (first|(with_reducible first|exact HB.out|apply below_alloc|apply pw_below_drewN|apply below_drew1|refine below_set ?_ GE287.out)|exact HB.out)⟩
   ·rw [if_neg c6] at H
    have c6b0 : (a0_2.toList == ([] : List UInt8)) = false:=beq_eq_false_iff_ne.mpr c6
    have c6b1 : (a0_2.toList != ([] : List UInt8)) = true:=bne_iff_ne.mpr c6
    obtain rfl:=Option.some.inj H
    go_enter Tryz.func32,Tryz.ntmps32
    go_wp2_with (first|((with_reducible refine gate_dst (N:=1) rfl ?_);refine box_event ?hg (N:=1) ?hd (cs:=#[.int .i64 a0_0,.int .i64 a0_1,.string a0_2]) (t:=24) ?hr ?_;(case hd=>rfl);(case hg=>rfl);(case hr=>first|(go_simp;done)|(go_simp;rfl));intro gb287 hg w9 hbox hb;have n0_:=Aside0.mk (below_step (by repeat (first|(with_reducible first|exact HB.out|apply below_alloc|apply pw_below_drewN|apply below_drew1)|exact HB.out)) hb);have n1_:=Aside0.mk (hbox);have n2_:=Aside0.mk ((by rw [hg];exact (below_size (by repeat (first|(with_reducible first|exact HB.out|apply below_alloc|apply pw_below_drewN|apply below_drew1)|exact HB.out))) : w.heap.size ≤ gb287));have n3_:=Aside0.mk ((by rw [hg];exact (below_size (by repeat (first|(with_reducible first|exact HB.out|apply below_alloc|apply pw_below_drewN|apply below_drew1)|exact HB.out))) : w.heap.size ≤ gb287));clear HB;have HB:=n0_;have BK287:=n1_;have GW287:=n2_;have GE287:=n3_;clear n0_ n1_ n2_ n3_;clear hb hbox hg;have hcz10_0 : w9.cell? ⟨gb287,0,none⟩ = some (.int .i64 a0_0):=(blk_cell BK287.out 0).trans rfl;have hcz10_1 : w9.cell? ⟨gb287,1,none⟩ = some (.int .i64 a0_1):=(blk_cell BK287.out 1).trans rfl;have hcz10_2 : w9.cell? ⟨gb287,2,none⟩ = some (.string a0_2):=(blk_cell BK287.out 2).trans rfl;have hfz10_0:=blk_frozen BK287.out 0;have hfz10_1:=blk_frozen BK287.out 1;have hfz10_2:=blk_frozen BK287.out 2))
    go_ret
    exact ⟨by first|rfl|(simp [errW_none,errW_some] <;> rfl)|(simp [*,errW_none,errW_some] <;> rfl),by repeat (first|(with_reducible first|exact HB.out|apply below_alloc|apply pw_below_drewN|apply below_drew1|refine below_set ?_ GE287.out)|exact HB.out)⟩
  ·rw [if_neg c5] at H
   have c5b0 : (a0_0 == 0) = false:=beq_eq_false_iff_ne.mpr c5
   have c5b1 : (a0_0 != 0) = true:=bne_iff_ne.mpr c5
   by_cases c11 : a0_0 = 1
   ·rw [if_pos c11] at H
    have c11b0 : (a0_0 == 1) = true:=beq_iff_eq.mpr c11
    have c11b1 : (a0_0 != 1) = false:=bne_eq_false_iff_eq.mpr c11
    clear c11
    by_cases c12 : a0_2.toList = ([] : List UInt8)
    ·rw [if_pos c12] at H
     have c12b0 : (a0_2.toList == ([] : List UInt8)) = true:=beq_iff_eq.mpr c12
     have c12b1 : (a0_2.toList != ([] : List UInt8)) = false:=bne_eq_false_iff_eq.mpr c12
     clear c12
     replace H:=Option.bind_eq_some_iff.mp H
     obtain ⟨t288,A130,H⟩:=H
     replace H : (some t288) = some r:=H
     have A13:=Aside0.mk A130
     clear A130
     obtain rfl:=Option.some.inj H
     go_enter Tryz.func32,Tryz.ntmps32
     go_wp2_with (first|((with_reducible refine gate_dst (N:=1) rfl ?_);refine box_event ?hg (N:=1) ?hd (cs:=#[.int .i64 a0_0,.int .i64 a0_1,.string a0_2]) (t:=24) ?hr ?_;(case hd=>rfl);(case hg=>rfl);(case hr=>first|(go_simp;done)|(go_simp;rfl));intro gb287 hg w14 hbox hb;have n0_:=Aside0.mk (below_step (by repeat (first|(with_reducible first|exact HB.out|apply below_alloc|apply pw_below_drewN|apply below_drew1)|exact HB.out)) hb);have n1_:=Aside0.mk (hbox);have n2_:=Aside0.mk ((by rw [hg];exact (below_size (by repeat (first|(with_reducible first|exact HB.out|apply below_alloc|apply pw_below_drewN|apply below_drew1)|exact HB.out))) : w.heap.size ≤ gb287));have n3_:=Aside0.mk ((by rw [hg];exact (below_size (by repeat (first|(with_reducible first|exact HB.out|apply below_alloc|apply pw_below_drewN|apply below_drew1)|exact HB.out))) : w.heap.size ≤ gb287));clear HB;have HB:=n0_;have BK287:=n1_;have GW287:=n2_;have GE287:=n3_;clear n0_ n1_ n2_ n3_;clear hb hbox hg;have hcz15_0 : w14.cell? ⟨gb287,0,none⟩ = some (.int .i64 a0_0):=(blk_cell BK287.out 0).trans rfl;have hcz15_1 : w14.cell? ⟨gb287,1,none⟩ = some (.int .i64 a0_1):=(blk_cell BK287.out 1).trans rfl;have hcz15_2 : w14.cell? ⟨gb287,2,none⟩ = some (.string a0_2):=(blk_cell BK287.out 2).trans rfl;have hfz15_0:=blk_frozen BK287.out 0;have hfz15_1:=blk_frozen BK287.out 1;have hfz15_2:=blk_frozen BK287.out 2)|(go_at_call 68;(with_reducible refine (spec_DecOk.calls a0_1 t288 _ A13.out).mono ?_);rintro e w' ⟨rfl,⟨nd,rfl⟩⟩))
     go_ret
     exact ⟨by first|rfl|(simp [errW_none,errW_some] <;> rfl)|(simp [*,errW_none,errW_some] <;> rfl),by repeat (first|(with_reducible first|exact HB.out|apply below_alloc|apply pw_below_drewN|apply below_drew1|refine below_set ?_ GE287.out)|exact HB.out)⟩
    ·rw [if_neg c12] at H
     have c12b0 : (a0_2.toList == ([] : List UInt8)) = false:=beq_eq_false_iff_ne.mpr c12
     have c12b1 : (a0_2.toList != ([] : List UInt8)) = true:=bne_iff_ne.mpr c12
     obtain rfl:=Option.some.inj H
     go_enter Tryz.func32,Tryz.ntmps32
     go_wp2_with (first|((with_reducible refine gate_dst (N:=1) rfl ?_);refine box_event ?hg (N:=1) ?hd (cs:=#[.int .i64 a0_0,.int .i64 a0_1,.string a0_2]) (t:=24) ?hr ?_;(case hd=>rfl);(case hg=>rfl);(case hr=>first|(go_simp;done)|(go_simp;rfl));intro gb287 hg w16 hbox hb;have n0_:=Aside0.mk (below_step (by repeat (first|(with_reducible first|exact HB.out|apply below_alloc|apply pw_below_drewN|apply below_drew1)|exact HB.out)) hb);have n1_:=Aside0.mk (hbox);have n2_:=Aside0.mk ((by rw [hg];exact (below_size (by repeat (first|(with_reducible first|exact HB.out|apply below_alloc|apply pw_below_drewN|apply below_drew1)|exact HB.out))) : w.heap.size ≤ gb287));have n3_:=Aside0.mk ((by rw [hg];exact (below_size (by repeat (first|(with_reducible first|exact HB.out|apply below_alloc|apply pw_below_drewN|apply below_drew1)|exact HB.out))) : w.heap.size ≤ gb287));clear HB;have HB:=n0_;have BK287:=n1_;have GW287:=n2_;have GE287:=n3_;clear n0_ n1_ n2_ n3_;clear hb hbox hg;have hcz17_0 : w16.cell? ⟨gb287,0,none⟩ = some (.int .i64 a0_0):=(blk_cell BK287.out 0).trans rfl;have hcz17_1 : w16.cell? ⟨gb287,1,none⟩ = some (.int .i64 a0_1):=(blk_cell BK287.out 1).trans rfl;have hcz17_2 : w16.cell? ⟨gb287,2,none⟩ = some (.string a0_2):=(blk_cell BK287.out 2).trans rfl;have hfz17_0:=blk_frozen BK287.out 0;have hfz17_1:=blk_frozen BK287.out 1;have hfz17_2:=blk_frozen BK287.out 2))
     go_ret
     exact ⟨by first|rfl|(simp [errW_none,errW_some] <;> rfl)|(simp [*,errW_none,errW_some] <;> rfl),by repeat (first|(with_reducible first|exact HB.out|apply below_alloc|apply pw_below_drewN|apply below_drew1|refine below_set ?_ GE287.out)|exact HB.out)⟩
   ·rw [if_neg c11] at H
    have c11b0 : (a0_0 == 1) = false:=beq_eq_false_iff_ne.mpr c11
    have c11b1 : (a0_0 != 1) = true:=bne_iff_ne.mpr c11
    by_cases c18 : a0_0 = 2
    ·rw [if_pos c18] at H
     have c18b0 : (a0_0 == 2) = true:=beq_iff_eq.mpr c18
     have c18b1 : (a0_0 != 2) = false:=bne_eq_false_iff_eq.mpr c18
     clear c18
     obtain rfl:=Option.some.inj H
     go_enter Tryz.func32,Tryz.ntmps32
     go_wp2_with (first|((with_reducible refine gate_dst (N:=1) rfl ?_);refine box_event ?hg (N:=1) ?hd (cs:=#[.int .i64 a0_0,.int .i64 a0_1,.string a0_2]) (t:=24) ?hr ?_;(case hd=>rfl);(case hg=>rfl);(case hr=>first|(go_simp;done)|(go_simp;rfl));intro gb287 hg w19 hbox hb;have n0_:=Aside0.mk (below_step (by repeat (first|(with_reducible first|exact HB.out|apply below_alloc|apply pw_below_drewN|apply below_drew1)|exact HB.out)) hb);have n1_:=Aside0.mk (hbox);have n2_:=Aside0.mk ((by rw [hg];exact (below_size (by repeat (first|(with_reducible first|exact HB.out|apply below_alloc|apply pw_below_drewN|apply below_drew1)|exact HB.out))) : w.heap.size ≤ gb287));have n3_:=Aside0.mk ((by rw [hg];exact (below_size (by repeat (first|(with_reducible first|exact HB.out|apply below_alloc|apply pw_below_drewN|apply below_drew1)|exact HB.out))) : w.heap.size ≤ gb287));clear HB;have HB:=n0_;have BK287:=n1_;have GW287:=n2_;have GE287:=n3_;clear n0_ n1_ n2_ n3_;clear hb hbox hg;have hcz20_0 : w19.cell? ⟨gb287,0,none⟩ = some (.int .i64 a0_0):=(blk_cell BK287.out 0).trans rfl;have hcz20_1 : w19.cell? ⟨gb287,1,none⟩ = some (.int .i64 a0_1):=(blk_cell BK287.out 1).trans rfl;have hcz20_2 : w19.cell? ⟨gb287,2,none⟩ = some (.string a0_2):=(blk_cell BK287.out 2).trans rfl;have hfz20_0:=blk_frozen BK287.out 0;have hfz20_1:=blk_frozen BK287.out 1;have hfz20_2:=blk_frozen BK287.out 2))
     go_ret
     exact ⟨by first|rfl|(simp [errW_none,errW_some] <;> rfl)|(simp [*,errW_none,errW_some] <;> rfl),by repeat (first|(with_reducible first|exact HB.out|apply below_alloc|apply pw_below_drewN|apply below_drew1|refine below_set ?_ GE287.out)|exact HB.out)⟩
    ·rw [if_neg c18] at H
     have c18b0 : (a0_0 == 2) = false:=beq_eq_false_iff_ne.mpr c18
     have c18b1 : (a0_0 != 2) = true:=bne_iff_ne.mpr c18
     by_cases c21 : a0_0 = 3
     ·rw [if_pos c21] at H
      have c21b0 : (a0_0 == 3) = true:=beq_iff_eq.mpr c21
      have c21b1 : (a0_0 != 3) = false:=bne_eq_false_iff_eq.mpr c21
      clear c21
      replace H:=Option.bind_eq_some_iff.mp H
      obtain ⟨⟨t289,t290⟩,A220,H⟩:=H
      replace H : ((spec_LooksNum.f k a0_2).bind fun t291=>(if t291 = true then (some (a0_1 == t289)) else (some false))) = some r:=H
      have A22:=Aside0.mk A220
      clear A220
      replace H:=Option.bind_eq_some_iff.mp H
      obtain ⟨t291,A230,H⟩:=H
      replace H : (if t291 = true then (some (a0_1 == t289)) else (some false)) = some r:=H
      have A23:=Aside0.mk A230
      clear A230
      by_cases c24 : t291 = true
      ·subst c24
       have H1 : (some (a0_1 == t289)) = some r:=by rw [if_pos rfl] at H;exact H
       clear H
       have H:=H1
       clear H1
       obtain rfl:=Option.some.inj H
       go_enter Tryz.func32,Tryz.ntmps32
       go_wp2_with (first|((with_reducible refine gate_dst (N:=1) rfl ?_);refine box_event ?hg (N:=1) ?hd (cs:=#[.int .i64 a0_0,.int .i64 a0_1,.string a0_2]) (t:=24) ?hr ?_;(case hd=>rfl);(case hg=>rfl);(case hr=>first|(go_simp;done)|(go_simp;rfl));intro gb287 hg w25 hbox hb;have n0_:=Aside0.mk (below_step (by repeat (first|(with_reducible first|exact HB.out|apply below_alloc|apply pw_below_drewN|apply below_drew1)|exact HB.out)) hb);have n1_:=Aside0.mk (hbox);have n2_:=Aside0.mk ((by rw [hg];exact (below_size (by repeat (first|(with_reducible first|exact HB.out|apply below_alloc|apply pw_below_drewN|apply below_drew1)|exact HB.out))) : w.heap.size ≤ gb287));have n3_:=Aside0.mk ((by rw [hg];exact (below_size (by repeat (first|(with_reducible first|exact HB.out|apply below_alloc|apply pw_below_drewN|apply below_drew1)|exact HB.out))) : w.heap.size ≤ gb287));clear HB;have HB:=n0_;have BK287:=n1_;have GW287:=n2_;have GE287:=n3_;clear n0_ n1_ n2_ n3_;clear hb hbox hg;have hcz26_0 : w25.cell? ⟨gb287,0,none⟩ = some (.int .i64 a0_0):=(blk_cell BK287.out 0).trans rfl;have hcz26_1 : w25.cell? ⟨gb287,1,none⟩ = some (.int .i64 a0_1):=(blk_cell BK287.out 1).trans rfl;have hcz26_2 : w25.cell? ⟨gb287,2,none⟩ = some (.string a0_2):=(blk_cell BK287.out 2).trans rfl;have hfz26_0:=blk_frozen BK287.out 0;have hfz26_1:=blk_frozen BK287.out 1;have hfz26_2:=blk_frozen BK287.out 2)|((with_reducible refine gate_callee (f:=69) rfl ?_);refine goesL_ (some 41) rfl rfl Tryz.func69 (by kernel_rfl) rfl #[.string a0_2] rfl (by (try simp only [List.map_toArray,List.map_cons,List.map_nil]);first|done|rfl|(simp only [List.length_drop,List.length_take];rfl)) ?_;(with_reducible refine (spec_ReadDec.calls k a0_2 t289 t290 _ A22.out).mono ?_);rintro e w' ⟨rfl,⟨nd,rfl⟩⟩;refine ⟨_,rfl,?_⟩)|((with_reducible refine gate_callee (f:=70) rfl ?_);refine goesL_ (some 46) rfl rfl Tryz.func70 (by kernel_rfl) rfl #[.string a0_2] rfl (by (try simp only [List.map_toArray,List.map_cons,List.map_nil]);first|done|rfl|(simp only [List.length_drop,List.length_take];rfl)) ?_;(with_reducible refine (spec_LooksNum.calls k a0_2 true _ A23.out).mono ?_);rintro e w' ⟨rfl,⟨nd,rfl⟩⟩;refine ⟨_,rfl,?_⟩))
       go_ret
       exact ⟨by first|rfl|(simp [errW_none,errW_some] <;> rfl)|(simp [*,errW_none,errW_some] <;> rfl),by repeat (first|(with_reducible first|exact HB.out|apply below_alloc|apply pw_below_drewN|apply below_drew1|refine below_set ?_ GE287.out)|exact HB.out)⟩
      ·replace c24:=Bool.eq_false_iff.mpr c24
       subst c24
       have H1 : (some false) = some r:=by rw [if_neg (show ¬ (false = true) by decide)] at H;exact H
       clear H
       have H:=H1
       clear H1
       obtain rfl:=Option.some.inj H
       go_enter Tryz.func32,Tryz.ntmps32
       go_wp2_with (first|((with_reducible refine gate_dst (N:=1) rfl ?_);refine box_event ?hg (N:=1) ?hd (cs:=#[.int .i64 a0_0,.int .i64 a0_1,.string a0_2]) (t:=24) ?hr ?_;(case hd=>rfl);(case hg=>rfl);(case hr=>first|(go_simp;done)|(go_simp;rfl));intro gb287 hg w27 hbox hb;have n0_:=Aside0.mk (below_step (by repeat (first|(with_reducible first|exact HB.out|apply below_alloc|apply pw_below_drewN|apply below_drew1)|exact HB.out)) hb);have n1_:=Aside0.mk (hbox);have n2_:=Aside0.mk ((by rw [hg];exact (below_size (by repeat (first|(with_reducible first|exact HB.out|apply below_alloc|apply pw_below_drewN|apply below_drew1)|exact HB.out))) : w.heap.size ≤ gb287));have n3_:=Aside0.mk ((by rw [hg];exact (below_size (by repeat (first|(with_reducible first|exact HB.out|apply below_alloc|apply pw_below_drewN|apply below_drew1)|exact HB.out))) : w.heap.size ≤ gb287));clear HB;have HB:=n0_;have BK287:=n1_;have GW287:=n2_;have GE287:=n3_;clear n0_ n1_ n2_ n3_;clear hb hbox hg;have hcz28_0 : w27.cell? ⟨gb287,0,none⟩ = some (.int .i64 a0_0):=(blk_cell BK287.out 0).trans rfl;have hcz28_1 : w27.cell? ⟨gb287,1,none⟩ = some (.int .i64 a0_1):=(blk_cell BK287.out 1).trans rfl;have hcz28_2 : w27.cell? ⟨gb287,2,none⟩ = some (.string a0_2):=(blk_cell BK287.out 2).trans rfl;have hfz28_0:=blk_frozen BK287.out 0;have hfz28_1:=blk_frozen BK287.out 1;have hfz28_2:=blk_frozen BK287.out 2)|((with_reducible refine gate_callee (f:=69) rfl ?_);refine goesL_ (some 41) rfl rfl Tryz.func69 (by kernel_rfl) rfl #[.string a0_2] rfl (by (try simp only [List.map_toArray,List.map_cons,List.map_nil]);first|done|rfl|(simp only [List.length_drop,List.length_take];rfl)) ?_;(with_reducible refine (spec_ReadDec.calls k a0_2 t289 t290 _ A22.out).mono ?_);rintro e w' ⟨rfl,⟨nd,rfl⟩⟩;refine ⟨_,rfl,?_⟩)|((with_reducible refine gate_callee (f:=70) rfl ?_);refine goesL_ (some 46) rfl rfl Tryz.func70 (by kernel_rfl) rfl #[.string a0_2] rfl (by (try simp only [List.map_toArray,List.map_cons,List.map_nil]);first|done|rfl|(simp only [List.length_drop,List.length_take];rfl)) ?_;(with_reducible refine (spec_LooksNum.calls k a0_2 false _ A23.out).mono ?_);rintro e w' ⟨rfl,⟨nd,rfl⟩⟩;refine ⟨_,rfl,?_⟩))
       go_ret
       exact ⟨by first|rfl|(simp [errW_none,errW_some] <;> rfl)|(simp [*,errW_none,errW_some] <;> rfl),by repeat (first|(with_reducible first|exact HB.out|apply below_alloc|apply pw_below_drewN|apply below_drew1|refine below_set ?_ GE287.out)|exact HB.out)⟩
     ·rw [if_neg c21] at H
      have c21b0 : (a0_0 == 3) = false:=beq_eq_false_iff_ne.mpr c21
      have c21b1 : (a0_0 != 3) = true:=bne_iff_ne.mpr c21
      obtain rfl:=Option.some.inj H
      go_enter Tryz.func32,Tryz.ntmps32
      go_wp2_with (first|((with_reducible refine gate_dst (N:=1) rfl ?_);refine box_event ?hg (N:=1) ?hd (cs:=#[.int .i64 a0_0,.int .i64 a0_1,.string a0_2]) (t:=24) ?hr ?_;(case hd=>rfl);(case hg=>rfl);(case hr=>first|(go_simp;done)|(go_simp;rfl));intro gb287 hg w29 hbox hb;have n0_:=Aside0.mk (below_step (by repeat (first|(with_reducible first|exact HB.out|apply below_alloc|apply pw_below_drewN|apply below_drew1)|exact HB.out)) hb);have n1_:=Aside0.mk (hbox);have n2_:=Aside0.mk ((by rw [hg];exact (below_size (by repeat (first|(with_reducible first|exact HB.out|apply below_alloc|apply pw_below_drewN|apply below_drew1)|exact HB.out))) : w.heap.size ≤ gb287));have n3_:=Aside0.mk ((by rw [hg];exact (below_size (by repeat (first|(with_reducible first|exact HB.out|apply below_alloc|apply pw_below_drewN|apply below_drew1)|exact HB.out))) : w.heap.size ≤ gb287));clear HB;have HB:=n0_;have BK287:=n1_;have GW287:=n2_;have GE287:=n3_;clear n0_ n1_ n2_ n3_;clear hb hbox hg;have hcz30_0 : w29.cell? ⟨gb287,0,none⟩ = some (.int .i64 a0_0):=(blk_cell BK287.out 0).trans rfl;have hcz30_1 : w29.cell? ⟨gb287,1,none⟩ = some (.int .i64 a0_1):=(blk_cell BK287.out 1).trans rfl;have hcz30_2 : w29.cell? ⟨gb287,2,none⟩ = some (.string a0_2):=(blk_cell BK287.out 2).trans rfl;have hfz30_0:=blk_frozen BK287.out 0;have hfz30_1:=blk_frozen BK287.out 1;have hfz30_2:=blk_frozen BK287.out 2))
      go_ret
      exact ⟨by first|rfl|(simp [errW_none,errW_some] <;> rfl)|(simp [*,errW_none,errW_some] <;> rfl),by repeat (first|(with_reducible first|exact HB.out|apply below_alloc|apply pw_below_drewN|apply below_drew1|refine below_set ?_ GE287.out)|exact HB.out)⟩
def spec_ToNum.f (k : Nat) (a0_0 : Int) (a0_1 : Int) (a0_2 : ByteArray) : Option (Int):=(spec_CellOk.f k a0_0 a0_1 a0_2).bind fun t293=>(if t293 = true then (if a0_0 = 2 then ((spec_ReadDec.f k a0_2).bind fun bt294=>(some bt294.1)) else (some a0_1)) else (some 0))
set_option maxHeartbeats 8000000 in
set_option maxRecDepth 100000 in
theorem spec_ToNum.calls (k : Nat) (a0_0 : Int) (a0_1 : Int) (a0_2 : ByteArray) (r : Int) (w : World) (h : spec_ToNum.f k a0_0 a0_1 a0_2 = some r) :
  Calls Tryz.prog 33 #[.agg #[.int .i64 a0_0,.int .i64 a0_1,.string a0_2]] w fun e w'=>e = .returned (.int .i64 r) ∧ Below w.heap.size w w':=by
 have hu24:=Tryz.underlying24
 have HB:=Aside0.mk (Below.refl w.heap.size w)
 have H : ((spec_CellOk.f k a0_0 a0_1 a0_2).bind fun t293=>(if t293 = true then (if a0_0 = 2 then ((spec_ReadDec.f k a0_2).bind fun bt294=>(some bt294.1)) else (some a0_1)) else (some 0))) = some r:=h
 clear h
 replace H:=Option.bind_eq_some_iff.mp H
 obtain ⟨t293,A20,H⟩:=H
 replace H : (if t293 = true then (if a0_0 = 2 then ((spec_ReadDec.f k a0_2).bind fun bt294=>(some bt294.1)) else (some a0_1)) else (some 0)) = some r:=H
 have A2:=Aside0.mk A20
 clear A20
 by_cases c3 : t293 = true
 ·subst c3
  have H1 : (if a0_0 = 2 then ((spec_ReadDec.f k a0_2).bind fun bt294=>(some bt294.1)) else (some a0_1)) = some r:=by rw [if_pos rfl] at H;exact H
  clear H
  have H:=H1
  clear H1
  by_cases c4 : a0_0 = 2
  ·rw [if_pos c4] at H
   have c4b0 : (a0_0 == 2) = true:=beq_iff_eq.mpr c4
   have c4b1 : (a0_0 != 2) = false:=bne_eq_false_iff_eq.mpr c4
   clear c4
   replace H:=Option.bind_eq_some_iff.mp H
   obtain ⟨⟨t294,t295⟩,A50,H⟩:=H
   replace H : (some t294) = some r:=H
   have A5:=Aside0.mk A50
   clear A50
   obtain rfl:=Option.some.inj H
   go_enter Tryz.func33,Tryz.ntmps33
   go_wp2_with (first|((with_reducible refine gate_dst (N:=1) rfl ?_);refine box_event ?hg (N:=1) ?hd (cs:=#[.int .i64 a0_0,.int .i64 a0_1,.string a0_2]) (t:=24) ?hr ?_;(case hd=>rfl);(case hg=>rfl);(case hr=>first|(go_simp;done)|(go_simp;rfl));intro gb292 hg w6 hbox hb;have n0_:=Aside0.mk (below_step (by repeat (first|(with_reducible first|exact HB.out|apply below_alloc|apply pw_below_drewN|apply below_drew1)|exact HB.out)) hb);have n1_:=Aside0.mk (hbox);have n2_:=Aside0.mk ((by rw [hg];exact (below_size (by repeat (first|(with_reducible first|exact HB.out|apply below_alloc|apply pw_below_drewN|apply below_drew1)|exact HB.out))) : w.heap.size ≤ gb292));have n3_:=Aside0.mk ((by rw [hg];exact (below_size (by repeat (first|(with_reducible first|exact HB.out|apply below_alloc|apply pw_below_drewN|apply below_drew1)|exact HB.out))) : w.heap.size ≤ gb292));clear HB;have HB:=n0_;have BK292:=n1_;have GW292:=n2_;have GE292:=n3_;clear n0_ n1_ n2_ n3_;clear hb hbox hg;have hcz7_0 : w6.cell? ⟨gb292,0,none⟩ = some (.int .i64 a0_0):=(blk_cell BK292.out 0).trans rfl;have hcz7_1 : w6.cell? ⟨gb292,1,none⟩ = some (.int .i64 a0_1):=(blk_cell BK292.out 1).trans rfl;have hcz7_2 : w6.cell? ⟨gb292,2,none⟩ = some (.string a0_2):=(blk_cell BK292.out 2).trans rfl;have hfz7_0:=blk_frozen BK292.out 0;have hfz7_1:=blk_frozen BK292.out 1;have hfz7_2:=blk_frozen BK292.out 2)|((with_reducible refine gate_callee (f:=32) rfl ?_);refine goesL_ (some 6) rfl rfl Tryz.func32 (by kernel_rfl) rfl #[.agg #[.int .i64 a0_0,.int .i64 a0_1,.string a0_2]] rfl (by (try simp only [List.map_toArray,List.map_cons,List.map_nil]);first|done|rfl|(simp only [List.length_drop,List.length_take];rfl)) ?_;(with_reducible refine (spec_CellOk.calls k a0_0 a0_1 a0_2 true _ A2.out).mono ?_);rintro e w8 ⟨rfl,hb⟩;refine ⟨_,rfl,?_⟩;have n0_:=Aside0.mk (blk_below (g:=gb292) (o:=.cells #[.int .i64 a0_0,.int .i64 a0_1,.string a0_2] 24 (0,0)) (by (with_reducible repeat (first|refine blk_drewN ?_ _|refine blk_drew ?_|refine blk_alloc ?_ _));exact BK292.out) hb);have n1_:=Aside0.mk (below_step (by repeat (first|(with_reducible first|exact HB.out|apply below_alloc|apply pw_below_drewN|apply below_drew1|refine below_set ?_ GE292.out)|exact HB.out)) hb);clear BK292;clear HB;have BK292:=n0_;have HB:=n1_;clear n0_ n1_;(try clear hb);(try clear hb2);(try clear hk);(try clear hi);have hcz9_0 : w8.cell? ⟨gb292,0,none⟩ = some (.int .i64 a0_0):=(blk_cell BK292.out 0).trans rfl;have hcz9_1 : w8.cell? ⟨gb292,1,none⟩ = some (.int .i64 a0_1):=(blk_cell BK292.out 1).trans rfl;have hcz9_2 : w8.cell? ⟨gb292,2,none⟩ = some (.string a0_2):=(blk_cell BK292.out 2).trans rfl;have hfz9_0:=blk_frozen BK292.out 0;have hfz9_1:=blk_frozen BK292.out 1;have hfz9_2:=blk_frozen BK292.out 2)|((with_reducible refine gate_callee (f:=69) rfl ?_);refine goesL_ (some 14) rfl rfl Tryz.func69 (by kernel_rfl) rfl #[.string a0_2] rfl (by (try simp only [List.map_toArray,List.map_cons,List.map_nil]);first|done|rfl|(simp only [List.length_drop,List.length_take];rfl)) ?_;(with_reducible refine (spec_ReadDec.calls k a0_2 t294 t295 _ A5.out).mono ?_);rintro e w' ⟨rfl,⟨nd,rfl⟩⟩;refine ⟨_,rfl,?_⟩))
   go_ret
   exact ⟨by first|rfl|(simp [errW_none,errW_some] <;> rfl)|(simp [*,errW_none,errW_some] <;> rfl),by repeat (first|(with_reducible first|exact HB.out|apply below_alloc|apply pw_below_drewN|apply below_drew1|refine below_set ?_ GE292.out)|exact HB.out)⟩
  ·rw [if_neg c4] at H
   have c4b0 : (a0_0 == 2) = false:=beq_eq_false_iff_ne.mpr c4
   have c4b1 : (a0_0 != 2) = true:=bne_iff_ne.mpr c4
   obtain rfl:=Option.some.inj H
   go_enter Tryz.func33,Tryz.ntmps33
   go_wp2_with (first|((with_reducible refine gate_dst (N:=1) rfl ?_);refine box_event ?hg (N:=1) ?hd (cs:=#[.int .i64 a0_0,.int .i64 a0_1,.string a0_2]) (t:=24) ?hr ?_;(case hd=>rfl);(case hg=>rfl);(case hr=>first|(go_simp;done)|(go_simp;rfl));intro gb292 hg w10 hbox hb;have n0_:=Aside0.mk (below_step (by repeat (first|(with_reducible first|exact HB.out|apply below_alloc|apply pw_below_drewN|apply below_drew1)|exact HB.out)) hb);have n1_:=Aside0.mk (hbox);have n2_:=Aside0.mk ((by rw [hg];exact (below_size (by repeat (first|(with_reducible first|exact HB.out|apply below_alloc|apply pw_below_drewN|apply below_drew1)|exact HB.out))) : w.heap.size ≤ gb292));have n3_:=Aside0.mk ((by rw [hg];exact (below_size (by repeat (first|(with_reducible first|exact HB.out|apply below_alloc|apply pw_below_drewN|apply below_drew1)|exact HB.out))) : w.heap.size ≤ gb292));clear HB;have HB:=n0_;have BK292:=n1_;have GW292:=n2_;have GE292:=n3_;clear n0_ n1_ n2_ n3_;clear hb hbox hg;have hcz11_0 : w10.cell? ⟨gb292,0,none⟩ = some (.int .i64 a0_0):=(blk_cell BK292.out 0).trans rfl;have hcz11_1 : w10.cell? ⟨gb292,1,none⟩ = some (.int .i64 a0_1):=(blk_cell BK292.out 1).trans rfl;have hcz11_2 : w10.cell? ⟨gb292,2,none⟩ = some (.string a0_2):=(blk_cell BK292.out 2).trans rfl;have hfz11_0:=blk_frozen BK292.out 0;have hfz11_1:=blk_frozen BK292.out 1;have hfz11_2:=blk_frozen BK292.out 2)|((with_reducible refine gate_callee (f:=32) rfl ?_);refine goesL_ (some 6) rfl rfl Tryz.func32 (by kernel_rfl) rfl #[.agg #[.int .i64 a0_0,.int .i64 a0_1,.string a0_2]] rfl (by (try simp only [List.map_toArray,List.map_cons,List.map_nil]);first|done|rfl|(simp only [List.length_drop,List.length_take];rfl)) ?_;(with_reducible refine (spec_CellOk.calls k a0_0 a0_1 a0_2 true _ A2.out).mono ?_);rintro e w12 ⟨rfl,hb⟩;refine ⟨_,rfl,?_⟩;have n0_:=Aside0.mk (blk_below (g:=gb292) (o:=.cells #[.int .i64 a0_0,.int .i64 a0_1,.string a0_2] 24 (0,0)) (by (with_reducible repeat (first|refine blk_drewN ?_ _|refine blk_drew ?_|refine blk_alloc ?_ _));exact BK292.out) hb);have n1_:=Aside0.mk (below_step (by repeat (first|(with_reducible first|exact HB.out|apply below_alloc|apply pw_below_drewN|apply below_drew1|refine below_set ?_ GE292.out)|exact HB.out)) hb);clear BK292;clear HB;have BK292:=n0_;have HB:=n1_;clear n0_ n1_;(try clear hb);(try clear hb2);(try clear hk);(try clear hi);have hcz13_0 : w12.cell? ⟨gb292,0,none⟩ = some (.int .i64 a0_0):=(blk_cell BK292.out 0).trans rfl;have hcz13_1 : w12.cell? ⟨gb292,1,none⟩ = some (.int .i64 a0_1):=(blk_cell BK292.out 1).trans rfl;have hcz13_2 : w12.cell? ⟨gb292,2,none⟩ = some (.string a0_2):=(blk_cell BK292.out 2).trans rfl;have hfz13_0:=blk_frozen BK292.out 0;have hfz13_1:=blk_frozen BK292.out 1;have hfz13_2:=blk_frozen BK292.out 2))
   go_ret
   exact ⟨by first|rfl|(simp [errW_none,errW_some] <;> rfl)|(simp [*,errW_none,errW_some] <;> rfl),by repeat (first|(with_reducible first|exact HB.out|apply below_alloc|apply pw_below_drewN|apply below_drew1|refine below_set ?_ GE292.out)|exact HB.out)⟩
 ·replace c3:=Bool.eq_false_iff.mpr c3
  subst c3
  have H1 : (some 0) = some r:=by rw [if_neg (show ¬ (false = true) by decide)] at H;exact H
  clear H
  have H:=H1
  clear H1
  obtain rfl:=Option.some.inj H
  go_enter Tryz.func33,Tryz.ntmps33
  go_wp2_with (first|((with_reducible refine gate_dst (N:=1) rfl ?_);refine box_event ?hg (N:=1) ?hd (cs:=#[.int .i64 a0_0,.int .i64 a0_1,.string a0_2]) (t:=24) ?hr ?_;(case hd=>rfl);(case hg=>rfl);(case hr=>first|(go_simp;done)|(go_simp;rfl));intro gb292 hg w14 hbox hb;have n0_:=Aside0.mk (below_step (by repeat (first|(with_reducible first|exact HB.out|apply below_alloc|apply pw_below_drewN|apply below_drew1)|exact HB.out)) hb);have n1_:=Aside0.mk (hbox);have n2_:=Aside0.mk ((by rw [hg];exact (below_size (by repeat (first|(with_reducible first|exact HB.out|apply below_alloc|apply pw_below_drewN|apply below_drew1)|exact HB.out))) : w.heap.size ≤ gb292));have n3_:=Aside0.mk ((by rw [hg];exact (below_size (by repeat (first|(with_reducible first|exact HB.out|apply below_alloc|apply pw_below_drewN|apply below_drew1)|exact HB.out))) : w.heap.size ≤ gb292));clear HB;have HB:=n0_;have BK292:=n1_;have GW292:=n2_;have GE292:=n3_;clear n0_ n1_ n2_ n3_;clear hb hbox hg;have hcz15_0 : w14.cell? ⟨gb292,0,none⟩ = some (.int .i64 a0_0):=(blk_cell BK292.out 0).trans rfl;have hcz15_1 : w14.cell? ⟨gb292,1,none⟩ = some (.int .i64 a0_1):=(blk_cell BK292.out 1).trans rfl;have hcz15_2 : w14.cell? ⟨gb292,2,none⟩ = some (.string a0_2):=(blk_cell BK292.out 2).trans rfl;have hfz15_0:=blk_frozen BK292.out 0;have hfz15_1:=blk_frozen BK292.out 1;have hfz15_2:=blk_frozen BK292.out 2)|((with_reducible refine gate_callee (f:=32) rfl ?_);refine goesL_ (some 6) rfl rfl Tryz.func32 (by kernel_rfl) rfl #[.agg #[.int .i64 a0_0,.int .i64 a0_1,.string a0_2]] rfl (by (try simp only [List.map_toArray,List.map_cons,List.map_nil]);first|done|rfl|(simp only [List.length_drop,List.length_take];rfl)) ?_;(with_reducible refine (spec_CellOk.calls k a0_0 a0_1 a0_2 false _ A2.out).mono ?_);rintro e w16 ⟨rfl,hb⟩;refine ⟨_,rfl,?_⟩;have n0_:=Aside0.mk (blk_below (g:=gb292) (o:=.cells #[.int .i64 a0_0,.int .i64 a0_1,.string a0_2] 24 (0,0)) (by (with_reducible repeat (first|refine blk_drewN ?_ _|refine blk_drew ?_|refine blk_alloc ?_ _));exact BK292.out) hb);have n1_:=Aside0.mk (below_step (by repeat (first|(with_reducible first|exact HB.out|apply below_alloc|apply pw_below_drewN|apply below_drew1|refine below_set ?_ GE292.out)|exact HB.out)) hb);clear BK292;clear HB;have BK292:=n0_;have HB:=n1_;clear n0_ n1_;(try clear hb);(try clear hb2);(try clear hk);(try clear hi)))
  go_ret
  exact ⟨by first|rfl|(simp [errW_none,errW_some] <;> rfl)|(simp [*,errW_none,errW_some] <;> rfl),by repeat (first|(with_reducible first|exact HB.out|apply below_alloc|apply pw_below_drewN|apply below_drew1|refine below_set ?_ GE292.out)|exact HB.out)⟩
def spec_l1made.f (a0 : Int) : Option (Int × Bool):=(spec_DecOk.f a0).bind fun t296=>(if t296 = true then (some (a0,true)) else (some (0,false)))
set_option maxHeartbeats 8000000 in
set_option maxRecDepth 100000 in
theorem spec_l1made.calls (a0 : Int) (r1 : Int) (r2 : Bool) (w : World) (h : spec_l1made.f a0 = some (r1,r2)) :
  Calls Tryz.prog 71 #[.int .i64 a0] w fun e w'=>e = .returned (.tuple #[.int .i64 r1,.bool r2]) ∧ Drawn0 w w':=by
 have H : ((spec_DecOk.f a0).bind fun t296=>(if t296 = true then (some (a0,true)) else (some (0,false)))) = some (r1,r2):=h
 clear h
 replace H:=Option.bind_eq_some_iff.mp H
 obtain ⟨t296,A20,H⟩:=H
 replace H : (if t296 = true then (some (a0,true)) else (some (0,false))) = some (r1,r2):=H
 have A2:=Aside0.mk A20
 clear A20
 by_cases c3 : t296 = true
 ·subst c3
  have H1 : (some (a0,true)) = some (r1,r2):=by rw [if_pos rfl] at H;exact H
  clear H
  have H:=H1
  clear H1
  simp only [Option.some.injEq,Prod.mk.injEq] at H
  obtain ⟨rfl,rfl⟩:=H
  go_enter Tryz.func71,Tryz.ntmps71
  go_wp2_with (first|((with_reducible refine gate_callee (f:=68) rfl ?_);refine goesL_ (some 5) rfl rfl Tryz.func68 (by kernel_rfl) rfl #[.int .i64 a0] rfl (by (try simp only [List.map_toArray,List.map_cons,List.map_nil]);first|done|rfl|(simp only [List.length_drop,List.length_take];rfl)) ?_;(with_reducible refine (spec_DecOk.calls a0 true _ A2.out).mono ?_);rintro e w' ⟨rfl,⟨nd,rfl⟩⟩;refine ⟨_,rfl,?_⟩))
  go_ret2
  exact ⟨by first|rfl|(simp;done)|(simp [*];done),by repeat (first|exact Drawn0.refl _|apply Drawn0.step)⟩
 ·replace c3:=Bool.eq_false_iff.mpr c3
  subst c3
  have H1 : (some (0,false)) = some (r1,r2):=by rw [if_neg (show ¬ (false = true) by decide)] at H;exact H
  clear H
  have H:=H1
  clear H1
  simp only [Option.some.injEq,Prod.mk.injEq] at H
  obtain ⟨rfl,rfl⟩:=H
  go_enter Tryz.func71,Tryz.ntmps71
  go_wp2_with (first|((with_reducible refine gate_callee (f:=68) rfl ?_);refine goesL_ (some 5) rfl rfl Tryz.func68 (by kernel_rfl) rfl #[.int .i64 a0] rfl (by (try simp only [List.map_toArray,List.map_cons,List.map_nil]);first|done|rfl|(simp only [List.length_drop,List.length_take];rfl)) ?_;(with_reducible refine (spec_DecOk.calls a0 false _ A2.out).mono ?_);rintro e w' ⟨rfl,⟨nd,rfl⟩⟩;refine ⟨_,rfl,?_⟩))
  go_ret2
  exact ⟨by first|rfl|(simp;done)|(simp [*];done),by repeat (first|exact Drawn0.refl _|apply Drawn0.step)⟩
def spec_DecAdd.f (a0 : Int) (a1 : Int) : Option (Int × Bool):=(spec_DecOk.f a0).bind fun t297=>(if t297 = true then ((spec_DecOk.f a1).bind fun t298=>(if t298 = true then ((spec_l1made.f (wrap64 (a0 + a1))).bind fun bt299=>(some (bt299.1,bt299.2))) else (some (0,false)))) else (some (0,false)))
set_option maxHeartbeats 8000000 in
set_option maxRecDepth 100000 in
theorem spec_DecAdd.calls (a0 : Int) (a1 : Int) (r1 : Int) (r2 : Bool) (w : World) (h : spec_DecAdd.f a0 a1 = some (r1,r2)) :
  Calls Tryz.prog 34 #[.int .i64 a0,.int .i64 a1] w fun e w'=>e = .returned (.tuple #[.int .i64 r1,.bool r2]) ∧ Drawn0 w w':=by
 have H : ((spec_DecOk.f a0).bind fun t297=>(if t297 = true then ((spec_DecOk.f a1).bind fun t298=>(if t298 = true then ((spec_l1made.f (wrap64 (a0 + a1))).bind fun bt299=>(some (bt299.1,bt299.2))) else (some (0,false)))) else (some (0,false)))) = some (r1,r2):=h
 clear h
 replace H:=Option.bind_eq_some_iff.mp H
 obtain ⟨t297,A30,H⟩:=H
 replace H : (if t297 = true then ((spec_DecOk.f a1).bind fun t298=>(if t298 = true then ((spec_l1made.f (wrap64 (a0 + a1))).bind fun bt299=>(some (bt299.1,bt299.2))) else (some (0,false)))) else (some (0,false))) = some (r1,r2):=H
 have A3:=Aside0.mk A30
 clear A30
 by_cases c4 : t297 = true
 ·subst c4
  have H1 : ((spec_DecOk.f a1).bind fun t298=>(if t298 = true then ((spec_l1made.f (wrap64 (a0 + a1))).bind fun bt299=>(some (bt299.1,bt299.2))) else (some (0,false)))) = some (r1,r2):=by rw [if_pos rfl] at H;exact H
  clear H
  have H:=H1
  clear H1
  replace H:=Option.bind_eq_some_iff.mp H
  obtain ⟨t298,A50,H⟩:=H
  replace H : (if t298 = true then ((spec_l1made.f (wrap64 (a0 + a1))).bind fun bt299=>(some (bt299.1,bt299.2))) else (some (0,false))) = some (r1,r2):=H
  have A5:=Aside0.mk A50
  clear A50
  by_cases c6 : t298 = true
  ·subst c6
   have H1 : ((spec_l1made.f (wrap64 (a0 + a1))).bind fun bt299=>(some (bt299.1,bt299.2))) = some (r1,r2):=by rw [if_pos rfl] at H;exact H
   clear H
   have H:=H1
   clear H1
   replace H:=Option.bind_eq_some_iff.mp H
   obtain ⟨⟨t299,t300⟩,A70,H⟩:=H
   replace H : (some (t299,t300)) = some (r1,r2):=H
   have A7:=Aside0.mk A70
   clear A70
   simp only [Option.some.injEq,Prod.mk.injEq] at H
   obtain ⟨rfl,rfl⟩:=H
   go_enter Tryz.func34,Tryz.ntmps34
   go_wp2_with (first|((with_reducible refine gate_callee (f:=68) rfl ?_);refine goesL_ (some 7) rfl rfl Tryz.func68 (by kernel_rfl) rfl #[.int .i64 a0] rfl (by (try simp only [List.map_toArray,List.map_cons,List.map_nil]);first|done|rfl|(simp only [List.length_drop,List.length_take];rfl)) ?_;(with_reducible refine (spec_DecOk.calls a0 true _ A3.out).mono ?_);rintro e w' ⟨rfl,⟨nd,rfl⟩⟩;refine ⟨_,rfl,?_⟩)|(go_at_call 68;(with_reducible refine (spec_DecOk.calls a1 true _ A5.out).mono ?_);rintro e w' ⟨rfl,⟨nd,rfl⟩⟩)|((with_reducible refine gate_callee (f:=71) rfl ?_);refine goesL_ (some 17) rfl rfl Tryz.func71 (by kernel_rfl) rfl #[.int .i64 (wrap64 (a0 + a1))] rfl (by (try simp only [List.map_toArray,List.map_cons,List.map_nil]);first|done|rfl|(simp only [List.length_drop,List.length_take];rfl)) ?_;(with_reducible refine (spec_l1made.calls (wrap64 (a0 + a1)) t299 t300 _ A7.out).mono ?_);rintro e w' ⟨rfl,⟨nd,rfl⟩⟩;refine ⟨_,rfl,?_⟩))
   go_ret2
   exact ⟨by first|rfl|(simp;done)|(simp [*];done),by repeat (first|exact Drawn0.refl _|apply Drawn0.step)⟩
  ·replace c6:=Bool.eq_false_iff.mpr c6
   subst c6
   have H1 : (some (0,false)) = some (r1,r2):=by rw [if_neg (show ¬ (false = true) by decide)] at H;exact H
   clear H
   have H:=H1
   clear H1
   simp only [Option.some.injEq,Prod.mk.injEq] at H
   obtain ⟨rfl,rfl⟩:=H
   go_enter Tryz.func34,Tryz.ntmps34
   go_wp2_with (first|((with_reducible refine gate_callee (f:=68) rfl ?_);refine goesL_ (some 7) rfl rfl Tryz.func68 (by kernel_rfl) rfl #[.int .i64 a0] rfl (by (try simp only [List.map_toArray,List.map_cons,List.map_nil]);first|done|rfl|(simp only [List.length_drop,List.length_take];rfl)) ?_;(with_reducible refine (spec_DecOk.calls a0 true _ A3.out).mono ?_);rintro e w' ⟨rfl,⟨nd,rfl⟩⟩;refine ⟨_,rfl,?_⟩)|(go_at_call 68;(with_reducible refine (spec_DecOk.calls a1 false _ A5.out).mono ?_);rintro e w' ⟨rfl,⟨nd,rfl⟩⟩))
   go_ret2
   exact ⟨by first|rfl|(simp;done)|(simp [*];done),by repeat (first|exact Drawn0.refl _|apply Drawn0.step)⟩
 ·replace c4:=Bool.eq_false_iff.mpr c4
  subst c4
  have H1 : (some (0,false)) = some (r1,r2):=by rw [if_neg (show ¬ (false = true) by decide)] at H;exact H
  clear H
  have H:=H1
  clear H1
  simp only [Option.some.injEq,Prod.mk.injEq] at H
  obtain ⟨rfl,rfl⟩:=H
  go_enter Tryz.func34,Tryz.ntmps34
  go_wp2_with (first|((with_reducible refine gate_callee (f:=68) rfl ?_);refine goesL_ (some 7) rfl rfl Tryz.func68 (by kernel_rfl) rfl #[.int .i64 a0] rfl (by (try simp only [List.map_toArray,List.map_cons,List.map_nil]);first|done|rfl|(simp only [List.length_drop,List.length_take];rfl)) ?_;(with_reducible refine (spec_DecOk.calls a0 false _ A3.out).mono ?_);rintro e w' ⟨rfl,⟨nd,rfl⟩⟩;refine ⟨_,rfl,?_⟩))
  go_ret2
  exact ⟨by first|rfl|(simp;done)|(simp [*];done),by repeat (first|exact Drawn0.refl _|apply Drawn0.step)⟩
def spec_DecSub.f (a0 : Int) (a1 : Int) : Option (Int × Bool):=(spec_DecOk.f a0).bind fun t301=>(if t301 = true then ((spec_DecOk.f a1).bind fun t302=>(if t302 = true then ((spec_l1made.f (wrap64 (a0 - a1))).bind fun bt303=>(some (bt303.1,bt303.2))) else (some (0,false)))) else (some (0,false)))
set_option maxHeartbeats 8000000 in
set_option maxRecDepth 100000 in
theorem spec_DecSub.calls (a0 : Int) (a1 : Int) (r1 : Int) (r2 : Bool) (w : World) (h : spec_DecSub.f a0 a1 = some (r1,r2)) :
  Calls Tryz.prog 35 #[.int .i64 a0,.int .i64 a1] w fun e w'=>e = .returned (.tuple #[.int .i64 r1,.bool r2]) ∧ Drawn0 w w':=by
 have H : ((spec_DecOk.f a0).bind fun t301=>(if t301 = true then ((spec_DecOk.f a1).bind fun t302=>(if t302 = true then ((spec_l1made.f (wrap64 (a0 - a1))).bind fun bt303=>(some (bt303.1,bt303.2))) else (some (0,false)))) else (some (0,false)))) = some (r1,r2):=h
 clear h
 replace H:=Option.bind_eq_some_iff.mp H
 obtain ⟨t301,A30,H⟩:=H
 replace H : (if t301 = true then ((spec_DecOk.f a1).bind fun t302=>(if t302 = true then ((spec_l1made.f (wrap64 (a0 - a1))).bind fun bt303=>(some (bt303.1,bt303.2))) else (some (0,false)))) else (some (0,false))) = some (r1,r2):=H
 have A3:=Aside0.mk A30
 clear A30
 by_cases c4 : t301 = true
 ·subst c4
  have H1 : ((spec_DecOk.f a1).bind fun t302=>(if t302 = true then ((spec_l1made.f (wrap64 (a0 - a1))).bind fun bt303=>(some (bt303.1,bt303.2))) else (some (0,false)))) = some (r1,r2):=by rw [if_pos rfl] at H;exact H
  clear H
  have H:=H1
  clear H1
  replace H:=Option.bind_eq_some_iff.mp H
  obtain ⟨t302,A50,H⟩:=H
  replace H : (if t302 = true then ((spec_l1made.f (wrap64 (a0 - a1))).bind fun bt303=>(some (bt303.1,bt303.2))) else (some (0,false))) = some (r1,r2):=H
  have A5:=Aside0.mk A50
  clear A50
  by_cases c6 : t302 = true
  ·subst c6
   have H1 : ((spec_l1made.f (wrap64 (a0 - a1))).bind fun bt303=>(some (bt303.1,bt303.2))) = some (r1,r2):=by rw [if_pos rfl] at H;exact H
   clear H
   have H:=H1
   clear H1
   replace H:=Option.bind_eq_some_iff.mp H
   obtain ⟨⟨t303,t304⟩,A70,H⟩:=H
   replace H : (some (t303,t304)) = some (r1,r2):=H
   have A7:=Aside0.mk A70
   clear A70
   simp only [Option.some.injEq,Prod.mk.injEq] at H
   obtain ⟨rfl,rfl⟩:=H
   go_enter Tryz.func35,Tryz.ntmps35
   go_wp2_with (first|((with_reducible refine gate_callee (f:=68) rfl ?_);refine goesL_ (some 7) rfl rfl Tryz.func68 (by kernel_rfl) rfl #[.int .i64 a0] rfl (by (try simp only [List.map_toArray,List.map_cons,List.map_nil]);first|done|rfl|(simp only [List.length_drop,List.length_take];rfl)) ?_;(with_reducible refine (spec_DecOk.calls a0 true _ A3.out).mono ?_);rintro e w' ⟨rfl,⟨nd,rfl⟩⟩;refine ⟨_,rfl,?_⟩)|(go_at_call 68;(with_reducible refine (spec_DecOk.calls a1 true _ A5.out).mono ?_);rintro e w' ⟨rfl,⟨nd,rfl⟩⟩)|((with_reducible refine gate_callee (f:=71) rfl ?_);refine goesL_ (some 17) rfl rfl Tryz.func71 (by kernel_rfl) rfl #[.int .i64 (wrap64 (a0 - a1))] rfl (by (try simp only [List.map_toArray,List.map_cons,List.map_nil]);first|done|rfl|(simp only [List.length_drop,List.length_take];rfl)) ?_;(with_reducible refine (spec_l1made.calls (wrap64 (a0 - a1)) t303 t304 _ A7.out).mono ?_);rintro e w' ⟨rfl,⟨nd,rfl⟩⟩;refine ⟨_,rfl,?_⟩))
   go_ret2
   exact ⟨by first|rfl|(simp;done)|(simp [*];done),by repeat (first|exact Drawn0.refl _|apply Drawn0.step)⟩
  ·replace c6:=Bool.eq_false_iff.mpr c6
   subst c6
   have H1 : (some (0,false)) = some (r1,r2):=by rw [if_neg (show ¬ (false = true) by decide)] at H;exact H
   clear H
   have H:=H1
   clear H1
   simp only [Option.some.injEq,Prod.mk.injEq] at H
   obtain ⟨rfl,rfl⟩:=H
   go_enter Tryz.func35,Tryz.ntmps35
   go_wp2_with (first|((with_reducible refine gate_callee (f:=68) rfl ?_);refine goesL_ (some 7) rfl rfl Tryz.func68 (by kernel_rfl) rfl #[.int .i64 a0] rfl (by (try simp only [List.map_toArray,List.map_cons,List.map_nil]);first|done|rfl|(simp only [List.length_drop,List.length_take];rfl)) ?_;(with_reducible refine (spec_DecOk.calls a0 true _ A3.out).mono ?_);rintro e w' ⟨rfl,⟨nd,rfl⟩⟩;refine ⟨_,rfl,?_⟩)|(go_at_call 68;(with_reducible refine (spec_DecOk.calls a1 false _ A5.out).mono ?_);rintro e w' ⟨rfl,⟨nd,rfl⟩⟩))
   go_ret2
   exact ⟨by first|rfl|(simp;done)|(simp [*];done),by repeat (first|exact Drawn0.refl _|apply Drawn0.step)⟩
 ·replace c4:=Bool.eq_false_iff.mpr c4
  subst c4
  have H1 : (some (0,false)) = some (r1,r2):=by rw [if_neg (show ¬ (false = true) by decide)] at H;exact H
  clear H
  have H:=H1
  clear H1
  simp only [Option.some.injEq,Prod.mk.injEq] at H
  obtain ⟨rfl,rfl⟩:=H
  go_enter Tryz.func35,Tryz.ntmps35
  go_wp2_with (first|((with_reducible refine gate_callee (f:=68) rfl ?_);refine goesL_ (some 7) rfl rfl Tryz.func68 (by kernel_rfl) rfl #[.int .i64 a0] rfl (by (try simp only [List.map_toArray,List.map_cons,List.map_nil]);first|done|rfl|(simp only [List.length_drop,List.length_take];rfl)) ?_;(with_reducible refine (spec_DecOk.calls a0 false _ A3.out).mono ?_);rintro e w' ⟨rfl,⟨nd,rfl⟩⟩;refine ⟨_,rfl,?_⟩))
  go_ret2
  exact ⟨by first|rfl|(simp;done)|(simp [*];done),by repeat (first|exact Drawn0.refl _|apply Drawn0.step)⟩
def spec_l1abs.f (a0 : Int) : Option (Int):=if a0 < 0 then (some (wrap64 (-a0))) else (some a0)
set_option maxHeartbeats 8000000 in
set_option maxRecDepth 100000 in
theorem spec_l1abs.calls (a0 : Int) (r : Int) (w : World) (h : spec_l1abs.f a0 = some r) :
  Calls Tryz.prog 72 #[.int .i64 a0] w fun e w'=>e = .returned (.int .i64 r) ∧ Drawn0 w w':=by
 have H : (if a0 < 0 then (some (wrap64 (-a0))) else (some a0)) = some r:=h
 clear h
 by_cases c2 : a0 < 0
 ·rw [if_pos c2] at H
  have c2b0 : decide (a0 < 0) = true:=decide_eq_true c2
  clear c2
  obtain rfl:=Option.some.inj H
  go_enter Tryz.func72,Tryz.ntmps72
  go_wp2
  go_ret
  exact ⟨by first|rfl|(simp;done)|(simp [*];done),by repeat (first|exact Drawn0.refl _|apply Drawn0.step)⟩
 ·rw [if_neg c2] at H
  have c2b0 : decide (a0 < 0) = false:=decide_eq_false c2
  clear c2
  obtain rfl:=Option.some.inj H
  go_enter Tryz.func72,Tryz.ntmps72
  go_wp2
  go_ret
  exact ⟨by first|rfl|(simp;done)|(simp [*];done),by repeat (first|exact Drawn0.refl _|apply Drawn0.step)⟩
mutual
def spec_DecMul.j0 : Nat → Int → Int → Bool → Option (Int × Bool)
 | 0,_,_,_=>none
 | k + 1,x0,x1,x17=>if x17 = true then (some (0,false)) else ((spec_l1abs.f x0).bind fun t307=>((spec_l1abs.f x1).bind fun t308=>(if (wrap64 (Int.tdiv t307 1000000)) > 0 then (if (wrap64 (Int.tdiv t307 1000000)) = 0 then (none) else (spec_DecMul.j1 k x0 x1 t307 t308 (wrap64 (Int.tdiv t307 1000000)) (decide (t308 > (wrap64 (Int.tdiv (9000000000000 : Int) (wrap64 (Int.tdiv t307 1000000)))))))) else (spec_DecMul.j1 k x0 x1 t307 t308 (wrap64 (Int.tdiv t307 1000000)) false))))
def spec_DecMul.j1 : Nat → Int → Int → Int → Int → Int → Bool → Option (Int × Bool)
 | 0,_,_,_,_,_,_=>none
 | k + 1,x0,x1,x6,x7,x8,x31=>if x31 = true then (some (0,false)) else (if ((decide (x0 < 0)) != (decide (x1 < 0))) = true then ((spec_l1made.f (wrap64 (-(wrap64 ((wrap64 (x8 * x7)) + (wrap64 (Int.tdiv (wrap64 ((Int.tmod x6 1000000) * x7)) 1000000))))))).bind fun bt309=>(some (bt309.1,bt309.2))) else ((spec_l1made.f (wrap64 ((wrap64 (x8 * x7)) + (wrap64 (Int.tdiv (wrap64 ((Int.tmod x6 1000000) * x7)) 1000000))))).bind fun bt311=>(some (bt311.1,bt311.2))))
end
def spec_DecMul.f (k : Nat) (a0 : Int) (a1 : Int) : Option (Int × Bool):=(spec_DecOk.f a0).bind fun t305=>(if t305 = true then ((spec_DecOk.f a1).bind fun t306=>(spec_DecMul.j0 k a0 a1 (!t306))) else (spec_DecMul.j0 k a0 a1 true))
set_option maxHeartbeats 8000000 in
set_option maxRecDepth 100000 in
theorem spec_DecMul.calls (k : Nat) (a0 : Int) (a1 : Int) (r1 : Int) (r2 : Bool) (w : World) (h : spec_DecMul.f k a0 a1 = some (r1,r2)) :
  Calls Tryz.prog 36 #[.int .i64 a0,.int .i64 a1] w fun e w'=>e = .returned (.tuple #[.int .i64 r1,.bool r2]) ∧ Drawn0 w w':=by
 have H : ((spec_DecOk.f a0).bind fun t305=>(if t305 = true then ((spec_DecOk.f a1).bind fun t306=>(spec_DecMul.j0 k a0 a1 (!t306))) else (spec_DecMul.j0 k a0 a1 true))) = some (r1,r2):=h
 clear h
 have HC3:=Aside0.mk H
 clear H
 go_enter Tryz.func36,Tryz.ntmps36
 go_upto_region 1 with (fail)
 go_cut [17] (fun v17 wc=>∃ (kq : Nat) (x17_2 : Bool),v17 = .bool x17_2 ∧ Aside0 (spec_DecMul.j0 kq a0 a1 x17_2 = some (r1,r2)) ∧ Aside0 (kq ≤ k) ∧ Drawn0 w wc)
 case first =>
  have H:=HC3.out
  clear HC3
  replace H:=Option.bind_eq_some_iff.mp H
  obtain ⟨t305,A40,H⟩:=H
  replace H : (if t305 = true then ((spec_DecOk.f a1).bind fun t306=>(spec_DecMul.j0 k a0 a1 (!t306))) else (spec_DecMul.j0 k a0 a1 true)) = some (r1,r2):=H
  have A4:=Aside0.mk A40
  clear A40
  by_cases c5 : t305 = true
  ·subst c5
   have H1 : ((spec_DecOk.f a1).bind fun t306=>(spec_DecMul.j0 k a0 a1 (!t306))) = some (r1,r2):=by rw [if_pos rfl] at H;exact H
   clear H
   have H:=H1
   clear H1
   replace H:=Option.bind_eq_some_iff.mp H
   obtain ⟨t306,A60,H⟩:=H
   replace H : (spec_DecMul.j0 k a0 a1 (!t306)) = some (r1,r2):=H
   have A6:=Aside0.mk A60
   clear A60
   have H':=Aside0.mk H
   clear H
   go_wp2_with (first|((with_reducible refine gate_callee (f:=68) rfl ?_);refine goesL_ (some 11) rfl rfl Tryz.func68 (by kernel_rfl) rfl #[.int .i64 a0] rfl (by (try simp only [List.map_toArray,List.map_cons,List.map_nil]);first|done|rfl|(simp only [List.length_drop,List.length_take];rfl)) ?_;(with_reducible refine (spec_DecOk.calls a0 true _ A4.out).mono ?_);rintro e w' ⟨rfl,⟨nd,rfl⟩⟩;refine ⟨_,rfl,?_⟩)|(go_at_call 68;(with_reducible refine (spec_DecOk.calls a1 t306 _ A6.out).mono ?_);rintro e w' ⟨rfl,⟨nd,rfl⟩⟩))
   go_meet
   case rel=>exact ⟨_,(!t306),(by first|rfl|(simp;done)|(simp [*];done)),H',⟨by first|omega|exact Nat.le_refl _⟩,by repeat (first|exact Drawn0.refl _|apply Drawn0.step)⟩
  ·replace c5:=Bool.eq_false_iff.mpr c5
   subst c5
   have H1 : (spec_DecMul.j0 k a0 a1 true) = some (r1,r2):=by rw [if_neg (show ¬ (false = true) by decide)] at H;exact H
   clear H
   have H:=H1
   clear H1
   have H':=Aside0.mk H
   clear H
   go_wp2_with (first|((with_reducible refine gate_callee (f:=68) rfl ?_);refine goesL_ (some 11) rfl rfl Tryz.func68 (by kernel_rfl) rfl #[.int .i64 a0] rfl (by (try simp only [List.map_toArray,List.map_cons,List.map_nil]);first|done|rfl|(simp only [List.length_drop,List.length_take];rfl)) ?_;(with_reducible refine (spec_DecOk.calls a0 false _ A4.out).mono ?_);rintro e w' ⟨rfl,⟨nd,rfl⟩⟩;refine ⟨_,rfl,?_⟩))
   go_meet
   case rel=>exact ⟨_,(true),(by first|rfl|(simp;done)|(simp [*];done)),H',⟨by first|omega|exact Nat.le_refl _⟩,by repeat (first|exact Drawn0.refl _|apply Drawn0.step)⟩
 case rest =>
  clear HC3
  try clear p2
  try clear c3
  try clear c5
  try clear c6
  obtain ⟨kq,x17_2,rfl,HA,HJ2,⟨mc2,rfl⟩⟩:=hcut
  cases kq with
  | zero=>exact absurd HA.out (by simp [spec_DecMul.j0])
  | succ kj2 =>
   have H:=HA.out
   clear HA
   simp only [spec_DecMul.j0] at H
   by_cases c7 : x17_2 = true
   ·subst c7
    have H1 : (some (0,false)) = some (r1,r2):=by rw [if_pos rfl] at H;exact H
    clear H
    have H:=H1
    clear H1
    simp only [Option.some.injEq,Prod.mk.injEq] at H
    obtain ⟨rfl,rfl⟩:=H
    go_wp2
    go_ret2
    exact ⟨by first|rfl|(simp;done)|(simp [*];done),by repeat (first|exact Drawn0.refl _|apply Drawn0.step)⟩
   ·replace c7:=Bool.eq_false_iff.mpr c7
    subst c7
    have H1 : ((spec_l1abs.f a0).bind fun t307=>((spec_l1abs.f a1).bind fun t308=>(if (wrap64 (Int.tdiv t307 1000000)) > 0 then (if (wrap64 (Int.tdiv t307 1000000)) = 0 then (none) else (spec_DecMul.j1 kj2 a0 a1 t307 t308 (wrap64 (Int.tdiv t307 1000000)) (decide (t308 > (wrap64 (Int.tdiv (9000000000000 : Int) (wrap64 (Int.tdiv t307 1000000)))))))) else (spec_DecMul.j1 kj2 a0 a1 t307 t308 (wrap64 (Int.tdiv t307 1000000)) false)))) = some (r1,r2):=by rw [if_neg (show ¬ (false = true) by decide)] at H;exact H
    clear H
    have H:=H1
    clear H1
    replace H:=Option.bind_eq_some_iff.mp H
    obtain ⟨t307,A80,H⟩:=H
    replace H : ((spec_l1abs.f a1).bind fun t308=>(if (wrap64 (Int.tdiv t307 1000000)) > 0 then (if (wrap64 (Int.tdiv t307 1000000)) = 0 then (none) else (spec_DecMul.j1 kj2 a0 a1 t307 t308 (wrap64 (Int.tdiv t307 1000000)) (decide (t308 > (wrap64 (Int.tdiv (9000000000000 : Int) (wrap64 (Int.tdiv t307 1000000)))))))) else (spec_DecMul.j1 kj2 a0 a1 t307 t308 (wrap64 (Int.tdiv t307 1000000)) false))) = some (r1,r2):=H
    have A8:=Aside0.mk A80
    clear A80
    replace H:=Option.bind_eq_some_iff.mp H
    obtain ⟨t308,A90,H⟩:=H
    replace H : (if (wrap64 (Int.tdiv t307 1000000)) > 0 then (if (wrap64 (Int.tdiv t307 1000000)) = 0 then (none) else (spec_DecMul.j1 kj2 a0 a1 t307 t308 (wrap64 (Int.tdiv t307 1000000)) (decide (t308 > (wrap64 (Int.tdiv (9000000000000 : Int) (wrap64 (Int.tdiv t307 1000000)))))))) else (spec_DecMul.j1 kj2 a0 a1 t307 t308 (wrap64 (Int.tdiv t307 1000000)) false)) = some (r1,r2):=H
    have A9:=Aside0.mk A90
    clear A90
    have HC10:=Aside0.mk H
    clear H
    go_upto_region 6 with (first|((with_reducible refine gate_callee (f:=72) rfl ?_);refine goesL_ (some 19) rfl rfl Tryz.func72 (by kernel_rfl) rfl #[.int .i64 a0] rfl (by (try simp only [List.map_toArray,List.map_cons,List.map_nil]);first|done|rfl|(simp only [List.length_drop,List.length_take];rfl)) ?_;(with_reducible refine (spec_l1abs.calls a0 t307 _ A8.out).mono ?_);rintro e w' ⟨rfl,⟨nd,rfl⟩⟩;refine ⟨_,rfl,?_⟩)|((with_reducible refine gate_callee (f:=72) rfl ?_);refine goesL_ (some 21) rfl rfl Tryz.func72 (by kernel_rfl) rfl #[.int .i64 a1] rfl (by (try simp only [List.map_toArray,List.map_cons,List.map_nil]);first|done|rfl|(simp only [List.length_drop,List.length_take];rfl)) ?_;(with_reducible refine (spec_l1abs.calls a1 t308 _ A9.out).mono ?_);rintro e w' ⟨rfl,⟨nd,rfl⟩⟩;refine ⟨_,rfl,?_⟩))
    (try simp only [Act.put,List.setIfInBounds_toArray,List.set_cons_zero,List.set_cons_succ])
    go_cut [31] (fun v31 wc=>∃ (kq : Nat) (x31_9 : Bool),v31 = .bool x31_9 ∧ Aside0 (spec_DecMul.j1 kq a0 a1 t307 t308 (wrap64 (Int.tdiv t307 1000000)) x31_9 = some (r1,r2)) ∧ Aside0 (kq ≤ kj2) ∧ Drawn0 w wc)
    case first =>
     have H:=HC10.out
     clear HC10
     by_cases c11 : (wrap64 (Int.tdiv t307 1000000)) > 0
     ·rw [if_pos c11] at H
      have c11b0 : decide (0 < (wrap64 (Int.tdiv t307 1000000))) = true:=decide_eq_true c11
      clear c11
      (first|rw [c11b0]|(simp only [i64_w,i32_w];rw [c11b0])|skip)
      by_cases c12 : (wrap64 (Int.tdiv t307 1000000)) = 0
      ·rw [if_pos c12] at H
       exact absurd H (by simp)
      ·rw [if_neg c12] at H
       have c12b0 : ((wrap64 (Int.tdiv t307 1000000)) == 0) = false:=beq_eq_false_iff_ne.mpr c12
       have c12b1 : ((wrap64 (Int.tdiv t307 1000000)) != 0) = true:=bne_iff_ne.mpr c12
       have H':=Aside0.mk H
       clear H
       go_wp2
       go_meet
       case rel=>exact ⟨_,(decide (t308 > (wrap64 (Int.tdiv (9000000000000 : Int) (wrap64 (Int.tdiv t307 1000000)))))),(by first|rfl|(simp;done)|(simp [*];done)),H',⟨by have:=HJ2.out;first|omega|exact Nat.le_refl _⟩,by repeat (first|exact Drawn0.refl _|apply Drawn0.step)⟩
     ·rw [if_neg c11] at H
      have c11b0 : decide (0 < (wrap64 (Int.tdiv t307 1000000))) = false:=decide_eq_false c11
      clear c11
      (first|rw [c11b0]|(simp only [i64_w,i32_w];rw [c11b0])|skip)
      have H':=Aside0.mk H
      clear H
      go_wp2
      go_meet
      case rel=>exact ⟨_,(false),(by first|rfl|(simp;done)|(simp [*];done)),H',⟨by have:=HJ2.out;first|omega|exact Nat.le_refl _⟩,by repeat (first|exact Drawn0.refl _|apply Drawn0.step)⟩
    case rest =>
     clear HC10
     try clear c1
     try clear c2
     try clear p2
     try clear c3
     try clear c5
     try clear c6
     try clear p6
     try clear c7
     try clear c11
     try clear c11b0
     try clear c12
     try clear c12b0
     try clear c12b1
     try clear p2
     obtain ⟨kq,x31_9,rfl,HA,HJ9,⟨mc9,rfl⟩⟩:=hcut
     cases kq with
     | zero=>exact absurd HA.out (by simp [spec_DecMul.j1])
     | succ kj9 =>
      have H:=HA.out
      clear HA
      simp only [spec_DecMul.j1] at H
      by_cases c13 : x31_9 = true
      ·subst c13
       have H1 : (some (0,false)) = some (r1,r2):=by rw [if_pos rfl] at H;exact H
       clear H
       have H:=H1
       clear H1
       simp only [Option.some.injEq,Prod.mk.injEq] at H
       obtain ⟨rfl,rfl⟩:=H
       go_wp2
       go_ret2
       exact ⟨by first|rfl|(simp;done)|(simp [*];done),by repeat (first|exact Drawn0.refl _|apply Drawn0.step)⟩
      ·replace c13:=Bool.eq_false_iff.mpr c13
       subst c13
       have H1 : (if ((decide (a0 < 0)) != (decide (a1 < 0))) = true then ((spec_l1made.f (wrap64 (-(wrap64 ((wrap64 ((wrap64 (Int.tdiv t307 1000000)) * t308)) + (wrap64 (Int.tdiv (wrap64 ((Int.tmod t307 1000000) * t308)) 1000000))))))).bind fun bt309=>(some (bt309.1,bt309.2))) else ((spec_l1made.f (wrap64 ((wrap64 ((wrap64 (Int.tdiv t307 1000000)) * t308)) + (wrap64 (Int.tdiv (wrap64 ((Int.tmod t307 1000000) * t308)) 1000000))))).bind fun bt311=>(some (bt311.1,bt311.2)))) = some (r1,r2):=by rw [if_neg (show ¬ (false = true) by decide)] at H;exact H
       clear H
       have H:=H1
       clear H1
       by_cases c14 : ((decide (a0 < 0)) != (decide (a1 < 0))) = true
       ·rw [if_pos c14] at H
        have c14b0 : ((decide (a0 < 0)) != (decide (a1 < 0))) = true:=c14
        (try (have c14b1 : decide ((decide (a0 < 0)) = (decide (a1 < 0))) = false:=by simpa using c14))
        (try (have c14b2 : ((decide (a0 < 0)) == (decide (a1 < 0))) = false:=by simpa using c14))
        (try (have c14b3 : ¬ ((decide (a0 < 0)) = (decide (a1 < 0))):=by simpa using c14))
        clear c14
        replace H:=Option.bind_eq_some_iff.mp H
        obtain ⟨⟨t309,t310⟩,A150,H⟩:=H
        replace H : (some (t309,t310)) = some (r1,r2):=H
        have A15:=Aside0.mk A150
        clear A150
        simp only [Option.some.injEq,Prod.mk.injEq] at H
        obtain ⟨rfl,rfl⟩:=H
        go_wp2_with (first|((with_reducible refine gate_callee (f:=71) rfl ?_);refine goesL_ (some 49) rfl rfl Tryz.func71 (by kernel_rfl) rfl #[.int .i64 (wrap64 (-(wrap64 ((wrap64 ((wrap64 (Int.tdiv t307 1000000)) * t308)) + (wrap64 (Int.tdiv (wrap64 ((Int.tmod t307 1000000) * t308)) 1000000))))))] rfl (by (try simp only [List.map_toArray,List.map_cons,List.map_nil]);first|done|rfl|(simp only [List.length_drop,List.length_take];rfl)) ?_;(with_reducible refine (spec_l1made.calls (wrap64 (-(wrap64 ((wrap64 ((wrap64 (Int.tdiv t307 1000000)) * t308)) + (wrap64 (Int.tdiv (wrap64 ((Int.tmod t307 1000000) * t308)) 1000000)))))) t309 t310 _ A15.out).mono ?_);rintro e w' ⟨rfl,⟨nd,rfl⟩⟩;refine ⟨_,rfl,?_⟩))
        go_ret2
        exact ⟨by first|rfl|(simp;done)|(simp [*];done),by repeat (first|exact Drawn0.refl _|apply Drawn0.step)⟩
       ·rw [if_neg c14] at H
        have c14b0 : ((decide (a0 < 0)) != (decide (a1 < 0))) = false:=by simpa using c14
        (try (have c14b1 : decide ((decide (a0 < 0)) = (decide (a1 < 0))) = true:=by simpa using c14))
        (try (have c14b2 : ((decide (a0 < 0)) == (decide (a1 < 0))) = true:=by simpa using c14))
        clear c14
        replace H:=Option.bind_eq_some_iff.mp H
        obtain ⟨⟨t311,t312⟩,A160,H⟩:=H
        replace H : (some (t311,t312)) = some (r1,r2):=H
        have A16:=Aside0.mk A160
        clear A160
        simp only [Option.some.injEq,Prod.mk.injEq] at H
        obtain ⟨rfl,rfl⟩:=H
        go_wp2_with (first|((with_reducible refine gate_callee (f:=71) rfl ?_);refine goesL_ (some 49) rfl rfl Tryz.func71 (by kernel_rfl) rfl #[.int .i64 (wrap64 ((wrap64 ((wrap64 (Int.tdiv t307 1000000)) * t308)) + (wrap64 (Int.tdiv (wrap64 ((Int.tmod t307 1000000) * t308)) 1000000))))] rfl (by (try simp only [List.map_toArray,List.map_cons,List.map_nil]);first|done|rfl|(simp only [List.length_drop,List.length_take];rfl)) ?_;(with_reducible refine (spec_l1made.calls (wrap64 ((wrap64 ((wrap64 (Int.tdiv t307 1000000)) * t308)) + (wrap64 (Int.tdiv (wrap64 ((Int.tmod t307 1000000) * t308)) 1000000)))) t311 t312 _ A16.out).mono ?_);rintro e w' ⟨rfl,⟨nd,rfl⟩⟩;refine ⟨_,rfl,?_⟩))
        go_ret2
        exact ⟨by first|rfl|(simp;done)|(simp [*];done),by repeat (first|exact Drawn0.refl _|apply Drawn0.step)⟩
def spec_DecDiv.f (a0 : Int) (a1 : Int) : Option (Int × Bool):=(spec_DecOk.f a0).bind fun t313=>(if t313 = true then ((spec_DecOk.f a1).bind fun t314=>(if t314 = true then (if a1 = 0 then (some (0,false)) else ((spec_l1made.f (wrap64 (Int.tdiv (wrap64 (a0 * 1000000)) a1))).bind fun bt315=>(some (bt315.1,bt315.2)))) else (some (0,false)))) else (some (0,false)))
set_option maxHeartbeats 8000000 in
set_option maxRecDepth 100000 in
theorem spec_DecDiv.calls (a0 : Int) (a1 : Int) (r1 : Int) (r2 : Bool) (w : World) (h : spec_DecDiv.f a0 a1 = some (r1,r2)) :
  Calls Tryz.prog 37 #[.int .i64 a0,.int .i64 a1] w fun e w'=>e = .returned (.tuple #[.int .i64 r1,.bool r2]) ∧ Drawn0 w w':=by
 have H : ((spec_DecOk.f a0).bind fun t313=>(if t313 = true then ((spec_DecOk.f a1).bind fun t314=>(if t314 = true then (if a1 = 0 then (some (0,false)) else ((spec_l1made.f (wrap64 (Int.tdiv (wrap64 (a0 * 1000000)) a1))).bind fun bt315=>(some (bt315.1,bt315.2)))) else (some (0,false)))) else (some (0,false)))) = some (r1,r2):=h
 clear h
 replace H:=Option.bind_eq_some_iff.mp H
 obtain ⟨t313,A30,H⟩:=H
 replace H : (if t313 = true then ((spec_DecOk.f a1).bind fun t314=>(if t314 = true then (if a1 = 0 then (some (0,false)) else ((spec_l1made.f (wrap64 (Int.tdiv (wrap64 (a0 * 1000000)) a1))).bind fun bt315=>(some (bt315.1,bt315.2)))) else (some (0,false)))) else (some (0,false))) = some (r1,r2):=H
 have A3:=Aside0.mk A30
 clear A30
 by_cases c4 : t313 = true
 ·subst c4
  have H1 : ((spec_DecOk.f a1).bind fun t314=>(if t314 = true then (if a1 = 0 then (some (0,false)) else ((spec_l1made.f (wrap64 (Int.tdiv (wrap64 (a0 * 1000000)) a1))).bind fun bt315=>(some (bt315.1,bt315.2)))) else (some (0,false)))) = some (r1,r2):=by rw [if_pos rfl] at H;exact H
  clear H
  have H:=H1
  clear H1
  replace H:=Option.bind_eq_some_iff.mp H
  obtain ⟨t314,A50,H⟩:=H
  replace H : (if t314 = true then (if a1 = 0 then (some (0,false)) else ((spec_l1made.f (wrap64 (Int.tdiv (wrap64 (a0 * 1000000)) a1))).bind fun bt315=>(some (bt315.1,bt315.2)))) else (some (0,false))) = some (r1,r2):=H
  have A5:=Aside0.mk A50
  clear A50
  by_cases c6 : t314 = true
  ·subst c6
   have H1 : (if a1 = 0 then (some (0,false)) else ((spec_l1made.f (wrap64 (Int.tdiv (wrap64 (a0 * 1000000)) a1))).bind fun bt315=>(some (bt315.1,bt315.2)))) = some (r1,r2):=by rw [if_pos rfl] at H;exact H
   clear H
   have H:=H1
   clear H1
   by_cases c7 : a1 = 0
   ·rw [if_pos c7] at H
    have c7b0 : (a1 == 0) = true:=beq_iff_eq.mpr c7
    have c7b1 : (a1 != 0) = false:=bne_eq_false_iff_eq.mpr c7
    clear c7
    simp only [Option.some.injEq,Prod.mk.injEq] at H
    obtain ⟨rfl,rfl⟩:=H
    go_enter Tryz.func37,Tryz.ntmps37
    go_wp2_with (first|((with_reducible refine gate_callee (f:=68) rfl ?_);refine goesL_ (some 7) rfl rfl Tryz.func68 (by kernel_rfl) rfl #[.int .i64 a0] rfl (by (try simp only [List.map_toArray,List.map_cons,List.map_nil]);first|done|rfl|(simp only [List.length_drop,List.length_take];rfl)) ?_;(with_reducible refine (spec_DecOk.calls a0 true _ A3.out).mono ?_);rintro e w' ⟨rfl,⟨nd,rfl⟩⟩;refine ⟨_,rfl,?_⟩)|(go_at_call 68;(with_reducible refine (spec_DecOk.calls a1 true _ A5.out).mono ?_);rintro e w' ⟨rfl,⟨nd,rfl⟩⟩))
    go_ret2
    exact ⟨by first|rfl|(simp;done)|(simp [*];done),by repeat (first|exact Drawn0.refl _|apply Drawn0.step)⟩
   ·rw [if_neg c7] at H
    have c7b0 : (a1 == 0) = false:=beq_eq_false_iff_ne.mpr c7
    have c7b1 : (a1 != 0) = true:=bne_iff_ne.mpr c7
    replace H:=Option.bind_eq_some_iff.mp H
    obtain ⟨⟨t315,t316⟩,A80,H⟩:=H
    replace H : (some (t315,t316)) = some (r1,r2):=H
    have A8:=Aside0.mk A80
    clear A80
    simp only [Option.some.injEq,Prod.mk.injEq] at H
    obtain ⟨rfl,rfl⟩:=H
    go_enter Tryz.func37,Tryz.ntmps37
    go_wp2_with (first|((with_reducible refine gate_callee (f:=68) rfl ?_);refine goesL_ (some 7) rfl rfl Tryz.func68 (by kernel_rfl) rfl #[.int .i64 a0] rfl (by (try simp only [List.map_toArray,List.map_cons,List.map_nil]);first|done|rfl|(simp only [List.length_drop,List.length_take];rfl)) ?_;(with_reducible refine (spec_DecOk.calls a0 true _ A3.out).mono ?_);rintro e w' ⟨rfl,⟨nd,rfl⟩⟩;refine ⟨_,rfl,?_⟩)|(go_at_call 68;(with_reducible refine (spec_DecOk.calls a1 true _ A5.out).mono ?_);rintro e w' ⟨rfl,⟨nd,rfl⟩⟩)|((with_reducible refine gate_callee (f:=71) rfl ?_);refine goesL_ (some 22) rfl rfl Tryz.func71 (by kernel_rfl) rfl #[.int .i64 (wrap64 (Int.tdiv (wrap64 (a0 * 1000000)) a1))] rfl (by (try simp only [List.map_toArray,List.map_cons,List.map_nil]);first|done|rfl|(simp only [List.length_drop,List.length_take];rfl)) ?_;(with_reducible refine (spec_l1made.calls (wrap64 (Int.tdiv (wrap64 (a0 * 1000000)) a1)) t315 t316 _ A8.out).mono ?_);rintro e w' ⟨rfl,⟨nd,rfl⟩⟩;refine ⟨_,rfl,?_⟩))
    go_ret2
    exact ⟨by first|rfl|(simp;done)|(simp [*];done),by repeat (first|exact Drawn0.refl _|apply Drawn0.step)⟩
  ·replace c6:=Bool.eq_false_iff.mpr c6
   subst c6
   have H1 : (some (0,false)) = some (r1,r2):=by rw [if_neg (show ¬ (false = true) by decide)] at H;exact H
   clear H
   have H:=H1
   clear H1
   simp only [Option.some.injEq,Prod.mk.injEq] at H
   obtain ⟨rfl,rfl⟩:=H
   go_enter Tryz.func37,Tryz.ntmps37
   go_wp2_with (first|((with_reducible refine gate_callee (f:=68) rfl ?_);refine goesL_ (some 7) rfl rfl Tryz.func68 (by kernel_rfl) rfl #[.int .i64 a0] rfl (by (try simp only [List.map_toArray,List.map_cons,List.map_nil]);first|done|rfl|(simp only [List.length_drop,List.length_take];rfl)) ?_;(with_reducible refine (spec_DecOk.calls a0 true _ A3.out).mono ?_);rintro e w' ⟨rfl,⟨nd,rfl⟩⟩;refine ⟨_,rfl,?_⟩)|(go_at_call 68;(with_reducible refine (spec_DecOk.calls a1 false _ A5.out).mono ?_);rintro e w' ⟨rfl,⟨nd,rfl⟩⟩))
   go_ret2
   exact ⟨by first|rfl|(simp;done)|(simp [*];done),by repeat (first|exact Drawn0.refl _|apply Drawn0.step)⟩
 ·replace c4:=Bool.eq_false_iff.mpr c4
  subst c4
  have H1 : (some (0,false)) = some (r1,r2):=by rw [if_neg (show ¬ (false = true) by decide)] at H;exact H
  clear H
  have H:=H1
  clear H1
  simp only [Option.some.injEq,Prod.mk.injEq] at H
  obtain ⟨rfl,rfl⟩:=H
  go_enter Tryz.func37,Tryz.ntmps37
  go_wp2_with (first|((with_reducible refine gate_callee (f:=68) rfl ?_);refine goesL_ (some 7) rfl rfl Tryz.func68 (by kernel_rfl) rfl #[.int .i64 a0] rfl (by (try simp only [List.map_toArray,List.map_cons,List.map_nil]);first|done|rfl|(simp only [List.length_drop,List.length_take];rfl)) ?_;(with_reducible refine (spec_DecOk.calls a0 false _ A3.out).mono ?_);rintro e w' ⟨rfl,⟨nd,rfl⟩⟩;refine ⟨_,rfl,?_⟩))
  go_ret2
  exact ⟨by first|rfl|(simp;done)|(simp [*];done),by repeat (first|exact Drawn0.refl _|apply Drawn0.step)⟩
def spec_DecMod.f (a0 : Int) (a1 : Int) : Option (Int × Bool):=(spec_DecOk.f a0).bind fun t317=>(if t317 = true then ((spec_DecOk.f a1).bind fun t318=>(if t318 = true then (if a1 = 0 then (some (0,false)) else (some (Int.tmod a0 a1,true))) else (some (0,false)))) else (some (0,false)))
set_option maxHeartbeats 8000000 in
set_option maxRecDepth 100000 in
theorem spec_DecMod.calls (a0 : Int) (a1 : Int) (r1 : Int) (r2 : Bool) (w : World) (h : spec_DecMod.f a0 a1 = some (r1,r2)) :
  Calls Tryz.prog 38 #[.int .i64 a0,.int .i64 a1] w fun e w'=>e = .returned (.tuple #[.int .i64 r1,.bool r2]) ∧ Drawn0 w w':=by
 have H : ((spec_DecOk.f a0).bind fun t317=>(if t317 = true then ((spec_DecOk.f a1).bind fun t318=>(if t318 = true then (if a1 = 0 then (some (0,false)) else (some (Int.tmod a0 a1,true))) else (some (0,false)))) else (some (0,false)))) = some (r1,r2):=h
 clear h
 replace H:=Option.bind_eq_some_iff.mp H
 obtain ⟨t317,A30,H⟩:=H
 replace H : (if t317 = true then ((spec_DecOk.f a1).bind fun t318=>(if t318 = true then (if a1 = 0 then (some (0,false)) else (some (Int.tmod a0 a1,true))) else (some (0,false)))) else (some (0,false))) = some (r1,r2):=H
 have A3:=Aside0.mk A30
 clear A30
 by_cases c4 : t317 = true
 ·subst c4
  have H1 : ((spec_DecOk.f a1).bind fun t318=>(if t318 = true then (if a1 = 0 then (some (0,false)) else (some (Int.tmod a0 a1,true))) else (some (0,false)))) = some (r1,r2):=by rw [if_pos rfl] at H;exact H
  clear H
  have H:=H1
  clear H1
  replace H:=Option.bind_eq_some_iff.mp H
  obtain ⟨t318,A50,H⟩:=H
  replace H : (if t318 = true then (if a1 = 0 then (some (0,false)) else (some (Int.tmod a0 a1,true))) else (some (0,false))) = some (r1,r2):=H
  have A5:=Aside0.mk A50
  clear A50
  by_cases c6 : t318 = true
  ·subst c6
   have H1 : (if a1 = 0 then (some (0,false)) else (some (Int.tmod a0 a1,true))) = some (r1,r2):=by rw [if_pos rfl] at H;exact H
   clear H
   have H:=H1
   clear H1
   by_cases c7 : a1 = 0
   ·rw [if_pos c7] at H
    have c7b0 : (a1 == 0) = true:=beq_iff_eq.mpr c7
    have c7b1 : (a1 != 0) = false:=bne_eq_false_iff_eq.mpr c7
    clear c7
    simp only [Option.some.injEq,Prod.mk.injEq] at H
    obtain ⟨rfl,rfl⟩:=H
    go_enter Tryz.func38,Tryz.ntmps38
    go_wp2_with (first|((with_reducible refine gate_callee (f:=68) rfl ?_);refine goesL_ (some 7) rfl rfl Tryz.func68 (by kernel_rfl) rfl #[.int .i64 a0] rfl (by (try simp only [List.map_toArray,List.map_cons,List.map_nil]);first|done|rfl|(simp only [List.length_drop,List.length_take];rfl)) ?_;(with_reducible refine (spec_DecOk.calls a0 true _ A3.out).mono ?_);rintro e w' ⟨rfl,⟨nd,rfl⟩⟩;refine ⟨_,rfl,?_⟩)|(go_at_call 68;(with_reducible refine (spec_DecOk.calls a1 true _ A5.out).mono ?_);rintro e w' ⟨rfl,⟨nd,rfl⟩⟩))
    go_ret2
    exact ⟨by first|rfl|(simp;done)|(simp [*];done),by repeat (first|exact Drawn0.refl _|apply Drawn0.step)⟩
   ·rw [if_neg c7] at H
    have c7b0 : (a1 == 0) = false:=beq_eq_false_iff_ne.mpr c7
    have c7b1 : (a1 != 0) = true:=bne_iff_ne.mpr c7
    simp only [Option.some.injEq,Prod.mk.injEq] at H
    obtain ⟨rfl,rfl⟩:=H
    go_enter Tryz.func38,Tryz.ntmps38
    go_wp2_with (first|((with_reducible refine gate_callee (f:=68) rfl ?_);refine goesL_ (some 7) rfl rfl Tryz.func68 (by kernel_rfl) rfl #[.int .i64 a0] rfl (by (try simp only [List.map_toArray,List.map_cons,List.map_nil]);first|done|rfl|(simp only [List.length_drop,List.length_take];rfl)) ?_;(with_reducible refine (spec_DecOk.calls a0 true _ A3.out).mono ?_);rintro e w' ⟨rfl,⟨nd,rfl⟩⟩;refine ⟨_,rfl,?_⟩)|(go_at_call 68;(with_reducible refine (spec_DecOk.calls a1 true _ A5.out).mono ?_);rintro e w' ⟨rfl,⟨nd,rfl⟩⟩))
    go_ret2
    exact ⟨by first|rfl|(simp;done)|(simp [*];done),by repeat (first|exact Drawn0.refl _|apply Drawn0.step)⟩
  ·replace c6:=Bool.eq_false_iff.mpr c6
   subst c6
   have H1 : (some (0,false)) = some (r1,r2):=by rw [if_neg (show ¬ (false = true) by decide)] at H;exact H
   clear H
   have H:=H1
   clear H1
   simp only [Option.some.injEq,Prod.mk.injEq] at H
   obtain ⟨rfl,rfl⟩:=H
   go_enter Tryz.func38,Tryz.ntmps38
   go_wp2_with (first|((with_reducible refine gate_callee (f:=68) rfl ?_);refine goesL_ (some 7) rfl rfl Tryz.func68 (by kernel_rfl) rfl #[.int .i64 a0] rfl (by (try simp only [List.map_toArray,List.map_cons,List.map_nil]);first|done|rfl|(simp only [List.length_drop,List.length_take];rfl)) ?_;(with_reducible refine (spec_DecOk.calls a0 true _ A3.out).mono ?_);rintro e w' ⟨rfl,⟨nd,rfl⟩⟩;refine ⟨_,rfl,?_⟩)|(go_at_call 68;(with_reducible refine (spec_DecOk.calls a1 false _ A5.out).mono ?_);rintro e w' ⟨rfl,⟨nd,rfl⟩⟩))
   go_ret2
   exact ⟨by first|rfl|(simp;done)|(simp [*];done),by repeat (first|exact Drawn0.refl _|apply Drawn0.step)⟩
 ·replace c4:=Bool.eq_false_iff.mpr c4
  subst c4
  have H1 : (some (0,false)) = some (r1,r2):=by rw [if_neg (show ¬ (false = true) by decide)] at H;exact H
  clear H
  have H:=H1
  clear H1
  simp only [Option.some.injEq,Prod.mk.injEq] at H
  obtain ⟨rfl,rfl⟩:=H
  go_enter Tryz.func38,Tryz.ntmps38
  go_wp2_with (first|((with_reducible refine gate_callee (f:=68) rfl ?_);refine goesL_ (some 7) rfl rfl Tryz.func68 (by kernel_rfl) rfl #[.int .i64 a0] rfl (by (try simp only [List.map_toArray,List.map_cons,List.map_nil]);first|done|rfl|(simp only [List.length_drop,List.length_take];rfl)) ?_;(with_reducible refine (spec_DecOk.calls a0 false _ A3.out).mono ?_);rintro e w' ⟨rfl,⟨nd,rfl⟩⟩;refine ⟨_,rfl,?_⟩))
  go_ret2
  exact ⟨by first|rfl|(simp;done)|(simp [*];done),by repeat (first|exact Drawn0.refl _|apply Drawn0.step)⟩
mutual
def spec_Arith.j0 : Nat → Int → Bool → Int → Int → ByteArray → Int → Int → ByteArray → Option (Int × Int × ByteArray × Int)
 | 0,_,_,_,_,_,_,_,_=>none
 | k + 1,x0,x27,x320000,x320001,x320002,x321000,x321001,x321002=>if x27 = true then (some (0,0,(⟨#[]⟩ : ByteArray),3)) else ((spec_ToNum.f k x320000 x320001 x320002).bind fun t324=>((spec_ToNum.f k x321000 x321001 x321002).bind fun t325=>(if x0 = 20 then ((spec_DecAdd.f t324 t325).bind fun bt326=>(spec_Arith.j1 k x0 t325 bt326.1 bt326.2)) else (if x0 = 21 then ((spec_DecSub.f t324 t325).bind fun bt328=>(spec_Arith.j1 k x0 t325 bt328.1 bt328.2)) else (if x0 = 22 then ((spec_DecMul.f k t324 t325).bind fun bt330=>(spec_Arith.j1 k x0 t325 bt330.1 bt330.2)) else (if x0 = 23 then ((spec_DecDiv.f t324 t325).bind fun bt332=>(spec_Arith.j1 k x0 t325 bt332.1 bt332.2)) else ((spec_DecMod.f t324 t325).bind fun bt334=>(spec_Arith.j1 k x0 t325 bt334.1 bt334.2))))))))
def spec_Arith.j1 : Nat → Int → Int → Int → Bool → Option (Int × Int × ByteArray × Int)
 | 0,_,_,_,_=>none
 | k + 1,x0,x9,x10,x11=>if x11 = true then (some (1,x10,(⟨#[]⟩ : ByteArray),0)) else (if x9 = 0 then (if x0 ≥ 23 then (some (0,0,(⟨#[]⟩ : ByteArray),2)) else (some (0,0,(⟨#[]⟩ : ByteArray),1))) else (some (0,0,(⟨#[]⟩ : ByteArray),1)))
end
def spec_Arith.f (k : Nat) (a0 : Int) (a1_0 : Int) (a1_1 : Int) (a1_2 : ByteArray) (a2_0 : Int) (a2_1 : Int) (a2_2 : ByteArray) : Option (Int × Int × ByteArray × Int):=if a0 < 20 then (spec_Arith.j0 k a0 true a1_0 a1_1 a1_2 a2_0 a2_1 a2_2) else (if a0 > 24 then (spec_Arith.j0 k a0 true a1_0 a1_1 a1_2 a2_0 a2_1 a2_2) else ((spec_CellOk.f k a1_0 a1_1 a1_2).bind fun t322=>(if t322 = true then ((spec_CellOk.f k a2_0 a2_1 a2_2).bind fun t323=>(spec_Arith.j0 k a0 (!t323) a1_0 a1_1 a1_2 a2_0 a2_1 a2_2)) else (spec_Arith.j0 k a0 true a1_0 a1_1 a1_2 a2_0 a2_1 a2_2))))
set_option maxHeartbeats 8000000 in
set_option maxRecDepth 100000 in
theorem spec_Arith.calls (k : Nat) (a0 : Int) (a1_0 : Int) (a1_1 : Int) (a1_2 : ByteArray) (a2_0 : Int) (a2_1 : Int) (a2_2 : ByteArray) (r1 : Int) (r2 : Int) (r3 : ByteArray) (r4 : Int) (w : World) (h : spec_Arith.f k a0 a1_0 a1_1 a1_2 a2_0 a2_1 a2_2 = some (r1,r2,r3,r4)) :
  Calls Tryz.prog 8 #[.int .i64 a0,.agg #[.int .i64 a1_0,.int .i64 a1_1,.string a1_2],.agg #[.int .i64 a2_0,.int .i64 a2_1,.string a2_2]] w fun e w'=>e = .returned (.tuple #[.agg #[.int .i64 r1,.int .i64 r2,.string r3],.int .i64 r4]) ∧ Below w.heap.size w w':=by
 have hu24:=Tryz.underlying24
 have HB:=Aside0.mk (Below.refl w.heap.size w)
 have H : (if a0 < 20 then (spec_Arith.j0 k a0 true a1_0 a1_1 a1_2 a2_0 a2_1 a2_2) else (if a0 > 24 then (spec_Arith.j0 k a0 true a1_0 a1_1 a1_2 a2_0 a2_1 a2_2) else ((spec_CellOk.f k a1_0 a1_1 a1_2).bind fun t322=>(if t322 = true then ((spec_CellOk.f k a2_0 a2_1 a2_2).bind fun t323=>(spec_Arith.j0 k a0 (!t323) a1_0 a1_1 a1_2 a2_0 a2_1 a2_2)) else (spec_Arith.j0 k a0 true a1_0 a1_1 a1_2 a2_0 a2_1 a2_2))))) = some (r1,r2,r3,r4):=h
 clear h
 have HC4:=Aside0.mk H
 clear H
 go_enter Tryz.func8,Tryz.ntmps8
 go_upto_region 1 with (first|((with_reducible refine gate_dst (N:=4) rfl ?_);refine box_event ?hg (N:=4) ?hd (cs:=#[.int .i64 a1_0,.int .i64 a1_1,.string a1_2]) (t:=24) ?hr ?_;(case hd=>rfl);(case hg=>rfl);(case hr=>first|(go_simp;done)|(go_simp;rfl));intro gb319 hg w5 hbox hb;have n0_:=Aside0.mk (below_step (by repeat (first|(with_reducible first|exact HB.out|apply below_alloc|apply pw_below_drewN|apply below_drew1)|exact HB.out)) hb);have n1_:=Aside0.mk (hbox);have n2_:=Aside0.mk ((by rw [hg];exact (below_size (by repeat (first|(with_reducible first|exact HB.out|apply below_alloc|apply pw_below_drewN|apply below_drew1)|exact HB.out))) : w.heap.size ≤ gb319));have n3_:=Aside0.mk ((by rw [hg];exact (below_size (by repeat (first|(with_reducible first|exact HB.out|apply below_alloc|apply pw_below_drewN|apply below_drew1)|exact HB.out))) : w.heap.size ≤ gb319));clear HB;have HB:=n0_;have BK319:=n1_;have GW319:=n2_;have GE319:=n3_;clear n0_ n1_ n2_ n3_;clear hb hbox hg)|((with_reducible refine gate_dst (N:=5) rfl ?_);refine box_event ?hg (N:=5) ?hd (cs:=#[.int .i64 a2_0,.int .i64 a2_1,.string a2_2]) (t:=24) ?hr ?_;(case hd=>rfl);(case hg=>rfl);(case hr=>first|(go_simp;done)|(go_simp;rfl));intro gb320 hg w6 hbox hb;have n0_:=Aside0.mk (blk_below (g:=gb319) (o:=.cells #[.int .i64 a1_0,.int .i64 a1_1,.string a1_2] 24 (0,0)) (by (with_reducible repeat (first|refine blk_drewN ?_ _|refine blk_drew ?_|refine blk_alloc ?_ _));exact BK319.out) hb);have n1_:=Aside0.mk (below_step (by repeat (first|(with_reducible first|exact HB.out|apply below_alloc|apply pw_below_drewN|apply below_drew1|refine below_set ?_ GE319.out)|exact HB.out)) hb);have n2_:=Aside0.mk (hbox);have n3_:=Aside0.mk ((by rw [hg];exact (below_size (by repeat (first|(with_reducible first|exact HB.out|apply below_alloc|apply pw_below_drewN|apply below_drew1|refine below_set ?_ GE319.out)|exact HB.out))) : w.heap.size ≤ gb320));have n4_:=Aside0.mk ((by rw [hg];exact (below_size (by repeat (first|(with_reducible first|exact HB.out|apply below_alloc|apply pw_below_drewN|apply below_drew1|refine below_set ?_ GE319.out)|exact HB.out))) : w.heap.size ≤ gb320));have n5_:=Aside0.mk ((by rw [hg];exact Nat.ne_of_lt (blk_lt (g:=gb319) (o:=.cells #[.int .i64 a1_0,.int .i64 a1_1,.string a1_2] 24 (0,0)) (by (with_reducible repeat (first|refine blk_drewN ?_ _|refine blk_drew ?_|refine blk_alloc ?_ _));exact BK319.out)) : gb319 ≠ gb320));have n6_:=Aside0.mk ((by rw [hg];exact Nat.ne_of_gt (blk_lt (g:=gb319) (o:=.cells #[.int .i64 a1_0,.int .i64 a1_1,.string a1_2] 24 (0,0)) (by (with_reducible repeat (first|refine blk_drewN ?_ _|refine blk_drew ?_|refine blk_alloc ?_ _));exact BK319.out)) : gb320 ≠ gb319));clear BK319;clear HB;have BK319:=n0_;have HB:=n1_;have BK320:=n2_;have GW320:=n3_;have GE320:=n4_;have NB319_320:=n5_;have NB320_319:=n6_;clear n0_ n1_ n2_ n3_ n4_ n5_ n6_;clear hb hbox hg)|((with_reducible refine gate_dst (N:=6) rfl ?_);refine box_event ?hg (N:=6) ?hd (cs:=#[.int .i64 0,.int .i64 0,.string (⟨#[]⟩ : ByteArray)]) (t:=24) ?hr ?_;(case hd=>rfl);(case hg=>rfl);(case hr=>first|(go_simp;done)|(go_simp;rfl));intro gb321 hg w7 hbox hb;have n0_:=Aside0.mk (blk_below (g:=gb319) (o:=.cells #[.int .i64 a1_0,.int .i64 a1_1,.string a1_2] 24 (0,0)) (by (with_reducible repeat (first|refine blk_drewN ?_ _|refine blk_drew ?_|refine blk_alloc ?_ _));exact BK319.out) hb);have n1_:=Aside0.mk (blk_below (g:=gb320) (o:=.cells #[.int .i64 a2_0,.int .i64 a2_1,.string a2_2] 24 (0,0)) (by (with_reducible repeat (first|refine blk_drewN ?_ _|refine blk_drew ?_|refine blk_alloc ?_ _));exact BK320.out) hb);have n2_:=Aside0.mk (below_step (by repeat (first|(with_reducible first|exact HB.out|apply below_alloc|apply pw_below_drewN|apply below_drew1|refine below_set ?_ GE319.out|refine below_set ?_ GE320.out)|exact HB.out)) hb);have n3_:=Aside0.mk (hbox);have n4_:=Aside0.mk ((by rw [hg];exact (below_size (by repeat (first|(with_reducible first|exact HB.out|apply below_alloc|apply pw_below_drewN|apply below_drew1|refine below_set ?_ GE319.out|refine below_set ?_ GE320.out)|exact HB.out))) : w.heap.size ≤ gb321));have n5_:=Aside0.mk ((by rw [hg];exact (below_size (by repeat (first|(with_reducible first|exact HB.out|apply below_alloc|apply pw_below_drewN|apply below_drew1|refine below_set ?_ GE319.out|refine below_set ?_ GE320.out)|exact HB.out))) : w.heap.size ≤ gb321));have n6_:=Aside0.mk ((by rw [hg];exact Nat.ne_of_lt (blk_lt (g:=gb319) (o:=.cells #[.int .i64 a1_0,.int .i64 a1_1,.string a1_2] 24 (0,0)) (by (with_reducible repeat (first|refine blk_drewN ?_ _|refine blk_drew ?_|refine blk_alloc ?_ _));exact BK319.out)) : gb319 ≠ gb321));have n7_:=Aside0.mk ((by rw [hg];exact Nat.ne_of_gt (blk_lt (g:=gb319) (o:=.cells #[.int .i64 a1_0,.int .i64 a1_1,.string a1_2] 24 (0,0)) (by (with_reducible repeat (first|refine blk_drewN ?_ _|refine blk_drew ?_|refine blk_alloc ?_ _));exact BK319.out)) : gb321 ≠ gb319));have n8_:=Aside0.mk ((by rw [hg];exact Nat.ne_of_lt (blk_lt (g:=gb320) (o:=.cells #[.int .i64 a2_0,.int .i64 a2_1,.string a2_2] 24 (0,0)) (by (with_reducible repeat (first|refine blk_drewN ?_ _|refine blk_drew ?_|refine blk_alloc ?_ _));exact BK320.out)) : gb320 ≠ gb321));have n9_:=Aside0.mk ((by rw [hg];exact Nat.ne_of_gt (blk_lt (g:=gb320) (o:=.cells #[.int .i64 a2_0,.int .i64 a2_1,.string a2_2] 24 (0,0)) (by (with_reducible repeat (first|refine blk_drewN ?_ _|refine blk_drew ?_|refine blk_alloc ?_ _));exact BK320.out)) : gb321 ≠ gb320));clear BK319;clear BK320;clear HB;have BK319:=n0_;have BK320:=n1_;have HB:=n2_;have BK321:=n3_;have GW321:=n4_;have GE321:=n5_;have NB319_321:=n6_;have NB321_319:=n7_;have NB320_321:=n8_;have NB321_320:=n9_;clear n0_ n1_ n2_ n3_ n4_ n5_ n6_ n7_ n8_ n9_;clear hb hbox hg))
 (try simp only [Act.put,List.setIfInBounds_toArray,List.set_cons_zero,List.set_cons_succ])
 go_cut [27] (fun v27 wc=>∃ (kq : Nat) (x27_3 : Bool),v27 = .bool x27_3 ∧ Aside0 (spec_Arith.j0 kq a0 x27_3 a1_0 a1_1 a1_2 a2_0 a2_1 a2_2 = some (r1,r2,r3,r4)) ∧ Aside0 (kq ≤ k) ∧ Aside0 (wc.heap[gb319]? = some (.cells #[.int .i64 a1_0,.int .i64 a1_1,.string a1_2] 24 (0,0))) ∧ Aside0 (wc.heap[gb320]? = some (.cells #[.int .i64 a2_0,.int .i64 a2_1,.string a2_2] 24 (0,0))) ∧ Aside0 (wc.heap[gb321]? = some (.cells #[.int .i64 0,.int .i64 0,.string (⟨#[]⟩ : ByteArray)] 24 (0,0))) ∧ Aside0 (Below w.heap.size w wc))
 case first =>
  have H:=HC4.out
  clear HC4
  by_cases c8 : a0 < 20
  ·rw [if_pos c8] at H
   have c8b0 : decide (a0 < 20) = true:=decide_eq_true c8
   clear c8
   (first|rw [c8b0]|(simp only [i64_w,i32_w];rw [c8b0])|skip)
   have H':=Aside0.mk H
   clear H
   go_wp2
   go_meet
   case rel=>exact ⟨_,(true),(by first|rfl|(simp;done)|(simp [*];done)),H',⟨by first|omega|exact Nat.le_refl _⟩,⟨by (with_reducible repeat (first|refine blk_drewN ?_ _|refine blk_drew ?_|refine blk_alloc ?_ _));exact BK319.out⟩,⟨by (with_reducible repeat (first|refine blk_drewN ?_ _|refine blk_drew ?_|refine blk_alloc ?_ _));exact BK320.out⟩,⟨by (with_reducible repeat (first|refine blk_drewN ?_ _|refine blk_drew ?_|refine blk_alloc ?_ _));exact BK321.out⟩,⟨by repeat (first|(with_reducible first|exact HB.out|apply below_alloc|apply pw_below_drewN|apply below_drew1|refine below_set ?_ GE319.out|refine below_set ?_ GE320.out|refine below_set ?_ GE321.out)|exact HB.out)⟩⟩
  ·rw [if_neg c8] at H
   have c8b0 : decide (a0 < 20) = false:=decide_eq_false c8
   clear c8
   (first|rw [c8b0]|(simp only [i64_w,i32_w];rw [c8b0])|skip)
   by_cases c9 : a0 > 24
   ·rw [if_pos c9] at H
    have c9b0 : decide (24 < a0) = true:=decide_eq_true c9
    clear c9
    have H':=Aside0.mk H
    clear H
    go_wp2
    go_meet
    case rel=>exact ⟨_,(true),(by first|rfl|(simp;done)|(simp [*];done)),H',⟨by first|omega|exact Nat.le_refl _⟩,⟨by (with_reducible repeat (first|refine blk_drewN ?_ _|refine blk_drew ?_|refine blk_alloc ?_ _));exact BK319.out⟩,⟨by (with_reducible repeat (first|refine blk_drewN ?_ _|refine blk_drew ?_|refine blk_alloc ?_ _));exact BK320.out⟩,⟨by (with_reducible repeat (first|refine blk_drewN ?_ _|refine blk_drew ?_|refine blk_alloc ?_ _));exact BK321.out⟩,⟨by repeat (first|(with_reducible first|exact HB.out|apply below_alloc|apply pw_below_drewN|apply below_drew1|refine below_set ?_ GE319.out|refine below_set ?_ GE320.out|refine below_set ?_ GE321.out)|exact HB.out)⟩⟩
   ·rw [if_neg c9] at H
    have c9b0 : decide (24 < a0) = false:=decide_eq_false c9
    clear c9
    replace H:=Option.bind_eq_some_iff.mp H
    obtain ⟨t322,A100,H⟩:=H
    replace H : (if t322 = true then ((spec_CellOk.f k a2_0 a2_1 a2_2).bind fun t323=>(spec_Arith.j0 k a0 (!t323) a1_0 a1_1 a1_2 a2_0 a2_1 a2_2)) else (spec_Arith.j0 k a0 true a1_0 a1_1 a1_2 a2_0 a2_1 a2_2)) = some (r1,r2,r3,r4):=H
    have A10:=Aside0.mk A100
    clear A100
    by_cases c11 : t322 = true
    ·subst c11
     have H1 : ((spec_CellOk.f k a2_0 a2_1 a2_2).bind fun t323=>(spec_Arith.j0 k a0 (!t323) a1_0 a1_1 a1_2 a2_0 a2_1 a2_2)) = some (r1,r2,r3,r4):=by rw [if_pos rfl] at H;exact H
     clear H
     have H:=H1
     clear H1
     replace H:=Option.bind_eq_some_iff.mp H
     obtain ⟨t323,A120,H⟩:=H
     replace H : (spec_Arith.j0 k a0 (!t323) a1_0 a1_1 a1_2 a2_0 a2_1 a2_2) = some (r1,r2,r3,r4):=H
     have A12:=Aside0.mk A120
     clear A120
     have H':=Aside0.mk H
     clear H
     have hnb13:=NB319_320.out
     have hnc13:=NB320_319.out
     have hnb14:=NB319_321.out
     have hnc14:=NB321_319.out
     have hcz15_0 : w7.cell? ⟨gb319,0,none⟩ = some (.int .i64 a1_0):=(blk_cell BK319.out 0).trans rfl
     have hcz15_1 : w7.cell? ⟨gb319,1,none⟩ = some (.int .i64 a1_1):=(blk_cell BK319.out 1).trans rfl
     have hcz15_2 : w7.cell? ⟨gb319,2,none⟩ = some (.string a1_2):=(blk_cell BK319.out 2).trans rfl
     have hfz15_0:=blk_frozen BK319.out 0
     have hfz15_1:=blk_frozen BK319.out 1
     have hfz15_2:=blk_frozen BK319.out 2
     go_wp2_with (first|(go_at_call 32;(with_reducible refine (spec_CellOk.calls k a1_0 a1_1 a1_2 true _ A10.out).mono ?_);rintro e w16 ⟨rfl,hb⟩;have n0_:=Aside0.mk (blk_below (g:=gb319) (o:=.cells #[.int .i64 a1_0,.int .i64 a1_1,.string a1_2] 24 (0,0)) (by (with_reducible repeat (first|refine blk_drewN ?_ _|refine blk_drew ?_|refine blk_alloc ?_ _));exact BK319.out) hb);have n1_:=Aside0.mk (blk_below (g:=gb320) (o:=.cells #[.int .i64 a2_0,.int .i64 a2_1,.string a2_2] 24 (0,0)) (by (with_reducible repeat (first|refine blk_drewN ?_ _|refine blk_drew ?_|refine blk_alloc ?_ _));exact BK320.out) hb);have n2_:=Aside0.mk (blk_below (g:=gb321) (o:=.cells #[.int .i64 0,.int .i64 0,.string (⟨#[]⟩ : ByteArray)] 24 (0,0)) (by (with_reducible repeat (first|refine blk_drewN ?_ _|refine blk_drew ?_|refine blk_alloc ?_ _));exact BK321.out) hb);have n3_:=Aside0.mk (below_step (by repeat (first|(with_reducible first|exact HB.out|apply below_alloc|apply pw_below_drewN|apply below_drew1|refine below_set ?_ GE319.out|refine below_set ?_ GE320.out|refine below_set ?_ GE321.out)|exact HB.out)) hb);clear BK319;clear BK320;clear BK321;clear HB;have BK319:=n0_;have BK320:=n1_;have BK321:=n2_;have HB:=n3_;clear n0_ n1_ n2_ n3_;(try clear hb);(try clear hb2);(try clear hk);(try clear hi);have hnb17:=NB320_321.out;have hnc17:=NB321_320.out;have hcz18_0 : w16.cell? ⟨gb320,0,none⟩ = some (.int .i64 a2_0):=(blk_cell BK320.out 0).trans rfl;have hcz18_1 : w16.cell? ⟨gb320,1,none⟩ = some (.int .i64 a2_1):=(blk_cell BK320.out 1).trans rfl;have hcz18_2 : w16.cell? ⟨gb320,2,none⟩ = some (.string a2_2):=(blk_cell BK320.out 2).trans rfl;have hfz18_0:=blk_frozen BK320.out 0;have hfz18_1:=blk_frozen BK320.out 1;have hfz18_2:=blk_frozen BK320.out 2)|(go_at_call 32;(with_reducible refine (spec_CellOk.calls k a2_0 a2_1 a2_2 t323 _ A12.out).mono ?_);rintro e w19 ⟨rfl,hb⟩;have n0_:=Aside0.mk (blk_below (g:=gb319) (o:=.cells #[.int .i64 a1_0,.int .i64 a1_1,.string a1_2] 24 (0,0)) (by (with_reducible repeat (first|refine blk_drewN ?_ _|refine blk_drew ?_|refine blk_alloc ?_ _));exact BK319.out) hb);have n1_:=Aside0.mk (blk_below (g:=gb320) (o:=.cells #[.int .i64 a2_0,.int .i64 a2_1,.string a2_2] 24 (0,0)) (by (with_reducible repeat (first|refine blk_drewN ?_ _|refine blk_drew ?_|refine blk_alloc ?_ _));exact BK320.out) hb);have n2_:=Aside0.mk (blk_below (g:=gb321) (o:=.cells #[.int .i64 0,.int .i64 0,.string (⟨#[]⟩ : ByteArray)] 24 (0,0)) (by (with_reducible repeat (first|refine blk_drewN ?_ _|refine blk_drew ?_|refine blk_alloc ?_ _));exact BK321.out) hb);have n3_:=Aside0.mk (below_step (by repeat (first|(with_reducible first|exact HB.out|apply below_alloc|apply pw_below_drewN|apply below_drew1|refine below_set ?_ GE319.out|refine below_set ?_ GE320.out|refine below_set ?_ GE321.out)|exact HB.out)) hb);clear BK319;clear BK320;clear BK321;clear HB;have BK319:=n0_;have BK320:=n1_;have BK321:=n2_;have HB:=n3_;clear n0_ n1_ n2_ n3_;(try clear hb);(try clear hb2);(try clear hk);(try clear hi)))
     go_meet
     case rel=>exact ⟨_,(!t323),(by first|rfl|(simp;done)|(simp [*];done)),H',⟨by first|omega|exact Nat.le_refl _⟩,⟨by (with_reducible repeat (first|refine blk_drewN ?_ _|refine blk_drew ?_|refine blk_alloc ?_ _));exact BK319.out⟩,⟨by (with_reducible repeat (first|refine blk_drewN ?_ _|refine blk_drew ?_|refine blk_alloc ?_ _));exact BK320.out⟩,⟨by (with_reducible repeat (first|refine blk_drewN ?_ _|refine blk_drew ?_|refine blk_alloc ?_ _));exact BK321.out⟩,⟨by repeat (first|(with_reducible first|exact HB.out|apply below_alloc|apply pw_below_drewN|apply below_drew1|refine below_set ?_ GE319.out|refine below_set ?_ GE320.out|refine below_set ?_ GE321.out)|exact HB.out)⟩⟩
    ·replace c11:=Bool.eq_false_iff.mpr c11
     subst c11
     have H1 : (spec_Arith.j0 k a0 true a1_0 a1_1 a1_2 a2_0 a2_1 a2_2) = some (r1,r2,r3,r4):=by rw [if_neg (show ¬ (false = true) by decide)] at H;exact H
     clear H
     have H:=H1
     clear H1
     have H':=Aside0.mk H
     clear H
     have hnb20:=NB319_320.out
     have hnc20:=NB320_319.out
     have hnb21:=NB319_321.out
     have hnc21:=NB321_319.out
     have hcz22_0 : w7.cell? ⟨gb319,0,none⟩ = some (.int .i64 a1_0):=(blk_cell BK319.out 0).trans rfl
     have hcz22_1 : w7.cell? ⟨gb319,1,none⟩ = some (.int .i64 a1_1):=(blk_cell BK319.out 1).trans rfl
     have hcz22_2 : w7.cell? ⟨gb319,2,none⟩ = some (.string a1_2):=(blk_cell BK319.out 2).trans rfl
     have hfz22_0:=blk_frozen BK319.out 0
     have hfz22_1:=blk_frozen BK319.out 1
     have hfz22_2:=blk_frozen BK319.out 2
     go_wp2_with (first|(go_at_call 32;(with_reducible refine (spec_CellOk.calls k a1_0 a1_1 a1_2 false _ A10.out).mono ?_);rintro e w23 ⟨rfl,hb⟩;have n0_:=Aside0.mk (blk_below (g:=gb319) (o:=.cells #[.int .i64 a1_0,.int .i64 a1_1,.string a1_2] 24 (0,0)) (by (with_reducible repeat (first|refine blk_drewN ?_ _|refine blk_drew ?_|refine blk_alloc ?_ _));exact BK319.out) hb);have n1_:=Aside0.mk (blk_below (g:=gb320) (o:=.cells #[.int .i64 a2_0,.int .i64 a2_1,.string a2_2] 24 (0,0)) (by (with_reducible repeat (first|refine blk_drewN ?_ _|refine blk_drew ?_|refine blk_alloc ?_ _));exact BK320.out) hb);have n2_:=Aside0.mk (blk_below (g:=gb321) (o:=.cells #[.int .i64 0,.int .i64 0,.string (⟨#[]⟩ : ByteArray)] 24 (0,0)) (by (with_reducible repeat (first|refine blk_drewN ?_ _|refine blk_drew ?_|refine blk_alloc ?_ _));exact BK321.out) hb);have n3_:=Aside0.mk (below_step (by repeat (first|(with_reducible first|exact HB.out|apply below_alloc|apply pw_below_drewN|apply below_drew1|refine below_set ?_ GE319.out|refine below_set ?_ GE320.out|refine below_set ?_ GE321.out)|exact HB.out)) hb);clear BK319;clear BK320;clear BK321;clear HB;have BK319:=n0_;have BK320:=n1_;have BK321:=n2_;have HB:=n3_;clear n0_ n1_ n2_ n3_;(try clear hb);(try clear hb2);(try clear hk);(try clear hi)))
     go_meet
     case rel=>exact ⟨_,(true),(by first|rfl|(simp;done)|(simp [*];done)),H',⟨by first|omega|exact Nat.le_refl _⟩,⟨by (with_reducible repeat (first|refine blk_drewN ?_ _|refine blk_drew ?_|refine blk_alloc ?_ _));exact BK319.out⟩,⟨by (with_reducible repeat (first|refine blk_drewN ?_ _|refine blk_drew ?_|refine blk_alloc ?_ _));exact BK320.out⟩,⟨by (with_reducible repeat (first|refine blk_drewN ?_ _|refine blk_drew ?_|refine blk_alloc ?_ _));exact BK321.out⟩,⟨by repeat (first|(with_reducible first|exact HB.out|apply below_alloc|apply pw_below_drewN|apply below_drew1|refine below_set ?_ GE319.out|refine below_set ?_ GE320.out|refine below_set ?_ GE321.out)|exact HB.out)⟩⟩
 case rest =>
  clear HC4
  try clear c1
  try clear c2
  try clear p2
  try clear c8
  try clear c8b0
  try clear c9
  try clear c9b0
  try clear c11
  try clear c13
  try clear c14
  try clear c17
  try clear c20
  try clear c21
  try clear hcz15_0
  try clear hcz15_1
  try clear hcz15_2
  try clear hcz18_0
  try clear hcz18_1
  try clear hcz18_2
  try clear hcz22_0
  try clear hcz22_1
  try clear hcz22_2
  try clear hfz15_0
  try clear hfz15_1
  try clear hfz15_2
  try clear hfz18_0
  try clear hfz18_1
  try clear hfz18_2
  try clear hfz22_0
  try clear hfz22_1
  try clear hfz22_2
  obtain ⟨kq,x27_3,rfl,HA,HJ3,BK319,BK320,BK321,HB⟩:=hcut
  cases kq with
  | zero=>exact absurd HA.out (by simp [spec_Arith.j0])
  | succ kj3 =>
   have H:=HA.out
   clear HA
   simp only [spec_Arith.j0] at H
   by_cases c24 : x27_3 = true
   ·subst c24
    have H1 : (some (0,0,(⟨#[]⟩ : ByteArray),3)) = some (r1,r2,r3,r4):=by rw [if_pos rfl] at H;exact H
    clear H
    have H:=H1
    clear H1
    simp only [Option.some.injEq,Prod.mk.injEq] at H
    obtain ⟨rfl,rfl,rfl,rfl⟩:=H
    have hnb25:=NB321_319.out
    have hnc25:=NB319_321.out
    have hnb26:=NB321_320.out
    have hnc26:=NB320_321.out
    have hcz27_0 : wc.cell? ⟨gb321,0,none⟩ = some (.int .i64 0):=(blk_cell BK321.out 0).trans rfl
    have hcz27_1 : wc.cell? ⟨gb321,1,none⟩ = some (.int .i64 0):=(blk_cell BK321.out 1).trans rfl
    have hcz27_2 : wc.cell? ⟨gb321,2,none⟩ = some (.string (⟨#[]⟩ : ByteArray)):=(blk_cell BK321.out 2).trans rfl
    have hfz27_0:=blk_frozen BK321.out 0
    have hfz27_1:=blk_frozen BK321.out 1
    have hfz27_2:=blk_frozen BK321.out 2
    go_wp2
    refine bodyPost_ret (results_ct rfl _ _ gb321 24 #[.int .i64 0,.int .i64 0,.string (⟨#[]⟩ : ByteArray)] (0,0) _ rfl (by (with_reducible repeat (first|refine blk_drewN ?_ _|refine blk_drew ?_|refine blk_alloc ?_ _));refine blk_put (cs:=#[.int .i64 0,.int .i64 0,.string (⟨#[]⟩ : ByteArray)]) ?_ 2 _ rfl;(with_reducible repeat (first|refine blk_drewN ?_ _|refine blk_drew ?_|refine blk_alloc ?_ _));refine blk_put (cs:=#[.int .i64 0,.int .i64 0,.string (⟨#[]⟩ : ByteArray)]) ?_ 1 _ rfl;(with_reducible repeat (first|refine blk_drewN ?_ _|refine blk_drew ?_|refine blk_alloc ?_ _));refine blk_put (cs:=#[.int .i64 0,.int .i64 0,.string (⟨#[]⟩ : ByteArray)]) ?_ 0 _ rfl;(with_reducible repeat (first|refine blk_drewN ?_ _|refine blk_drew ?_|refine blk_alloc ?_ _));exact BK321.out) Tryz.underlying24 rfl (by kernel_rfl)) rfl ?_
    exact ⟨by first|rfl|(simp [errW_none,errW_some] <;> rfl)|(simp [*,errW_none,errW_some] <;> rfl),by repeat (first|(with_reducible first|exact HB.out|apply below_alloc|apply pw_below_drewN|apply below_drew1|refine below_set ?_ GE319.out|refine below_set ?_ GE320.out|refine below_set ?_ GE321.out)|exact HB.out)⟩
   ·replace c24:=Bool.eq_false_iff.mpr c24
    subst c24
    have H1 : ((spec_ToNum.f kj3 a1_0 a1_1 a1_2).bind fun t324=>((spec_ToNum.f kj3 a2_0 a2_1 a2_2).bind fun t325=>(if a0 = 20 then ((spec_DecAdd.f t324 t325).bind fun bt326=>(spec_Arith.j1 kj3 a0 t325 bt326.1 bt326.2)) else (if a0 = 21 then ((spec_DecSub.f t324 t325).bind fun bt328=>(spec_Arith.j1 kj3 a0 t325 bt328.1 bt328.2)) else (if a0 = 22 then ((spec_DecMul.f kj3 t324 t325).bind fun bt330=>(spec_Arith.j1 kj3 a0 t325 bt330.1 bt330.2)) else (if a0 = 23 then ((spec_DecDiv.f t324 t325).bind fun bt332=>(spec_Arith.j1 kj3 a0 t325 bt332.1 bt332.2)) else ((spec_DecMod.f t324 t325).bind fun bt334=>(spec_Arith.j1 kj3 a0 t325 bt334.1 bt334.2)))))))) = some (r1,r2,r3,r4):=by rw [if_neg (show ¬ (false = true) by decide)] at H;exact H
    clear H
    have H:=H1
    clear H1
    replace H:=Option.bind_eq_some_iff.mp H
    obtain ⟨t324,A280,H⟩:=H
    replace H : ((spec_ToNum.f kj3 a2_0 a2_1 a2_2).bind fun t325=>(if a0 = 20 then ((spec_DecAdd.f t324 t325).bind fun bt326=>(spec_Arith.j1 kj3 a0 t325 bt326.1 bt326.2)) else (if a0 = 21 then ((spec_DecSub.f t324 t325).bind fun bt328=>(spec_Arith.j1 kj3 a0 t325 bt328.1 bt328.2)) else (if a0 = 22 then ((spec_DecMul.f kj3 t324 t325).bind fun bt330=>(spec_Arith.j1 kj3 a0 t325 bt330.1 bt330.2)) else (if a0 = 23 then ((spec_DecDiv.f t324 t325).bind fun bt332=>(spec_Arith.j1 kj3 a0 t325 bt332.1 bt332.2)) else ((spec_DecMod.f t324 t325).bind fun bt334=>(spec_Arith.j1 kj3 a0 t325 bt334.1 bt334.2))))))) = some (r1,r2,r3,r4):=H
    have A28:=Aside0.mk A280
    clear A280
    replace H:=Option.bind_eq_some_iff.mp H
    obtain ⟨t325,A290,H⟩:=H
    replace H : (if a0 = 20 then ((spec_DecAdd.f t324 t325).bind fun bt326=>(spec_Arith.j1 kj3 a0 t325 bt326.1 bt326.2)) else (if a0 = 21 then ((spec_DecSub.f t324 t325).bind fun bt328=>(spec_Arith.j1 kj3 a0 t325 bt328.1 bt328.2)) else (if a0 = 22 then ((spec_DecMul.f kj3 t324 t325).bind fun bt330=>(spec_Arith.j1 kj3 a0 t325 bt330.1 bt330.2)) else (if a0 = 23 then ((spec_DecDiv.f t324 t325).bind fun bt332=>(spec_Arith.j1 kj3 a0 t325 bt332.1 bt332.2)) else ((spec_DecMod.f t324 t325).bind fun bt334=>(spec_Arith.j1 kj3 a0 t325 bt334.1 bt334.2)))))) = some (r1,r2,r3,r4):=H
    have A29:=Aside0.mk A290
    clear A290
    have HC30:=Aside0.mk H
    clear H
    have hnb31:=NB319_320.out
    have hnc31:=NB320_319.out
    have hnb32:=NB319_321.out
    have hnc32:=NB321_319.out
    have hcz33_0 : wc.cell? ⟨gb319,0,none⟩ = some (.int .i64 a1_0):=(blk_cell BK319.out 0).trans rfl
    have hcz33_1 : wc.cell? ⟨gb319,1,none⟩ = some (.int .i64 a1_1):=(blk_cell BK319.out 1).trans rfl
    have hcz33_2 : wc.cell? ⟨gb319,2,none⟩ = some (.string a1_2):=(blk_cell BK319.out 2).trans rfl
    have hfz33_0:=blk_frozen BK319.out 0
    have hfz33_1:=blk_frozen BK319.out 1
    have hfz33_2:=blk_frozen BK319.out 2
    go_upto_block 0 with (first|((with_reducible refine gate_callee (f:=33) rfl ?_);refine goesL_ (some 30) rfl rfl Tryz.func33 (by kernel_rfl) rfl #[.agg #[.int .i64 a1_0,.int .i64 a1_1,.string a1_2]] rfl (by (try simp only [List.map_toArray,List.map_cons,List.map_nil]);first|done|rfl|(simp only [List.length_drop,List.length_take];rfl)) ?_;(with_reducible refine (spec_ToNum.calls kj3 a1_0 a1_1 a1_2 t324 _ A28.out).mono ?_);rintro e w34 ⟨rfl,hb⟩;refine ⟨_,rfl,?_⟩;have n0_:=Aside0.mk (blk_below (g:=gb319) (o:=.cells #[.int .i64 a1_0,.int .i64 a1_1,.string a1_2] 24 (0,0)) (by (with_reducible repeat (first|refine blk_drewN ?_ _|refine blk_drew ?_|refine blk_alloc ?_ _));exact BK319.out) hb);have n1_:=Aside0.mk (blk_below (g:=gb320) (o:=.cells #[.int .i64 a2_0,.int .i64 a2_1,.string a2_2] 24 (0,0)) (by (with_reducible repeat (first|refine blk_drewN ?_ _|refine blk_drew ?_|refine blk_alloc ?_ _));exact BK320.out) hb);have n2_:=Aside0.mk (blk_below (g:=gb321) (o:=.cells #[.int .i64 0,.int .i64 0,.string (⟨#[]⟩ : ByteArray)] 24 (0,0)) (by (with_reducible repeat (first|refine blk_drewN ?_ _|refine blk_drew ?_|refine blk_alloc ?_ _));exact BK321.out) hb);have n3_:=Aside0.mk (below_step (by repeat (first|(with_reducible first|exact HB.out|apply below_alloc|apply pw_below_drewN|apply below_drew1|refine below_set ?_ GE319.out|refine below_set ?_ GE320.out|refine below_set ?_ GE321.out)|exact HB.out)) hb);clear BK319;clear BK320;clear BK321;clear HB;have BK319:=n0_;have BK320:=n1_;have BK321:=n2_;have HB:=n3_;clear n0_ n1_ n2_ n3_;(try clear hb);(try clear hb2);(try clear hk);(try clear hi);have hnb35:=NB320_321.out;have hnc35:=NB321_320.out;have hcz36_0 : w34.cell? ⟨gb320,0,none⟩ = some (.int .i64 a2_0):=(blk_cell BK320.out 0).trans rfl;have hcz36_1 : w34.cell? ⟨gb320,1,none⟩ = some (.int .i64 a2_1):=(blk_cell BK320.out 1).trans rfl;have hcz36_2 : w34.cell? ⟨gb320,2,none⟩ = some (.string a2_2):=(blk_cell BK320.out 2).trans rfl;have hfz36_0:=blk_frozen BK320.out 0;have hfz36_1:=blk_frozen BK320.out 1;have hfz36_2:=blk_frozen BK320.out 2)|((with_reducible refine gate_callee (f:=33) rfl ?_);refine goesL_ (some 32) rfl rfl Tryz.func33 (by kernel_rfl) rfl #[.agg #[.int .i64 a2_0,.int .i64 a2_1,.string a2_2]] rfl (by (try simp only [List.map_toArray,List.map_cons,List.map_nil]);first|done|rfl|(simp only [List.length_drop,List.length_take];rfl)) ?_;(with_reducible refine (spec_ToNum.calls kj3 a2_0 a2_1 a2_2 t325 _ A29.out).mono ?_);rintro e w37 ⟨rfl,hb⟩;refine ⟨_,rfl,?_⟩;have n0_:=Aside0.mk (blk_below (g:=gb319) (o:=.cells #[.int .i64 a1_0,.int .i64 a1_1,.string a1_2] 24 (0,0)) (by (with_reducible repeat (first|refine blk_drewN ?_ _|refine blk_drew ?_|refine blk_alloc ?_ _));exact BK319.out) hb);have n1_:=Aside0.mk (blk_below (g:=gb320) (o:=.cells #[.int .i64 a2_0,.int .i64 a2_1,.string a2_2] 24 (0,0)) (by (with_reducible repeat (first|refine blk_drewN ?_ _|refine blk_drew ?_|refine blk_alloc ?_ _));exact BK320.out) hb);have n2_:=Aside0.mk (blk_below (g:=gb321) (o:=.cells #[.int .i64 0,.int .i64 0,.string (⟨#[]⟩ : ByteArray)] 24 (0,0)) (by (with_reducible repeat (first|refine blk_drewN ?_ _|refine blk_drew ?_|refine blk_alloc ?_ _));exact BK321.out) hb);have n3_:=Aside0.mk (below_step (by repeat (first|(with_reducible first|exact HB.out|apply below_alloc|apply pw_below_drewN|apply below_drew1|refine below_set ?_ GE319.out|refine below_set ?_ GE320.out|refine below_set ?_ GE321.out)|exact HB.out)) hb);clear BK319;clear BK320;clear BK321;clear HB;have BK319:=n0_;have BK320:=n1_;have BK321:=n2_;have HB:=n3_;clear n0_ n1_ n2_ n3_;(try clear hb);(try clear hb2);(try clear hk);(try clear hi)))
    (try simp only [Act.put,List.setIfInBounds_toArray,List.set_cons_zero,List.set_cons_succ])
    go_cut [10,11] (fun v10 v11 wc=>∃ (kq : Nat) (x10_29 : Int) (x11_29 : Bool),v10 = .int .i64 x10_29 ∧ v11 = .bool x11_29 ∧ Aside0 (spec_Arith.j1 kq a0 t325 x10_29 x11_29 = some (r1,r2,r3,r4)) ∧ Aside0 (kq ≤ kj3) ∧ Aside0 (wc.heap[gb319]? = some (.cells #[.int .i64 a1_0,.int .i64 a1_1,.string a1_2] 24 (0,0))) ∧ Aside0 (wc.heap[gb320]? = some (.cells #[.int .i64 a2_0,.int .i64 a2_1,.string a2_2] 24 (0,0))) ∧ Aside0 (wc.heap[gb321]? = some (.cells #[.int .i64 0,.int .i64 0,.string (⟨#[]⟩ : ByteArray)] 24 (0,0))) ∧ Aside0 (Below w.heap.size w wc))
    case first =>
     have H:=HC30.out
     clear HC30
     by_cases c38 : a0 = 20
     ·rw [if_pos c38] at H
      have c38b0 : (a0 == 20) = true:=beq_iff_eq.mpr c38
      have c38b1 : (a0 != 20) = false:=bne_eq_false_iff_eq.mpr c38
      clear c38
      (first|rw [c38b0]|(simp only [i64_w,i32_w];rw [c38b0])|skip)
      replace H:=Option.bind_eq_some_iff.mp H
      obtain ⟨⟨t326,t327⟩,A390,H⟩:=H
      replace H : (spec_Arith.j1 kj3 a0 t325 t326 t327) = some (r1,r2,r3,r4):=H
      have A39:=Aside0.mk A390
      clear A390
      have H':=Aside0.mk H
      clear H
      go_wp2_with (first|((with_reducible refine gate_callee (f:=34) rfl ?_);refine goesL_ (some 45) rfl rfl Tryz.func34 (by kernel_rfl) rfl #[.int .i64 t324,.int .i64 t325] rfl (by (try simp only [List.map_toArray,List.map_cons,List.map_nil]);first|done|rfl|(simp only [List.length_drop,List.length_take];rfl)) ?_;(with_reducible refine (spec_DecAdd.calls t324 t325 t326 t327 _ A39.out).mono ?_);rintro e w' ⟨rfl,⟨nd,rfl⟩⟩;refine ⟨_,rfl,?_⟩))
      go_meet
      case rel=>exact ⟨_,(t326),(t327),(by first|rfl|(simp;done)|(simp [*];done)),(by first|rfl|(simp;done)|(simp [*];done)),H',⟨by have:=HJ3.out;first|omega|exact Nat.le_refl _⟩,⟨by (with_reducible repeat (first|refine blk_drewN ?_ _|refine blk_drew ?_|refine blk_alloc ?_ _));exact BK319.out⟩,⟨by (with_reducible repeat (first|refine blk_drewN ?_ _|refine blk_drew ?_|refine blk_alloc ?_ _));exact BK320.out⟩,⟨by (with_reducible repeat (first|refine blk_drewN ?_ _|refine blk_drew ?_|refine blk_alloc ?_ _));exact BK321.out⟩,⟨by repeat (first|(with_reducible first|exact HB.out|apply below_alloc|apply pw_below_drewN|apply below_drew1|refine below_set ?_ GE319.out|refine below_set ?_ GE320.out|refine below_set ?_ GE321.out)|exact HB.out)⟩⟩
     ·rw [if_neg c38] at H
      have c38b0 : (a0 == 20) = false:=beq_eq_false_iff_ne.mpr c38
      have c38b1 : (a0 != 20) = true:=bne_iff_ne.mpr c38
      (first|rw [c38b0]|(simp only [i64_w,i32_w];rw [c38b0])|skip)
      by_cases c40 : a0 = 21
      ·rw [if_pos c40] at H
       have c40b0 : (a0 == 21) = true:=beq_iff_eq.mpr c40
       have c40b1 : (a0 != 21) = false:=bne_eq_false_iff_eq.mpr c40
       clear c40
       replace H:=Option.bind_eq_some_iff.mp H
       obtain ⟨⟨t328,t329⟩,A410,H⟩:=H
       replace H : (spec_Arith.j1 kj3 a0 t325 t328 t329) = some (r1,r2,r3,r4):=H
       have A41:=Aside0.mk A410
       clear A410
       have H':=Aside0.mk H
       clear H
       go_wp2_with (first|((with_reducible refine gate_callee (f:=35) rfl ?_);refine goesL_ (some 53) rfl rfl Tryz.func35 (by kernel_rfl) rfl #[.int .i64 t324,.int .i64 t325] rfl (by (try simp only [List.map_toArray,List.map_cons,List.map_nil]);first|done|rfl|(simp only [List.length_drop,List.length_take];rfl)) ?_;(with_reducible refine (spec_DecSub.calls t324 t325 t328 t329 _ A41.out).mono ?_);rintro e w' ⟨rfl,⟨nd,rfl⟩⟩;refine ⟨_,rfl,?_⟩))
       go_meet
       case rel=>exact ⟨_,(t328),(t329),(by first|rfl|(simp;done)|(simp [*];done)),(by first|rfl|(simp;done)|(simp [*];done)),H',⟨by have:=HJ3.out;first|omega|exact Nat.le_refl _⟩,⟨by (with_reducible repeat (first|refine blk_drewN ?_ _|refine blk_drew ?_|refine blk_alloc ?_ _));exact BK319.out⟩,⟨by (with_reducible repeat (first|refine blk_drewN ?_ _|refine blk_drew ?_|refine blk_alloc ?_ _));exact BK320.out⟩,⟨by (with_reducible repeat (first|refine blk_drewN ?_ _|refine blk_drew ?_|refine blk_alloc ?_ _));exact BK321.out⟩,⟨by repeat (first|(with_reducible first|exact HB.out|apply below_alloc|apply pw_below_drewN|apply below_drew1|refine below_set ?_ GE319.out|refine below_set ?_ GE320.out|refine below_set ?_ GE321.out)|exact HB.out)⟩⟩
      ·rw [if_neg c40] at H
       have c40b0 : (a0 == 21) = false:=beq_eq_false_iff_ne.mpr c40
       have c40b1 : (a0 != 21) = true:=bne_iff_ne.mpr c40
       by_cases c42 : a0 = 22
       ·rw [if_pos c42] at H
        have c42b0 : (a0 == 22) = true:=beq_iff_eq.mpr c42
        have c42b1 : (a0 != 22) = false:=bne_eq_false_iff_eq.mpr c42
        clear c42
        replace H:=Option.bind_eq_some_iff.mp H
        obtain ⟨⟨t330,t331⟩,A430,H⟩:=H
        replace H : (spec_Arith.j1 kj3 a0 t325 t330 t331) = some (r1,r2,r3,r4):=H
        have A43:=Aside0.mk A430
        clear A430
        have H':=Aside0.mk H
        clear H
        go_wp2_with (first|((with_reducible refine gate_callee (f:=36) rfl ?_);refine goesL_ (some 61) rfl rfl Tryz.func36 (by kernel_rfl) rfl #[.int .i64 t324,.int .i64 t325] rfl (by (try simp only [List.map_toArray,List.map_cons,List.map_nil]);first|done|rfl|(simp only [List.length_drop,List.length_take];rfl)) ?_;(with_reducible refine (spec_DecMul.calls kj3 t324 t325 t330 t331 _ A43.out).mono ?_);rintro e w' ⟨rfl,⟨nd,rfl⟩⟩;refine ⟨_,rfl,?_⟩))
        go_meet
        case rel=>exact ⟨_,(t330),(t331),(by first|rfl|(simp;done)|(simp [*];done)),(by first|rfl|(simp;done)|(simp [*];done)),H',⟨by have:=HJ3.out;first|omega|exact Nat.le_refl _⟩,⟨by (with_reducible repeat (first|refine blk_drewN ?_ _|refine blk_drew ?_|refine blk_alloc ?_ _));exact BK319.out⟩,⟨by (with_reducible repeat (first|refine blk_drewN ?_ _|refine blk_drew ?_|refine blk_alloc ?_ _));exact BK320.out⟩,⟨by (with_reducible repeat (first|refine blk_drewN ?_ _|refine blk_drew ?_|refine blk_alloc ?_ _));exact BK321.out⟩,⟨by repeat (first|(with_reducible first|exact HB.out|apply below_alloc|apply pw_below_drewN|apply below_drew1|refine below_set ?_ GE319.out|refine below_set ?_ GE320.out|refine below_set ?_ GE321.out)|exact HB.out)⟩⟩
       ·rw [if_neg c42] at H
        have c42b0 : (a0 == 22) = false:=beq_eq_false_iff_ne.mpr c42
        have c42b1 : (a0 != 22) = true:=bne_iff_ne.mpr c42
        by_cases c44 : a0 = 23
        ·rw [if_pos c44] at H
         have c44b0 : (a0 == 23) = true:=beq_iff_eq.mpr c44
         have c44b1 : (a0 != 23) = false:=bne_eq_false_iff_eq.mpr c44
         clear c44
         replace H:=Option.bind_eq_some_iff.mp H
         obtain ⟨⟨t332,t333⟩,A450,H⟩:=H
         replace H : (spec_Arith.j1 kj3 a0 t325 t332 t333) = some (r1,r2,r3,r4):=H
         have A45:=Aside0.mk A450
         clear A450
         have H':=Aside0.mk H
         clear H
         go_wp2_with (first|((with_reducible refine gate_callee (f:=37) rfl ?_);refine goesL_ (some 69) rfl rfl Tryz.func37 (by kernel_rfl) rfl #[.int .i64 t324,.int .i64 t325] rfl (by (try simp only [List.map_toArray,List.map_cons,List.map_nil]);first|done|rfl|(simp only [List.length_drop,List.length_take];rfl)) ?_;(with_reducible refine (spec_DecDiv.calls t324 t325 t332 t333 _ A45.out).mono ?_);rintro e w' ⟨rfl,⟨nd,rfl⟩⟩;refine ⟨_,rfl,?_⟩))
         go_meet
         case rel=>exact ⟨_,(t332),(t333),(by first|rfl|(simp;done)|(simp [*];done)),(by first|rfl|(simp;done)|(simp [*];done)),H',⟨by have:=HJ3.out;first|omega|exact Nat.le_refl _⟩,⟨by (with_reducible repeat (first|refine blk_drewN ?_ _|refine blk_drew ?_|refine blk_alloc ?_ _));exact BK319.out⟩,⟨by (with_reducible repeat (first|refine blk_drewN ?_ _|refine blk_drew ?_|refine blk_alloc ?_ _));exact BK320.out⟩,⟨by (with_reducible repeat (first|refine blk_drewN ?_ _|refine blk_drew ?_|refine blk_alloc ?_ _));exact BK321.out⟩,⟨by repeat (first|(with_reducible first|exact HB.out|apply below_alloc|apply pw_below_drewN|apply below_drew1|refine below_set ?_ GE319.out|refine below_set ?_ GE320.out|refine below_set ?_ GE321.out)|exact HB.out)⟩⟩
        ·rw [if_neg c44] at H
         have c44b0 : (a0 == 23) = false:=beq_eq_false_iff_ne.mpr c44
         have c44b1 : (a0 != 23) = true:=bne_iff_ne.mpr c44
         replace H:=Option.bind_eq_some_iff.mp H
         obtain ⟨⟨t334,t335⟩,A460,H⟩:=H
         replace H : (spec_Arith.j1 kj3 a0 t325 t334 t335) = some (r1,r2,r3,r4):=H
         have A46:=Aside0.mk A460
         clear A460
         have H':=Aside0.mk H
         clear H
         go_wp2_with (first|((with_reducible refine gate_callee (f:=38) rfl ?_);refine goesL_ (some 37) rfl rfl Tryz.func38 (by kernel_rfl) rfl #[.int .i64 t324,.int .i64 t325] rfl (by (try simp only [List.map_toArray,List.map_cons,List.map_nil]);first|done|rfl|(simp only [List.length_drop,List.length_take];rfl)) ?_;(with_reducible refine (spec_DecMod.calls t324 t325 t334 t335 _ A46.out).mono ?_);rintro e w' ⟨rfl,⟨nd,rfl⟩⟩;refine ⟨_,rfl,?_⟩))
         go_meet
         case rel=>exact ⟨_,(t334),(t335),(by first|rfl|(simp;done)|(simp [*];done)),(by first|rfl|(simp;done)|(simp [*];done)),H',⟨by have:=HJ3.out;first|omega|exact Nat.le_refl _⟩,⟨by (with_reducible repeat (first|refine blk_drewN ?_ _|refine blk_drew ?_|refine blk_alloc ?_ _));exact BK319.out⟩,⟨by (with_reducible repeat (first|refine blk_drewN ?_ _|refine blk_drew ?_|refine blk_alloc ?_ _));exact BK320.out⟩,⟨by (with_reducible repeat (first|refine blk_drewN ?_ _|refine blk_drew ?_|refine blk_alloc ?_ _));exact BK321.out⟩,⟨by repeat (first|(with_reducible first|exact HB.out|apply below_alloc|apply pw_below_drewN|apply below_drew1|refine below_set ?_ GE319.out|refine below_set ?_ GE320.out|refine below_set ?_ GE321.out)|exact HB.out)⟩⟩
    case rest =>
     clear HC30
     try clear c1
     try clear c2
     try clear p2
     try clear c3
     try clear c4
     try clear c8
     try clear c8b0
     try clear c9
     try clear c9b0
     try clear c11
     try clear c13
     try clear c14
     try clear c17
     try clear c20
     try clear c21
     try clear c24
     try clear c25
     try clear c26
     try clear c31
     try clear c32
     try clear c33
     try clear c34
     try clear c35
     try clear c36
     try clear c37
     try clear c38
     try clear c38b0
     try clear c38b1
     try clear c40
     try clear c40b0
     try clear c40b1
     try clear c42
     try clear c42b0
     try clear c42b1
     try clear c44
     try clear c44b0
     try clear c44b1
     try clear hcz15_0
     try clear hcz15_1
     try clear hcz15_2
     try clear hcz18_0
     try clear hcz18_1
     try clear hcz18_2
     try clear hcz22_0
     try clear hcz22_1
     try clear hcz22_2
     try clear hcz27_0
     try clear hcz27_1
     try clear hcz27_2
     try clear hcz33_0
     try clear hcz33_1
     try clear hcz33_2
     try clear hcz36_0
     try clear hcz36_1
     try clear hcz36_2
     try clear hfz15_0
     try clear hfz15_1
     try clear hfz15_2
     try clear hfz18_0
     try clear hfz18_1
     try clear hfz18_2
     try clear hfz22_0
     try clear hfz22_1
     try clear hfz22_2
     try clear hfz27_0
     try clear hfz27_1
     try clear hfz27_2
     try clear hfz33_0
     try clear hfz33_1
     try clear hfz33_2
     try clear hfz36_0
     try clear hfz36_1
     try clear hfz36_2
     try clear p2
     obtain ⟨kq,x10_29,x11_29,rfl,rfl,HA,HJ29,BK319,BK320,BK321,HB⟩:=hcut
     cases kq with
     | zero=>exact absurd HA.out (by simp [spec_Arith.j1])
     | succ kj29 =>
      have H:=HA.out
      clear HA
      simp only [spec_Arith.j1] at H
      by_cases c47 : x11_29 = true
      ·subst c47
       have H1 : (some (1,x10_29,(⟨#[]⟩ : ByteArray),0)) = some (r1,r2,r3,r4):=by rw [if_pos rfl] at H;exact H
       clear H
       have H:=H1
       clear H1
       simp only [Option.some.injEq,Prod.mk.injEq] at H
       obtain ⟨rfl,rfl,rfl,rfl⟩:=H
       have hnb48:=NB321_319.out
       have hnc48:=NB319_321.out
       have hnb49:=NB321_320.out
       have hnc49:=NB320_321.out
       have hcz50_0 : wc.cell? ⟨gb321,0,none⟩ = some (.int .i64 0):=(blk_cell BK321.out 0).trans rfl
       have hcz50_1 : wc.cell? ⟨gb321,1,none⟩ = some (.int .i64 0):=(blk_cell BK321.out 1).trans rfl
       have hcz50_2 : wc.cell? ⟨gb321,2,none⟩ = some (.string (⟨#[]⟩ : ByteArray)):=(blk_cell BK321.out 2).trans rfl
       have hfz50_0:=blk_frozen BK321.out 0
       have hfz50_1:=blk_frozen BK321.out 1
       have hfz50_2:=blk_frozen BK321.out 2
       go_wp2
       refine bodyPost_ret (results_ct rfl _ _ gb321 24 #[.int .i64 1,.int .i64 x10_29,.string (⟨#[]⟩ : ByteArray)] (0,0) _ rfl (by (with_reducible repeat (first|refine blk_drewN ?_ _|refine blk_drew ?_|refine blk_alloc ?_ _));refine blk_put (cs:=#[.int .i64 1,.int .i64 x10_29,.string (⟨#[]⟩ : ByteArray)]) ?_ 2 _ rfl;(with_reducible repeat (first|refine blk_drewN ?_ _|refine blk_drew ?_|refine blk_alloc ?_ _));refine blk_put (cs:=#[.int .i64 1,.int .i64 0,.string (⟨#[]⟩ : ByteArray)]) ?_ 1 _ rfl;(with_reducible repeat (first|refine blk_drewN ?_ _|refine blk_drew ?_|refine blk_alloc ?_ _));refine blk_put (cs:=#[.int .i64 0,.int .i64 0,.string (⟨#[]⟩ : ByteArray)]) ?_ 0 _ rfl;(with_reducible repeat (first|refine blk_drewN ?_ _|refine blk_drew ?_|refine blk_alloc ?_ _));exact BK321.out) Tryz.underlying24 rfl (by kernel_rfl)) rfl ?_
       exact ⟨by first|rfl|(simp [errW_none,errW_some] <;> rfl)|(simp [*,errW_none,errW_some] <;> rfl),by repeat (first|(with_reducible first|exact HB.out|apply below_alloc|apply pw_below_drewN|apply below_drew1|refine below_set ?_ GE319.out|refine below_set ?_ GE320.out|refine below_set ?_ GE321.out)|exact HB.out)⟩
      ·replace c47:=Bool.eq_false_iff.mpr c47
       subst c47
       have H1 : (if t325 = 0 then (if a0 ≥ 23 then (some (0,0,(⟨#[]⟩ : ByteArray),2)) else (some (0,0,(⟨#[]⟩ : ByteArray),1))) else (some (0,0,(⟨#[]⟩ : ByteArray),1))) = some (r1,r2,r3,r4):=by rw [if_neg (show ¬ (false = true) by decide)] at H;exact H
       clear H
       have H:=H1
       clear H1
       by_cases c51 : t325 = 0
       ·rw [if_pos c51] at H
        have c51b0 : (t325 == 0) = true:=beq_iff_eq.mpr c51
        have c51b1 : (t325 != 0) = false:=bne_eq_false_iff_eq.mpr c51
        clear c51
        by_cases c52 : a0 ≥ 23
        ·rw [if_pos c52] at H
         have c52b0 : decide (23 ≤ a0) = true:=decide_eq_true c52
         clear c52
         simp only [Option.some.injEq,Prod.mk.injEq] at H
         obtain ⟨rfl,rfl,rfl,rfl⟩:=H
         have hnb53:=NB321_319.out
         have hnc53:=NB319_321.out
         have hnb54:=NB321_320.out
         have hnc54:=NB320_321.out
         have hcz55_0 : wc.cell? ⟨gb321,0,none⟩ = some (.int .i64 0):=(blk_cell BK321.out 0).trans rfl
         have hcz55_1 : wc.cell? ⟨gb321,1,none⟩ = some (.int .i64 0):=(blk_cell BK321.out 1).trans rfl
         have hcz55_2 : wc.cell? ⟨gb321,2,none⟩ = some (.string (⟨#[]⟩ : ByteArray)):=(blk_cell BK321.out 2).trans rfl
         have hfz55_0:=blk_frozen BK321.out 0
         have hfz55_1:=blk_frozen BK321.out 1
         have hfz55_2:=blk_frozen BK321.out 2
         go_wp2
         refine bodyPost_ret (results_ct rfl _ _ gb321 24 #[.int .i64 0,.int .i64 0,.string (⟨#[]⟩ : ByteArray)] (0,0) _ rfl (by (with_reducible repeat (first|refine blk_drewN ?_ _|refine blk_drew ?_|refine blk_alloc ?_ _));refine blk_put (cs:=#[.int .i64 0,.int .i64 0,.string (⟨#[]⟩ : ByteArray)]) ?_ 2 _ rfl;(with_reducible repeat (first|refine blk_drewN ?_ _|refine blk_drew ?_|refine blk_alloc ?_ _));refine blk_put (cs:=#[.int .i64 0,.int .i64 0,.string (⟨#[]⟩ : ByteArray)]) ?_ 1 _ rfl;(with_reducible repeat (first|refine blk_drewN ?_ _|refine blk_drew ?_|refine blk_alloc ?_ _));refine blk_put (cs:=#[.int .i64 0,.int .i64 0,.string (⟨#[]⟩ : ByteArray)]) ?_ 0 _ rfl;(with_reducible repeat (first|refine blk_drewN ?_ _|refine blk_drew ?_|refine blk_alloc ?_ _));exact BK321.out) Tryz.underlying24 rfl (by kernel_rfl)) rfl ?_
         exact ⟨by first|rfl|(simp [errW_none,errW_some] <;> rfl)|(simp [*,errW_none,errW_some] <;> rfl),by repeat (first|(with_reducible first|exact HB.out|apply below_alloc|apply pw_below_drewN|apply below_drew1|refine below_set ?_ GE319.out|refine below_set ?_ GE320.out|refine below_set ?_ GE321.out)|exact HB.out)⟩
        ·rw [if_neg c52] at H
         have c52b0 : decide (23 ≤ a0) = false:=decide_eq_false c52
         clear c52
         simp only [Option.some.injEq,Prod.mk.injEq] at H
         obtain ⟨rfl,rfl,rfl,rfl⟩:=H
         have hnb56:=NB321_319.out
         have hnc56:=NB319_321.out
         have hnb57:=NB321_320.out
         have hnc57:=NB320_321.out
         have hcz58_0 : wc.cell? ⟨gb321,0,none⟩ = some (.int .i64 0):=(blk_cell BK321.out 0).trans rfl
         have hcz58_1 : wc.cell? ⟨gb321,1,none⟩ = some (.int .i64 0):=(blk_cell BK321.out 1).trans rfl
         have hcz58_2 : wc.cell? ⟨gb321,2,none⟩ = some (.string (⟨#[]⟩ : ByteArray)):=(blk_cell BK321.out 2).trans rfl
         have hfz58_0:=blk_frozen BK321.out 0
         have hfz58_1:=blk_frozen BK321.out 1
         have hfz58_2:=blk_frozen BK321.out 2
         go_wp2
         refine bodyPost_ret (results_ct rfl _ _ gb321 24 #[.int .i64 0,.int .i64 0,.string (⟨#[]⟩ : ByteArray)] (0,0) _ rfl (by (with_reducible repeat (first|refine blk_drewN ?_ _|refine blk_drew ?_|refine blk_alloc ?_ _));refine blk_put (cs:=#[.int .i64 0,.int .i64 0,.string (⟨#[]⟩ : ByteArray)]) ?_ 2 _ rfl;(with_reducible repeat (first|refine blk_drewN ?_ _|refine blk_drew ?_|refine blk_alloc ?_ _));refine blk_put (cs:=#[.int .i64 0,.int .i64 0,.string (⟨#[]⟩ : ByteArray)]) ?_ 1 _ rfl;(with_reducible repeat (first|refine blk_drewN ?_ _|refine blk_drew ?_|refine blk_alloc ?_ _));refine blk_put (cs:=#[.int .i64 0,.int .i64 0,.string (⟨#[]⟩ : ByteArray)]) ?_ 0 _ rfl;(with_reducible repeat (first|refine blk_drewN ?_ _|refine blk_drew ?_|refine blk_alloc ?_ _));exact BK321.out) Tryz.underlying24 rfl (by kernel_rfl)) rfl ?_
         exact ⟨by first|rfl|(simp [errW_none,errW_some] <;> rfl)|(simp [*,errW_none,errW_some] <;> rfl),by repeat (first|(with_reducible first|exact HB.out|apply below_alloc|apply pw_below_drewN|apply below_drew1|refine below_set ?_ GE319.out|refine below_set ?_ GE320.out|refine below_set ?_ GE321.out)|exact HB.out)⟩
       ·rw [if_neg c51] at H
        have c51b0 : (t325 == 0) = false:=beq_eq_false_iff_ne.mpr c51
        have c51b1 : (t325 != 0) = true:=bne_iff_ne.mpr c51
        simp only [Option.some.injEq,Prod.mk.injEq] at H
        obtain ⟨rfl,rfl,rfl,rfl⟩:=H
        have hnb59:=NB321_319.out
        have hnc59:=NB319_321.out
        have hnb60:=NB321_320.out
        have hnc60:=NB320_321.out
        have hcz61_0 : wc.cell? ⟨gb321,0,none⟩ = some (.int .i64 0):=(blk_cell BK321.out 0).trans rfl
        have hcz61_1 : wc.cell? ⟨gb321,1,none⟩ = some (.int .i64 0):=(blk_cell BK321.out 1).trans rfl
        have hcz61_2 : wc.cell? ⟨gb321,2,none⟩ = some (.string (⟨#[]⟩ : ByteArray)):=(blk_cell BK321.out 2).trans rfl
        have hfz61_0:=blk_frozen BK321.out 0
        have hfz61_1:=blk_frozen BK321.out 1
        have hfz61_2:=blk_frozen BK321.out 2
        go_wp2
        refine bodyPost_ret (results_ct rfl _ _ gb321 24 #[.int .i64 0,.int .i64 0,.string (⟨#[]⟩ : ByteArray)] (0,0) _ rfl (by (with_reducible repeat (first|refine blk_drewN ?_ _|refine blk_drew ?_|refine blk_alloc ?_ _));refine blk_put (cs:=#[.int .i64 0,.int .i64 0,.string (⟨#[]⟩ : ByteArray)]) ?_ 2 _ rfl;(with_reducible repeat (first|refine blk_drewN ?_ _|refine blk_drew ?_|refine blk_alloc ?_ _));refine blk_put (cs:=#[.int .i64 0,.int .i64 0,.string (⟨#[]⟩ : ByteArray)]) ?_ 1 _ rfl;(with_reducible repeat (first|refine blk_drewN ?_ _|refine blk_drew ?_|refine blk_alloc ?_ _));refine blk_put (cs:=#[.int .i64 0,.int .i64 0,.string (⟨#[]⟩ : ByteArray)]) ?_ 0 _ rfl;(with_reducible repeat (first|refine blk_drewN ?_ _|refine blk_drew ?_|refine blk_alloc ?_ _));exact BK321.out) Tryz.underlying24 rfl (by kernel_rfl)) rfl ?_
        exact ⟨by first|rfl|(simp [errW_none,errW_some] <;> rfl)|(simp [*,errW_none,errW_some] <;> rfl),by repeat (first|(with_reducible first|exact HB.out|apply below_alloc|apply pw_below_drewN|apply below_drew1|refine below_set ?_ GE319.out|refine below_set ?_ GE320.out|refine below_set ?_ GE321.out)|exact HB.out)⟩
def impl_Cell_truth.f (a0_0 : Int) (a0_1 : Int) (a0_2 : ByteArray) : Option (Bool):=if a0_0 = 2 then (some (a0_2.toList != ([] : List UInt8))) else (some (a0_1 != 0))
set_option maxHeartbeats 8000000 in
set_option maxRecDepth 100000 in
theorem impl_Cell_truth.calls (a0_0 : Int) (a0_1 : Int) (a0_2 : ByteArray) (r : Bool) (w : World) (h : impl_Cell_truth.f a0_0 a0_1 a0_2 = some r) :
  Calls Tryz.prog 46 #[.agg #[.int .i64 a0_0,.int .i64 a0_1,.string a0_2]] w fun e w'=>e = .returned (.bool r) ∧ Below w.heap.size w w':=by
 have hu24:=Tryz.underlying24
 have HB:=Aside0.mk (Below.refl w.heap.size w)
 have H : (if a0_0 = 2 then (some (a0_2.toList != ([] : List UInt8))) else (some (a0_1 != 0))) = some r:=h
 clear h
 by_cases c2 : a0_0 = 2
 ·rw [if_pos c2] at H
  have c2b0 : (a0_0 == 2) = true:=beq_iff_eq.mpr c2
  have c2b1 : (a0_0 != 2) = false:=bne_eq_false_iff_eq.mpr c2
  clear c2
  obtain rfl:=Option.some.inj H
  go_enter Tryz.func46,Tryz.ntmps46
  go_wp2_with (first|((with_reducible refine gate_dst (N:=1) rfl ?_);refine box_event ?hg (N:=1) ?hd (cs:=#[.int .i64 a0_0,.int .i64 a0_1,.string a0_2]) (t:=24) ?hr ?_;(case hd=>rfl);(case hg=>rfl);(case hr=>first|(go_simp;done)|(go_simp;rfl));intro gb336 hg w3 hbox hb;have n0_:=Aside0.mk (below_step (by repeat (first|(with_reducible first|exact HB.out|apply below_alloc|apply pw_below_drewN|apply below_drew1)|exact HB.out)) hb);have n1_:=Aside0.mk (hbox);have n2_:=Aside0.mk ((by rw [hg];exact (below_size (by repeat (first|(with_reducible first|exact HB.out|apply below_alloc|apply pw_below_drewN|apply below_drew1)|exact HB.out))) : w.heap.size ≤ gb336));have n3_:=Aside0.mk ((by rw [hg];exact (below_size (by repeat (first|(with_reducible first|exact HB.out|apply below_alloc|apply pw_below_drewN|apply below_drew1)|exact HB.out))) : w.heap.size ≤ gb336));clear HB;have HB:=n0_;have BK336:=n1_;have GW336:=n2_;have GE336:=n3_;clear n0_ n1_ n2_ n3_;clear hb hbox hg;have hcz4_0 : w3.cell? ⟨gb336,0,none⟩ = some (.int .i64 a0_0):=(blk_cell BK336.out 0).trans rfl;have hcz4_1 : w3.cell? ⟨gb336,1,none⟩ = some (.int .i64 a0_1):=(blk_cell BK336.out 1).trans rfl;have hcz4_2 : w3.cell? ⟨gb336,2,none⟩ = some (.string a0_2):=(blk_cell BK336.out 2).trans rfl;have hfz4_0:=blk_frozen BK336.out 0;have hfz4_1:=blk_frozen BK336.out 1;have hfz4_2:=blk_frozen BK336.out 2))
  go_ret
  exact ⟨by first|rfl|(simp [errW_none,errW_some] <;> rfl)|(simp [*,errW_none,errW_some] <;> rfl)|(congr 2;generalize ByteArray.toList _ = l_;cases l_ <;> rfl),by repeat (first|(with_reducible first|exact HB.out|apply below_alloc|apply pw_below_drewN|apply below_drew1|refine below_set ?_ GE336.out)|exact HB.out)⟩
 ·rw [if_neg c2] at H
  have c2b0 : (a0_0 == 2) = false:=beq_eq_false_iff_ne.mpr c2
  have c2b1 : (a0_0 != 2) = true:=bne_iff_ne.mpr c2
  obtain rfl:=Option.some.inj H
  go_enter Tryz.func46,Tryz.ntmps46
  go_wp2_with (first|((with_reducible refine gate_dst (N:=1) rfl ?_);refine box_event ?hg (N:=1) ?hd (cs:=#[.int .i64 a0_0,.int .i64 a0_1,.string a0_2]) (t:=24) ?hr ?_;(case hd=>rfl);(case hg=>rfl);(case hr=>first|(go_simp;done)|(go_simp;rfl));intro gb336 hg w5 hbox hb;have n0_:=Aside0.mk (below_step (by repeat (first|(with_reducible first|exact HB.out|apply below_alloc|apply pw_below_drewN|apply below_drew1)|exact HB.out)) hb);have n1_:=Aside0.mk (hbox);have n2_:=Aside0.mk ((by rw [hg];exact (below_size (by repeat (first|(with_reducible first|exact HB.out|apply below_alloc|apply pw_below_drewN|apply below_drew1)|exact HB.out))) : w.heap.size ≤ gb336));have n3_:=Aside0.mk ((by rw [hg];exact (below_size (by repeat (first|(with_reducible first|exact HB.out|apply below_alloc|apply pw_below_drewN|apply below_drew1)|exact HB.out))) : w.heap.size ≤ gb336));clear HB;have HB:=n0_;have BK336:=n1_;have GW336:=n2_;have GE336:=n3_;clear n0_ n1_ n2_ n3_;clear hb hbox hg;have hcz6_0 : w5.cell? ⟨gb336,0,none⟩ = some (.int .i64 a0_0):=(blk_cell BK336.out 0).trans rfl;have hcz6_1 : w5.cell? ⟨gb336,1,none⟩ = some (.int .i64 a0_1):=(blk_cell BK336.out 1).trans rfl;have hcz6_2 : w5.cell? ⟨gb336,2,none⟩ = some (.string a0_2):=(blk_cell BK336.out 2).trans rfl;have hfz6_0:=blk_frozen BK336.out 0;have hfz6_1:=blk_frozen BK336.out 1;have hfz6_2:=blk_frozen BK336.out 2))
  go_ret
  exact ⟨by first|rfl|(simp [errW_none,errW_some] <;> rfl)|(simp [*,errW_none,errW_some] <;> rfl)|(congr 2;generalize ByteArray.toList _ = l_;cases l_ <;> rfl),by repeat (first|(with_reducible first|exact HB.out|apply below_alloc|apply pw_below_drewN|apply below_drew1|refine below_set ?_ GE336.out)|exact HB.out)⟩
def impl_Truth.f (a0_0 : Int) (a0_1 : Int) (a0_2 : ByteArray) : Option (Bool):=(impl_CellOk.f a0_0 a0_1 a0_2).bind fun t338=>(if t338 = true then ((impl_Cell_truth.f a0_0 a0_1 a0_2).bind fun t339=>(some t339)) else (some false))
set_option maxHeartbeats 8000000 in
set_option maxRecDepth 100000 in
theorem impl_Truth.calls (a0_0 : Int) (a0_1 : Int) (a0_2 : ByteArray) (r : Bool) (w : World) (h : impl_Truth.f a0_0 a0_1 a0_2 = some r) :
  Calls Tryz.prog 12 #[.agg #[.int .i64 a0_0,.int .i64 a0_1,.string a0_2]] w fun e w'=>e = .returned (.bool r) ∧ Below w.heap.size w w':=by
 have hu24:=Tryz.underlying24
 have HB:=Aside0.mk (Below.refl w.heap.size w)
 have H : ((impl_CellOk.f a0_0 a0_1 a0_2).bind fun t338=>(if t338 = true then ((impl_Cell_truth.f a0_0 a0_1 a0_2).bind fun t339=>(some t339)) else (some false))) = some r:=h
 clear h
 replace H:=Option.bind_eq_some_iff.mp H
 obtain ⟨t338,A20,H⟩:=H
 replace H : (if t338 = true then ((impl_Cell_truth.f a0_0 a0_1 a0_2).bind fun t339=>(some t339)) else (some false)) = some r:=H
 have A2:=Aside0.mk A20
 clear A20
 by_cases c3 : t338 = true
 ·subst c3
  have H1 : ((impl_Cell_truth.f a0_0 a0_1 a0_2).bind fun t339=>(some t339)) = some r:=by rw [if_pos rfl] at H;exact H
  clear H
  have H:=H1
  clear H1
  replace H:=Option.bind_eq_some_iff.mp H
  obtain ⟨t339,A40,H⟩:=H
  replace H : (some t339) = some r:=H
  have A4:=Aside0.mk A40
  clear A40
  obtain rfl:=Option.some.inj H
  go_enter Tryz.func12,Tryz.ntmps12
  go_wp2_with (first|((with_reducible refine gate_dst (N:=1) rfl ?_);refine box_event ?hg (N:=1) ?hd (cs:=#[.int .i64 a0_0,.int .i64 a0_1,.string a0_2]) (t:=24) ?hr ?_;(case hd=>rfl);(case hg=>rfl);(case hr=>first|(go_simp;done)|(go_simp;rfl));intro gb337 hg w5 hbox hb;have n0_:=Aside0.mk (below_step (by repeat (first|(with_reducible first|exact HB.out|apply below_alloc|apply pw_below_drewN|apply below_drew1)|exact HB.out)) hb);have n1_:=Aside0.mk (hbox);have n2_:=Aside0.mk ((by rw [hg];exact (below_size (by repeat (first|(with_reducible first|exact HB.out|apply below_alloc|apply pw_below_drewN|apply below_drew1)|exact HB.out))) : w.heap.size ≤ gb337));have n3_:=Aside0.mk ((by rw [hg];exact (below_size (by repeat (first|(with_reducible first|exact HB.out|apply below_alloc|apply pw_below_drewN|apply below_drew1)|exact HB.out))) : w.heap.size ≤ gb337));clear HB;have HB:=n0_;have BK337:=n1_;have GW337:=n2_;have GE337:=n3_;clear n0_ n1_ n2_ n3_;clear hb hbox hg;have hcz6_0 : w5.cell? ⟨gb337,0,none⟩ = some (.int .i64 a0_0):=(blk_cell BK337.out 0).trans rfl;have hcz6_1 : w5.cell? ⟨gb337,1,none⟩ = some (.int .i64 a0_1):=(blk_cell BK337.out 1).trans rfl;have hcz6_2 : w5.cell? ⟨gb337,2,none⟩ = some (.string a0_2):=(blk_cell BK337.out 2).trans rfl;have hfz6_0:=blk_frozen BK337.out 0;have hfz6_1:=blk_frozen BK337.out 1;have hfz6_2:=blk_frozen BK337.out 2)|((with_reducible refine gate_callee (f:=11) rfl ?_);refine goesL_ (some 4) rfl rfl Tryz.func11 (by kernel_rfl) rfl #[.agg #[.int .i64 a0_0,.int .i64 a0_1,.string a0_2]] rfl (by (try simp only [List.map_toArray,List.map_cons,List.map_nil]);first|done|rfl|(simp only [List.length_drop,List.length_take];rfl)) ?_;(with_reducible refine (impl_CellOk.calls a0_0 a0_1 a0_2 true _ A2.out).mono ?_);rintro e w7 ⟨rfl,hb⟩;refine ⟨_,rfl,?_⟩;have n0_:=Aside0.mk (blk_below (g:=gb337) (o:=.cells #[.int .i64 a0_0,.int .i64 a0_1,.string a0_2] 24 (0,0)) (by (with_reducible repeat (first|refine blk_drewN ?_ _|refine blk_drew ?_|refine blk_alloc ?_ _));exact BK337.out) hb);have n1_:=Aside0.mk (below_step (by repeat (first|(with_reducible first|exact HB.out|apply below_alloc|apply pw_below_drewN|apply below_drew1|refine below_set ?_ GE337.out)|exact HB.out)) hb);clear BK337;clear HB;have BK337:=n0_;have HB:=n1_;clear n0_ n1_;(try clear hb);(try clear hb2);(try clear hk);(try clear hi);have hcz8_0 : w7.cell? ⟨gb337,0,none⟩ = some (.int .i64 a0_0):=(blk_cell BK337.out 0).trans rfl;have hcz8_1 : w7.cell? ⟨gb337,1,none⟩ = some (.int .i64 a0_1):=(blk_cell BK337.out 1).trans rfl;have hcz8_2 : w7.cell? ⟨gb337,2,none⟩ = some (.string a0_2):=(blk_cell BK337.out 2).trans rfl;have hfz8_0:=blk_frozen BK337.out 0;have hfz8_1:=blk_frozen BK337.out 1;have hfz8_2:=blk_frozen BK337.out 2)|(go_at_call 46;(with_reducible refine (impl_Cell_truth.calls a0_0 a0_1 a0_2 t339 _ A4.out).mono ?_);rintro e w9 ⟨rfl,hb⟩;have n0_:=Aside0.mk (blk_below (g:=gb337) (o:=.cells #[.int .i64 a0_0,.int .i64 a0_1,.string a0_2] 24 (0,0)) (by (with_reducible repeat (first|refine blk_drewN ?_ _|refine blk_drew ?_|refine blk_alloc ?_ _));exact BK337.out) hb);have n1_:=Aside0.mk (below_step (by repeat (first|(with_reducible first|exact HB.out|apply below_alloc|apply pw_below_drewN|apply below_drew1|refine below_set ?_ GE337.out)|exact HB.out)) hb);clear BK337;clear HB;have BK337:=n0_;have HB:=n1_;clear n0_ n1_;(try clear hb);(try clear hb2);(try clear hk);(try clear hi)))
  go_ret
  exact ⟨by first|rfl|(simp [errW_none,errW_some] <;> rfl)|(simp [*,errW_none,errW_some] <;> rfl),by repeat (first|(with_reducible first|exact HB.out|apply below_alloc|apply pw_below_drewN|apply below_drew1|refine below_set ?_ GE337.out)|exact HB.out)⟩
 ·replace c3:=Bool.eq_false_iff.mpr c3
  subst c3
  have H1 : (some false) = some r:=by rw [if_neg (show ¬ (false = true) by decide)] at H;exact H
  clear H
  have H:=H1
  clear H1
  obtain rfl:=Option.some.inj H
  go_enter Tryz.func12,Tryz.ntmps12
  go_wp2_with (first|((with_reducible refine gate_dst (N:=1) rfl ?_);refine box_event ?hg (N:=1) ?hd (cs:=#[.int .i64 a0_0,.int .i64 a0_1,.string a0_2]) (t:=24) ?hr ?_;(case hd=>rfl);(case hg=>rfl);(case hr=>first|(go_simp;done)|(go_simp;rfl));intro gb337 hg w10 hbox hb;have n0_:=Aside0.mk (below_step (by repeat (first|(with_reducible first|exact HB.out|apply below_alloc|apply pw_below_drewN|apply below_drew1)|exact HB.out)) hb);have n1_:=Aside0.mk (hbox);have n2_:=Aside0.mk ((by rw [hg];exact (below_size (by repeat (first|(with_reducible first|exact HB.out|apply below_alloc|apply pw_below_drewN|apply below_drew1)|exact HB.out))) : w.heap.size ≤ gb337));have n3_:=Aside0.mk ((by rw [hg];exact (below_size (by repeat (first|(with_reducible first|exact HB.out|apply below_alloc|apply pw_below_drewN|apply below_drew1)|exact HB.out))) : w.heap.size ≤ gb337));clear HB;have HB:=n0_;have BK337:=n1_;have GW337:=n2_;have GE337:=n3_;clear n0_ n1_ n2_ n3_;clear hb hbox hg;have hcz11_0 : w10.cell? ⟨gb337,0,none⟩ = some (.int .i64 a0_0):=(blk_cell BK337.out 0).trans rfl;have hcz11_1 : w10.cell? ⟨gb337,1,none⟩ = some (.int .i64 a0_1):=(blk_cell BK337.out 1).trans rfl;have hcz11_2 : w10.cell? ⟨gb337,2,none⟩ = some (.string a0_2):=(blk_cell BK337.out 2).trans rfl;have hfz11_0:=blk_frozen BK337.out 0;have hfz11_1:=blk_frozen BK337.out 1;have hfz11_2:=blk_frozen BK337.out 2)|((with_reducible refine gate_callee (f:=11) rfl ?_);refine goesL_ (some 4) rfl rfl Tryz.func11 (by kernel_rfl) rfl #[.agg #[.int .i64 a0_0,.int .i64 a0_1,.string a0_2]] rfl (by (try simp only [List.map_toArray,List.map_cons,List.map_nil]);first|done|rfl|(simp only [List.length_drop,List.length_take];rfl)) ?_;(with_reducible refine (impl_CellOk.calls a0_0 a0_1 a0_2 false _ A2.out).mono ?_);rintro e w12 ⟨rfl,hb⟩;refine ⟨_,rfl,?_⟩;have n0_:=Aside0.mk (blk_below (g:=gb337) (o:=.cells #[.int .i64 a0_0,.int .i64 a0_1,.string a0_2] 24 (0,0)) (by (with_reducible repeat (first|refine blk_drewN ?_ _|refine blk_drew ?_|refine blk_alloc ?_ _));exact BK337.out) hb);have n1_:=Aside0.mk (below_step (by repeat (first|(with_reducible first|exact HB.out|apply below_alloc|apply pw_below_drewN|apply below_drew1|refine below_set ?_ GE337.out)|exact HB.out)) hb);clear BK337;clear HB;have BK337:=n0_;have HB:=n1_;clear n0_ n1_;(try clear hb);(try clear hb2);(try clear hk);(try clear hi)))
  go_ret
  exact ⟨by first|rfl|(simp [errW_none,errW_some] <;> rfl)|(simp [*,errW_none,errW_some] <;> rfl),by repeat (first|(with_reducible first|exact HB.out|apply below_alloc|apply pw_below_drewN|apply below_drew1|refine below_set ?_ GE337.out)|exact HB.out)⟩
def impl_fieldCell.f (a0 : ByteArray) : Option (Int × Int × ByteArray):=(impl_LooksNum.f a0).bind fun t341=>(if t341 = true then ((impl_ReadDec.f a0).bind fun bt342=>(some (3,bt342.1,a0))) else (some (2,0,a0)))
set_option maxHeartbeats 8000000 in
set_option maxRecDepth 100000 in
theorem impl_fieldCell.calls (a0 : ByteArray) (r1 : Int) (r2 : Int) (r3 : ByteArray) (w : World) (h : impl_fieldCell.f a0 = some (r1,r2,r3)) :
  Calls Tryz.prog 73 #[.string a0] w fun e w'=>e = .returned (.agg #[.int .i64 r1,.int .i64 r2,.string r3]) ∧ Below w.heap.size w w':=by
 have hu24:=Tryz.underlying24
 have HB:=Aside0.mk (Below.refl w.heap.size w)
 have H : ((impl_LooksNum.f a0).bind fun t341=>(if t341 = true then ((impl_ReadDec.f a0).bind fun bt342=>(some (3,bt342.1,a0))) else (some (2,0,a0)))) = some (r1,r2,r3):=h
 clear h
 replace H:=Option.bind_eq_some_iff.mp H
 obtain ⟨t341,A20,H⟩:=H
 replace H : (if t341 = true then ((impl_ReadDec.f a0).bind fun bt342=>(some (3,bt342.1,a0))) else (some (2,0,a0))) = some (r1,r2,r3):=H
 have A2:=Aside0.mk A20
 clear A20
 by_cases c3 : t341 = true
 ·subst c3
  have H1 : ((impl_ReadDec.f a0).bind fun bt342=>(some (3,bt342.1,a0))) = some (r1,r2,r3):=by rw [if_pos rfl] at H;exact H
  clear H
  have H:=H1
  clear H1
  replace H:=Option.bind_eq_some_iff.mp H
  obtain ⟨⟨t342,t343⟩,A40,H⟩:=H
  replace H : (some (3,t342,a0)) = some (r1,r2,r3):=H
  have A4:=Aside0.mk A40
  clear A40
  simp only [Option.some.injEq,Prod.mk.injEq] at H
  obtain ⟨rfl,rfl,rfl⟩:=H
  go_enter Tryz.func73,Tryz.ntmps73
  go_wp2_with (first|((with_reducible refine gate_dst (N:=2) rfl ?_);refine box_event ?hg (N:=2) ?hd (cs:=#[.int .i64 0,.int .i64 0,.string (⟨#[]⟩ : ByteArray)]) (t:=24) ?hr ?_;(case hd=>rfl);(case hg=>rfl);(case hr=>first|(go_simp;done)|(go_simp;rfl));intro gb340 hg w5 hbox hb;have n0_:=Aside0.mk (below_step (by repeat (first|(with_reducible first|exact HB.out|apply below_alloc|apply pw_below_drewN|apply below_drew1)|exact HB.out)) hb);have n1_:=Aside0.mk (hbox);have n2_:=Aside0.mk ((by rw [hg];exact (below_size (by repeat (first|(with_reducible first|exact HB.out|apply below_alloc|apply pw_below_drewN|apply below_drew1)|exact HB.out))) : w.heap.size ≤ gb340));have n3_:=Aside0.mk ((by rw [hg];exact (below_size (by repeat (first|(with_reducible first|exact HB.out|apply below_alloc|apply pw_below_drewN|apply below_drew1)|exact HB.out))) : w.heap.size ≤ gb340));clear HB;have HB:=n0_;have BK340:=n1_;have GW340:=n2_;have GE340:=n3_;clear n0_ n1_ n2_ n3_;clear hb hbox hg)|((with_reducible refine gate_callee (f:=45) rfl ?_);refine goesL_ (some 6) rfl rfl Tryz.func45 (by kernel_rfl) rfl #[.string a0] rfl (by (try simp only [List.map_toArray,List.map_cons,List.map_nil]);first|done|rfl|(simp only [List.length_drop,List.length_take];rfl)) ?_;(with_reducible refine (impl_LooksNum.calls a0 true _ A2.out).mono ?_);rintro e w6 ⟨rfl,hb⟩;refine ⟨_,rfl,?_⟩;have n0_:=Aside0.mk (blk_below (g:=gb340) (o:=.cells #[.int .i64 0,.int .i64 0,.string (⟨#[]⟩ : ByteArray)] 24 (0,0)) (by (with_reducible repeat (first|refine blk_drewN ?_ _|refine blk_drew ?_|refine blk_alloc ?_ _));exact BK340.out) hb);have n1_:=Aside0.mk (below_step (by repeat (first|(with_reducible first|exact HB.out|apply below_alloc|apply pw_below_drewN|apply below_drew1|refine below_set ?_ GE340.out)|exact HB.out)) hb);clear BK340;clear HB;have BK340:=n0_;have HB:=n1_;clear n0_ n1_;(try clear hb);(try clear hb2);(try clear hk);(try clear hi))|((with_reducible refine gate_callee (f:=44) rfl ?_);refine goesL_ (some 9) rfl rfl Tryz.func44 (by kernel_rfl) rfl #[.string a0] rfl (by (try simp only [List.map_toArray,List.map_cons,List.map_nil]);first|done|rfl|(simp only [List.length_drop,List.length_take];rfl)) ?_;(with_reducible refine (impl_ReadDec.calls a0 t342 t343 _ A4.out).mono ?_);rintro e w7 ⟨rfl,hb⟩;refine ⟨_,rfl,?_⟩;have n0_:=Aside0.mk (blk_below (g:=gb340) (o:=.cells #[.int .i64 0,.int .i64 0,.string (⟨#[]⟩ : ByteArray)] 24 (0,0)) (by (with_reducible repeat (first|refine blk_drewN ?_ _|refine blk_drew ?_|refine blk_alloc ?_ _));exact BK340.out) hb);have n1_:=Aside0.mk (below_step (by repeat (first|(with_reducible first|exact HB.out|apply below_alloc|apply pw_below_drewN|apply below_drew1|refine below_set ?_ GE340.out)|exact HB.out)) hb);clear BK340;clear HB;have BK340:=n0_;have HB:=n1_;clear n0_ n1_;(try clear hb);(try clear hb2);(try clear hk);(try clear hi);have hcz8_0 : w7.cell? ⟨gb340,0,none⟩ = some (.int .i64 0):=(blk_cell BK340.out 0).trans rfl;have hcz8_1 : w7.cell? ⟨gb340,1,none⟩ = some (.int .i64 0):=(blk_cell BK340.out 1).trans rfl;have hcz8_2 : w7.cell? ⟨gb340,2,none⟩ = some (.string (⟨#[]⟩ : ByteArray)):=(blk_cell BK340.out 2).trans rfl;have hfz8_0:=blk_frozen BK340.out 0;have hfz8_1:=blk_frozen BK340.out 1;have hfz8_2:=blk_frozen BK340.out 2))
  refine bodyPost_ret (results_cell_row rfl _ _ gb340 24 #[.int .i64 3,.int .i64 t342,.string a0] (0,0) _ rfl (by (with_reducible repeat (first|refine blk_drewN ?_ _|refine blk_drew ?_|refine blk_alloc ?_ _));refine blk_put (cs:=#[.int .i64 3,.int .i64 t342,.string (⟨#[]⟩ : ByteArray)]) ?_ 2 _ rfl;(with_reducible repeat (first|refine blk_drewN ?_ _|refine blk_drew ?_|refine blk_alloc ?_ _));refine blk_put (cs:=#[.int .i64 3,.int .i64 0,.string (⟨#[]⟩ : ByteArray)]) ?_ 1 _ rfl;(with_reducible repeat (first|refine blk_drewN ?_ _|refine blk_drew ?_|refine blk_alloc ?_ _));refine blk_put (cs:=#[.int .i64 0,.int .i64 0,.string (⟨#[]⟩ : ByteArray)]) ?_ 0 _ rfl;(with_reducible repeat (first|refine blk_drewN ?_ _|refine blk_drew ?_|refine blk_alloc ?_ _));exact BK340.out) Tryz.underlying24 rfl (by kernel_rfl)) rfl ?_
  exact ⟨by first|rfl|(simp [errW_none,errW_some] <;> rfl)|(simp [*,errW_none,errW_some] <;> rfl),by repeat (first|(with_reducible first|exact HB.out|apply below_alloc|apply pw_below_drewN|apply below_drew1|refine below_set ?_ GE340.out)|exact HB.out)⟩
 ·replace c3:=Bool.eq_false_iff.mpr c3
  subst c3
  have H1 : (some (2,0,a0)) = some (r1,r2,r3):=by rw [if_neg (show ¬ (false = true) by decide)] at H;exact H
  clear H
  have H:=H1
  clear H1
  simp only [Option.some.injEq,Prod.mk.injEq] at H
  obtain ⟨rfl,rfl,rfl⟩:=H
  go_enter Tryz.func73,Tryz.ntmps73
  go_wp2_with (first|((with_reducible refine gate_dst (N:=2) rfl ?_);refine box_event ?hg (N:=2) ?hd (cs:=#[.int .i64 0,.int .i64 0,.string (⟨#[]⟩ : ByteArray)]) (t:=24) ?hr ?_;(case hd=>rfl);(case hg=>rfl);(case hr=>first|(go_simp;done)|(go_simp;rfl));intro gb340 hg w9 hbox hb;have n0_:=Aside0.mk (below_step (by repeat (first|(with_reducible first|exact HB.out|apply below_alloc|apply pw_below_drewN|apply below_drew1)|exact HB.out)) hb);have n1_:=Aside0.mk (hbox);have n2_:=Aside0.mk ((by rw [hg];exact (below_size (by repeat (first|(with_reducible first|exact HB.out|apply below_alloc|apply pw_below_drewN|apply below_drew1)|exact HB.out))) : w.heap.size ≤ gb340));have n3_:=Aside0.mk ((by rw [hg];exact (below_size (by repeat (first|(with_reducible first|exact HB.out|apply below_alloc|apply pw_below_drewN|apply below_drew1)|exact HB.out))) : w.heap.size ≤ gb340));clear HB;have HB:=n0_;have BK340:=n1_;have GW340:=n2_;have GE340:=n3_;clear n0_ n1_ n2_ n3_;clear hb hbox hg)|((with_reducible refine gate_callee (f:=45) rfl ?_);refine goesL_ (some 6) rfl rfl Tryz.func45 (by kernel_rfl) rfl #[.string a0] rfl (by (try simp only [List.map_toArray,List.map_cons,List.map_nil]);first|done|rfl|(simp only [List.length_drop,List.length_take];rfl)) ?_;(with_reducible refine (impl_LooksNum.calls a0 false _ A2.out).mono ?_);rintro e w10 ⟨rfl,hb⟩;refine ⟨_,rfl,?_⟩;have n0_:=Aside0.mk (blk_below (g:=gb340) (o:=.cells #[.int .i64 0,.int .i64 0,.string (⟨#[]⟩ : ByteArray)] 24 (0,0)) (by (with_reducible repeat (first|refine blk_drewN ?_ _|refine blk_drew ?_|refine blk_alloc ?_ _));exact BK340.out) hb);have n1_:=Aside0.mk (below_step (by repeat (first|(with_reducible first|exact HB.out|apply below_alloc|apply pw_below_drewN|apply below_drew1|refine below_set ?_ GE340.out)|exact HB.out)) hb);clear BK340;clear HB;have BK340:=n0_;have HB:=n1_;clear n0_ n1_;(try clear hb);(try clear hb2);(try clear hk);(try clear hi);have hcz11_0 : w10.cell? ⟨gb340,0,none⟩ = some (.int .i64 0):=(blk_cell BK340.out 0).trans rfl;have hcz11_1 : w10.cell? ⟨gb340,1,none⟩ = some (.int .i64 0):=(blk_cell BK340.out 1).trans rfl;have hcz11_2 : w10.cell? ⟨gb340,2,none⟩ = some (.string (⟨#[]⟩ : ByteArray)):=(blk_cell BK340.out 2).trans rfl;have hfz11_0:=blk_frozen BK340.out 0;have hfz11_1:=blk_frozen BK340.out 1;have hfz11_2:=blk_frozen BK340.out 2))
  refine bodyPost_ret (results_cell_row rfl _ _ gb340 24 #[.int .i64 2,.int .i64 0,.string a0] (0,0) _ rfl (by (with_reducible repeat (first|refine blk_drewN ?_ _|refine blk_drew ?_|refine blk_alloc ?_ _));refine blk_put (cs:=#[.int .i64 2,.int .i64 0,.string (⟨#[]⟩ : ByteArray)]) ?_ 2 _ rfl;(with_reducible repeat (first|refine blk_drewN ?_ _|refine blk_drew ?_|refine blk_alloc ?_ _));refine blk_put (cs:=#[.int .i64 2,.int .i64 0,.string (⟨#[]⟩ : ByteArray)]) ?_ 1 _ rfl;(with_reducible repeat (first|refine blk_drewN ?_ _|refine blk_drew ?_|refine blk_alloc ?_ _));refine blk_put (cs:=#[.int .i64 0,.int .i64 0,.string (⟨#[]⟩ : ByteArray)]) ?_ 0 _ rfl;(with_reducible repeat (first|refine blk_drewN ?_ _|refine blk_drew ?_|refine blk_alloc ?_ _));exact BK340.out) Tryz.underlying24 rfl (by kernel_rfl)) rfl ?_
  exact ⟨by first|rfl|(simp [errW_none,errW_some] <;> rfl)|(simp [*,errW_none,errW_some] <;> rfl),by repeat (first|(with_reducible first|exact HB.out|apply below_alloc|apply pw_below_drewN|apply below_drew1|refine below_set ?_ GE340.out)|exact HB.out)⟩
def impl_FieldCell.f (a0 : ByteArray) : Option (Int × Int × ByteArray):=if (a0.size : Int) > 500 then (some (0,0,(⟨#[]⟩ : ByteArray))) else ((impl_fieldCell.f a0).bind fun bt345=>(some (bt345.1,bt345.2.1,bt345.2.2)))
set_option maxHeartbeats 8000000 in
set_option maxRecDepth 100000 in
theorem impl_FieldCell.calls (a0 : ByteArray) (r1 : Int) (r2 : Int) (r3 : ByteArray) (w : World) (h : impl_FieldCell.f a0 = some (r1,r2,r3)) :
  Calls Tryz.prog 39 #[.string a0] w fun e w'=>e = .returned (.agg #[.int .i64 r1,.int .i64 r2,.string r3]) ∧ Below w.heap.size w w':=by
 have hu24:=Tryz.underlying24
 have HB:=Aside0.mk (Below.refl w.heap.size w)
 have H : (if (a0.size : Int) > 500 then (some (0,0,(⟨#[]⟩ : ByteArray))) else ((impl_fieldCell.f a0).bind fun bt345=>(some (bt345.1,bt345.2.1,bt345.2.2)))) = some (r1,r2,r3):=h
 clear h
 by_cases c2 : (a0.size : Int) > 500
 ·rw [if_pos c2] at H
  have c2b0 : decide (500 < (a0.size : Int)) = true:=decide_eq_true c2
  have c2b1 : decide (500 < a0.size) = true:=decide_eq_true (by omega)
  clear c2
  simp only [Option.some.injEq,Prod.mk.injEq] at H
  obtain ⟨rfl,rfl,rfl⟩:=H
  go_enter Tryz.func39,Tryz.ntmps39
  go_wp2_with (first|((with_reducible refine gate_dst (N:=2) rfl ?_);refine box_event ?hg (N:=2) ?hd (cs:=#[.int .i64 0,.int .i64 0,.string (⟨#[]⟩ : ByteArray)]) (t:=24) ?hr ?_;(case hd=>rfl);(case hg=>rfl);(case hr=>first|(go_simp;done)|(go_simp;rfl));intro gb344 hg w3 hbox hb;have n0_:=Aside0.mk (below_step (by repeat (first|(with_reducible first|exact HB.out|apply below_alloc|apply pw_below_drewN|apply below_drew1)|exact HB.out)) hb);have n1_:=Aside0.mk (hbox);have n2_:=Aside0.mk ((by rw [hg];exact (below_size (by repeat (first|(with_reducible first|exact HB.out|apply below_alloc|apply pw_below_drewN|apply below_drew1)|exact HB.out))) : w.heap.size ≤ gb344));have n3_:=Aside0.mk ((by rw [hg];exact (below_size (by repeat (first|(with_reducible first|exact HB.out|apply below_alloc|apply pw_below_drewN|apply below_drew1)|exact HB.out))) : w.heap.size ≤ gb344));clear HB;have HB:=n0_;have BK344:=n1_;have GW344:=n2_;have GE344:=n3_;clear n0_ n1_ n2_ n3_;clear hb hbox hg;have hcz4_0 : w3.cell? ⟨gb344,0,none⟩ = some (.int .i64 0):=(blk_cell BK344.out 0).trans rfl;have hcz4_1 : w3.cell? ⟨gb344,1,none⟩ = some (.int .i64 0):=(blk_cell BK344.out 1).trans rfl;have hcz4_2 : w3.cell? ⟨gb344,2,none⟩ = some (.string (⟨#[]⟩ : ByteArray)):=(blk_cell BK344.out 2).trans rfl;have hfz4_0:=blk_frozen BK344.out 0;have hfz4_1:=blk_frozen BK344.out 1;have hfz4_2:=blk_frozen BK344.out 2))
  refine bodyPost_ret (results_cell_row rfl _ _ gb344 24 #[.int .i64 0,.int .i64 0,.string (⟨#[]⟩ : ByteArray)] (0,0) _ rfl (by (with_reducible repeat (first|refine blk_drewN ?_ _|refine blk_drew ?_|refine blk_alloc ?_ _));refine blk_put (cs:=#[.int .i64 0,.int .i64 0,.string (⟨#[]⟩ : ByteArray)]) ?_ 2 _ rfl;(with_reducible repeat (first|refine blk_drewN ?_ _|refine blk_drew ?_|refine blk_alloc ?_ _));refine blk_put (cs:=#[.int .i64 0,.int .i64 0,.string (⟨#[]⟩ : ByteArray)]) ?_ 1 _ rfl;(with_reducible repeat (first|refine blk_drewN ?_ _|refine blk_drew ?_|refine blk_alloc ?_ _));refine blk_put (cs:=#[.int .i64 0,.int .i64 0,.string (⟨#[]⟩ : ByteArray)]) ?_ 0 _ rfl;(with_reducible repeat (first|refine blk_drewN ?_ _|refine blk_drew ?_|refine blk_alloc ?_ _));exact BK344.out) Tryz.underlying24 rfl (by kernel_rfl)) rfl ?_
  exact ⟨by first|rfl|(simp [errW_none,errW_some] <;> rfl)|(simp [*,errW_none,errW_some] <;> rfl),by repeat (first|(with_reducible first|exact HB.out|apply below_alloc|apply pw_below_drewN|apply below_drew1|refine below_set ?_ GE344.out)|exact HB.out)⟩
 ·rw [if_neg c2] at H
  have c2b0 : decide (500 < (a0.size : Int)) = false:=decide_eq_false c2
  have c2b1 : decide (500 < a0.size) = false:=decide_eq_false (by omega)
  clear c2
  replace H:=Option.bind_eq_some_iff.mp H
  obtain ⟨⟨t345,t346,t347⟩,A50,H⟩:=H
  replace H : (some (t345,t346,t347)) = some (r1,r2,r3):=H
  have A5:=Aside0.mk A50
  clear A50
  simp only [Option.some.injEq,Prod.mk.injEq] at H
  obtain ⟨rfl,rfl,rfl⟩:=H
  go_enter Tryz.func39,Tryz.ntmps39
  go_wp2_with (first|((with_reducible refine gate_dst (N:=2) rfl ?_);refine box_event ?hg (N:=2) ?hd (cs:=#[.int .i64 0,.int .i64 0,.string (⟨#[]⟩ : ByteArray)]) (t:=24) ?hr ?_;(case hd=>rfl);(case hg=>rfl);(case hr=>first|(go_simp;done)|(go_simp;rfl));intro gb344 hg w6 hbox hb;have n0_:=Aside0.mk (below_step (by repeat (first|(with_reducible first|exact HB.out|apply below_alloc|apply pw_below_drewN|apply below_drew1)|exact HB.out)) hb);have n1_:=Aside0.mk (hbox);have n2_:=Aside0.mk ((by rw [hg];exact (below_size (by repeat (first|(with_reducible first|exact HB.out|apply below_alloc|apply pw_below_drewN|apply below_drew1)|exact HB.out))) : w.heap.size ≤ gb344));have n3_:=Aside0.mk ((by rw [hg];exact (below_size (by repeat (first|(with_reducible first|exact HB.out|apply below_alloc|apply pw_below_drewN|apply below_drew1)|exact HB.out))) : w.heap.size ≤ gb344));clear HB;have HB:=n0_;have BK344:=n1_;have GW344:=n2_;have GE344:=n3_;clear n0_ n1_ n2_ n3_;clear hb hbox hg)|((with_reducible refine gate_callee (f:=73) rfl ?_);refine goesL_ (some 8) rfl rfl Tryz.func73 (by kernel_rfl) rfl #[.string a0] rfl (by (try simp only [List.map_toArray,List.map_cons,List.map_nil]);first|done|rfl|(simp only [List.length_drop,List.length_take];rfl)) ?_;(with_reducible refine (impl_fieldCell.calls a0 t345 t346 t347 _ A5.out).mono ?_);rintro e w7 ⟨rfl,hb⟩;refine ⟨_,rfl,?_⟩;have n0_:=Aside0.mk (blk_below (g:=gb344) (o:=.cells #[.int .i64 0,.int .i64 0,.string (⟨#[]⟩ : ByteArray)] 24 (0,0)) (by (with_reducible repeat (first|refine blk_drewN ?_ _|refine blk_drew ?_|refine blk_alloc ?_ _));exact BK344.out) hb);have n1_:=Aside0.mk (below_step (by repeat (first|(with_reducible first|exact HB.out|apply below_alloc|apply pw_below_drewN|apply below_drew1|refine below_set ?_ GE344.out)|exact HB.out)) hb);clear BK344;clear HB;have BK344:=n0_;have HB:=n1_;clear n0_ n1_;(try clear hb);(try clear hb2);(try clear hk);(try clear hi);have hcz8_0 : w7.cell? ⟨gb344,0,none⟩ = some (.int .i64 0):=(blk_cell BK344.out 0).trans rfl;have hcz8_1 : w7.cell? ⟨gb344,1,none⟩ = some (.int .i64 0):=(blk_cell BK344.out 1).trans rfl;have hcz8_2 : w7.cell? ⟨gb344,2,none⟩ = some (.string (⟨#[]⟩ : ByteArray)):=(blk_cell BK344.out 2).trans rfl;have hfz8_0:=blk_frozen BK344.out 0;have hfz8_1:=blk_frozen BK344.out 1;have hfz8_2:=blk_frozen BK344.out 2))
  refine bodyPost_ret (results_cell_row rfl _ _ gb344 24 #[.int .i64 t345,.int .i64 t346,.string t347] (0,0) _ rfl (by (with_reducible repeat (first|refine blk_drewN ?_ _|refine blk_drew ?_|refine blk_alloc ?_ _));refine blk_put (cs:=#[.int .i64 t345,.int .i64 t346,.string (⟨#[]⟩ : ByteArray)]) ?_ 2 _ rfl;(with_reducible repeat (first|refine blk_drewN ?_ _|refine blk_drew ?_|refine blk_alloc ?_ _));refine blk_put (cs:=#[.int .i64 t345,.int .i64 0,.string (⟨#[]⟩ : ByteArray)]) ?_ 1 _ rfl;(with_reducible repeat (first|refine blk_drewN ?_ _|refine blk_drew ?_|refine blk_alloc ?_ _));refine blk_put (cs:=#[.int .i64 0,.int .i64 0,.string (⟨#[]⟩ : ByteArray)]) ?_ 0 _ rfl;(with_reducible repeat (first|refine blk_drewN ?_ _|refine blk_drew ?_|refine blk_alloc ?_ _));exact BK344.out) Tryz.underlying24 rfl (by kernel_rfl)) rfl ?_
  exact ⟨by first|rfl|(simp [errW_none,errW_some] <;> rfl)|(simp [*,errW_none,errW_some] <;> rfl),by repeat (first|(with_reducible first|exact HB.out|apply below_alloc|apply pw_below_drewN|apply below_drew1|refine below_set ?_ GE344.out)|exact HB.out)⟩
def strings_trimRightByte.l0 : Nat → ByteArray → Int → Option (ByteArray)
 | 0,_,_=>none
 | k + 1,x0,x1=>if (x0.size : Int) > 0 then (if 0 ≤ (wrap64 ((x0.size : Int) - 1)) then (if (wrap64 ((x0.size : Int) - 1)) < (x0.size : Int) then (if (bt x0 (wrap64 ((x0.size : Int) - 1))) = x1 then (if (wrap64 ((x0.size : Int) - 1)) ≤ (x0.size : Int) then (strings_trimRightByte.l0 k (x0.extract 0 ((wrap64 ((x0.size : Int) - 1)) : Int).toNat) x1) else (none)) else (some x0)) else (none)) else (none)) else (some x0)
def strings_trimRightByte.f (k : Nat) (a0 : ByteArray) (a1 : Int) : Option (ByteArray):=strings_trimRightByte.l0 k a0 a1
theorem strings_trimRightByte.mono_l : ∀ k,(∀ y0 y1,LeO (strings_trimRightByte.l0 k y0 y1) (strings_trimRightByte.l0 (k + 1) y0 y1))
 | 0=>fun _ _ r h=>by simp [strings_trimRightByte.l0] at h
 | k + 1=>by
  have ih0:=strings_trimRightByte.mono_l k
  ·intro y0 y1
   unfold strings_trimRightByte.l0
   repeat' first
   | (with_reducible exact ih0 _ _)
   | (with_reducible exact LeO.refl _)
   | (with_reducible exact LeO.none _)
   | (with_reducible refine LeO.ite ?_ ?_)
   | (with_reducible refine LeO.bind ?_ (fun _=>?_))
   | exact ih0 _ _
   | exact LeO.none _
   | refine LeO.ite ?_ ?_
   | refine LeO.bind ?_ (fun _=>?_)
theorem strings_trimRightByte.mono : ∀ a0 a1 k,LeO (strings_trimRightByte.f k a0 a1) (strings_trimRightByte.f (k + 1) a0 a1):=by
 intro a0 a1 k
 have ih0:=strings_trimRightByte.mono_l k
 unfold strings_trimRightByte.f
 repeat' first
   | (with_reducible exact ih0 _ _)
   | (with_reducible exact LeO.refl _)
   | (with_reducible exact LeO.none _)
   | (with_reducible refine LeO.ite ?_ ?_)
   | (with_reducible refine LeO.bind ?_ (fun _=>?_))
   | exact ih0 _ _
   | exact LeO.none _
   | refine LeO.ite ?_ ?_
   | refine LeO.bind ?_ (fun _=>?_)
set_option maxHeartbeats 8000000 in
set_option maxRecDepth 100000 in
theorem strings_trimRightByte.calls (k : Nat) (a0 : ByteArray) (a1 : Int) (r : ByteArray) (w : World) (h : strings_trimRightByte.f k a0 a1 = some r) :
  Calls Tryz.prog 119 #[.string a0,.int .u8 a1] w fun e w'=>e = .returned (.string r) ∧ Drawn0 w w':=by
 have H : (strings_trimRightByte.l0 k a0 a1) = some r:=h
 clear h
 have H':=Aside0.mk H
 clear H
 go_enter Tryz.func119,Tryz.ntmps119
 go_wp2
 go_loopg [0] k (fun kq v0 w'=>∃ (x0_1 : ByteArray),v0 = .string x0_1 ∧ Aside0 (strings_trimRightByte.l0 kq x0_1 a1 = some r) ∧ Aside0 (kq ≤ k) ∧ Drawn0 w w')
 case atStart=>exact ⟨(a0),(by first|rfl|(simp;done)|(simp [*];done)),H',⟨Nat.le_refl _⟩,by repeat (first|exact Drawn0.refl _|apply Drawn0.step)⟩
 case round =>
  clear H'
  try clear c1
  try clear p2
  obtain ⟨x0_1,rfl,HA,HK1,⟨m1,rfl⟩⟩:=hrel
  cases gk with
  | zero=>exact absurd HA.out (by simp [strings_trimRightByte.l0])
  | succ k1 =>
   have H:=HA.out
   clear HA
   simp only [strings_trimRightByte.l0] at H
   by_cases c3 : (x0_1.size : Int) > 0
   ·rw [if_pos c3] at H
    have c3b0 : decide (0 < (x0_1.size : Int)) = true:=decide_eq_true c3
    have c3b1 : decide (0 < x0_1.size) = true:=decide_eq_true (by omega)
    clear c3
    obtain ⟨ji4,hji4⟩ : ∃ j_ : Int,(wrap64 ((x0_1.size : Int) - 1)) = j_:=⟨_,rfl⟩
    replace H : (if 0 ≤ (ji4) then (if (ji4) < (x0_1.size : Int) then (if (bt x0_1 (ji4)) = a1 then (if (ji4) ≤ (x0_1.size : Int) then (strings_trimRightByte.l0 k1 (x0_1.extract 0 ((ji4) : Int).toNat) a1) else (none)) else (some x0_1)) else (none)) else (none)) = some r:=by first|(rw [hji4] at H;exact H)|(simp only [hji4] at H ⊢;exact H)
    have hji4w : (IntKind.i64.wrap ((x0_1.size : Int) - 1)) = ji4:=(i64_w _).trans hji4
    by_cases c5 : 0 ≤ (ji4)
    ·rw [if_pos c5] at H
     have c5b0 : decide (0 ≤ (ji4)) = true:=decide_eq_true c5
     clear c5
     by_cases c6 : (ji4) < (x0_1.size : Int)
     ·rw [if_pos c6] at H
      have c6b0 : decide ((ji4) < (x0_1.size : Int)) = true:=decide_eq_true c6
      clear c6
      by_cases c8 : (bt x0_1 (ji4)) = a1
      ·rw [if_pos c8] at H
       have c8b0 : ((bt x0_1 (ji4)) == a1) = true:=beq_iff_eq.mpr c8
       have c8b1 : ((bt x0_1 (ji4)) != a1) = false:=bne_eq_false_iff_eq.mpr c8
       clear c8
       have c9b0:=eq_true (of_decide_eq_true (by first|(with_reducible assumption)|assumption) : 0 ≤ (ji4))
       by_cases c10 : (ji4) ≤ (x0_1.size : Int)
       ·rw [if_pos c10] at H
        have c10b0:=eq_true c10
        have c10b1 : decide ((ji4) ≤ (x0_1.size : Int)) = true:=decide_eq_true c10
        clear c10
        have H':=Aside0.mk H
        clear H
        have p7 : 0 ≤ ((ji4) : Int):=of_decide_eq_true (by first|(with_reducible assumption)|assumption)
        have q7 : (ji4) < (x0_1.size : Int):=of_decide_eq_true (by first|(with_reducible assumption)|assumption)
        have hx7:=bt_at x0_1 (ji4)
        replace p7:=eq_true p7
        replace q7:=eq_true q7
        go_wp2
        go_roundg k1
        case measure=>have:=HK1.out;omega
        case rel=>exact ⟨(x0_1.extract 0 ((ji4) : Int).toNat),(by first|rfl|(simp;done)|(simp only [← hji4] <;> (first|rfl|simp))|(simp [*];done)),H',⟨by have:=HK1.out;omega⟩,by repeat (first|exact Drawn0.refl _|apply Drawn0.step)⟩
       ·rw [if_neg c10] at H
        exact absurd H (by simp)
      ·rw [if_neg c8] at H
       have c8b0 : ((bt x0_1 (ji4)) == a1) = false:=beq_eq_false_iff_ne.mpr c8
       have c8b1 : ((bt x0_1 (ji4)) != a1) = true:=bne_iff_ne.mpr c8
       obtain rfl:=Option.some.inj H
       have p7 : 0 ≤ ((ji4) : Int):=of_decide_eq_true (by first|(with_reducible assumption)|assumption)
       have q7 : (ji4) < (x0_1.size : Int):=of_decide_eq_true (by first|(with_reducible assumption)|assumption)
       have hx7:=bt_at x0_1 (ji4)
       replace p7:=eq_true p7
       replace q7:=eq_true q7
       go_wp2
       go_ret
       exact ⟨by first|rfl|(simp;done)|(simp only [← hji4] <;> (first|rfl|simp))|(simp [*];done),by repeat (first|exact Drawn0.refl _|apply Drawn0.step)⟩
     ·rw [if_neg c6] at H
      exact absurd H (by simp)
    ·rw [if_neg c5] at H
     exact absurd H (by simp)
   ·rw [if_neg c3] at H
    have c3b0 : decide (0 < (x0_1.size : Int)) = false:=decide_eq_false c3
    have c3b1 : decide (0 < x0_1.size) = false:=decide_eq_false (by omega)
    clear c3
    obtain rfl:=Option.some.inj H
    go_wp2
    go_ret
    exact ⟨by first|rfl|(simp;done)|(simp [*];done),by repeat (first|exact Drawn0.refl _|apply Drawn0.step)⟩
mutual
def strings_TrimRight.j0 : Nat → ByteArray → ByteArray → Bool → Option (ByteArray)
 | 0,_,_,_=>none
 | k + 1,x0,x1,x12=>if x12 = true then (some x0) else (if (x1.size : Int) = 1 then (if 0 < (x1.size : Int) then (strings_TrimRight.j1 k x0 x1 (decide ((bt x1 0) < 128))) else (none)) else (strings_TrimRight.j1 k x0 x1 false))
def strings_TrimRight.j1 : Nat → ByteArray → ByteArray → Bool → Option (ByteArray)
 | 0,_,_,_=>none
 | k + 1,x0,x1,x21=>if x21 = true then (if 0 < (x1.size : Int) then ((strings_trimRightByte.f k x0 (bt x1 0)).bind fun t350=>(some t350)) else (none)) else (none)
end
def strings_TrimRight.f (k : Nat) (a0 : ByteArray) (a1 : ByteArray) : Option (ByteArray):=if a0.toList = ([] : List UInt8) then (strings_TrimRight.j0 k a0 a1 true) else (strings_TrimRight.j0 k a0 a1 (a1.toList == ([] : List UInt8)))
theorem strings_TrimRight.mono_l : ∀ k,(∀ y0 y1 y2,LeO (strings_TrimRight.j0 k y0 y1 y2) (strings_TrimRight.j0 (k + 1) y0 y1 y2)) ∧ (∀ y0 y1 y2,LeO (strings_TrimRight.j1 k y0 y1 y2) (strings_TrimRight.j1 (k + 1) y0 y1 y2))
 | 0=>⟨fun _ _ _ r h=>by simp [strings_TrimRight.j0] at h,fun _ _ _ r h=>by simp [strings_TrimRight.j1] at h⟩
 | k + 1=>by
  obtain ⟨ih0,ih1⟩:=strings_TrimRight.mono_l k
  refine ⟨?_,?_⟩
  ·intro y0 y1 y2
   unfold strings_TrimRight.j0
   repeat' first
   | (with_reducible exact ih0 _ _ _)
   | (with_reducible exact ih1 _ _ _)
   | (with_reducible exact strings_trimRightByte.mono _ _ _)
   | (with_reducible exact LeO.refl _)
   | (with_reducible exact LeO.none _)
   | (with_reducible refine LeO.ite ?_ ?_)
   | (with_reducible refine LeO.bind ?_ (fun _=>?_))
   | exact ih0 _ _ _
   | exact ih1 _ _ _
   | exact strings_trimRightByte.mono _ _ _
   | exact LeO.none _
   | refine LeO.ite ?_ ?_
   | refine LeO.bind ?_ (fun _=>?_)
  ·intro y0 y1 y2
   unfold strings_TrimRight.j1
   repeat' first
   | (with_reducible exact ih0 _ _ _)
   | (with_reducible exact ih1 _ _ _)
   | (with_reducible exact strings_trimRightByte.mono _ _ _)
   | (with_reducible exact LeO.refl _)
   | (with_reducible exact LeO.none _)
   | (with_reducible refine LeO.ite ?_ ?_)
   | (with_reducible refine LeO.bind ?_ (fun _=>?_))
   | exact ih0 _ _ _
   | exact ih1 _ _ _
   | exact strings_trimRightByte.mono _ _ _
   | exact LeO.none _
   | refine LeO.ite ?_ ?_
   | refine LeO.bind ?_ (fun _=>?_)
theorem strings_TrimRight.mono : ∀ a0 a1 k,LeO (strings_TrimRight.f k a0 a1) (strings_TrimRight.f (k + 1) a0 a1):=by
 intro a0 a1 k
 obtain ⟨ih0,ih1⟩:=strings_TrimRight.mono_l k
 unfold strings_TrimRight.f
 repeat' first
   | (with_reducible exact ih0 _ _ _)
   | (with_reducible exact ih1 _ _ _)
   | (with_reducible exact strings_trimRightByte.mono _ _ _)
   | (with_reducible exact LeO.refl _)
   | (with_reducible exact LeO.none _)
   | (with_reducible refine LeO.ite ?_ ?_)
   | (with_reducible refine LeO.bind ?_ (fun _=>?_))
   | exact ih0 _ _ _
   | exact ih1 _ _ _
   | exact strings_trimRightByte.mono _ _ _
   | exact LeO.none _
   | refine LeO.ite ?_ ?_
   | refine LeO.bind ?_ (fun _=>?_)
set_option maxHeartbeats 8000000 in
set_option maxRecDepth 100000 in
theorem strings_TrimRight.calls (k : Nat) (a0 : ByteArray) (a1 : ByteArray) (r : ByteArray) (w : World) (h : strings_TrimRight.f k a0 a1 = some r) :
  Calls Tryz.prog 98 #[.string a0,.string a1] w fun e w'=>e = .returned (.string r) ∧ Below w.heap.size w w':=by
 have HB:=Aside0.mk (Below.refl w.heap.size w)
 have H : (if a0.toList = ([] : List UInt8) then (strings_TrimRight.j0 k a0 a1 true) else (strings_TrimRight.j0 k a0 a1 (a1.toList == ([] : List UInt8)))) = some r:=h
 clear h
 have HC3:=Aside0.mk H
 clear H
 go_enter Tryz.func98,Tryz.ntmps98
 go_upto_region 1 with (fail)
 go_cut [12] (fun v12 wc=>∃ (kq : Nat) (x12_2 : Bool),v12 = .bool x12_2 ∧ Aside0 (strings_TrimRight.j0 kq a0 a1 x12_2 = some r) ∧ Aside0 (kq ≤ k) ∧ Aside0 (Below w.heap.size w wc))
 case first =>
  have H:=HC3.out
  clear HC3
  by_cases c4 : a0.toList = ([] : List UInt8)
  ·rw [if_pos c4] at H
   have c4b0 : (a0.toList == ([] : List UInt8)) = true:=beq_iff_eq.mpr c4
   have c4b1 : (a0.toList != ([] : List UInt8)) = false:=bne_eq_false_iff_eq.mpr c4
   clear c4
   (first|rw [c4b0]|(simp only [i64_w,i32_w];rw [c4b0])|skip)
   have H':=Aside0.mk H
   clear H
   go_wp2
   go_meet
   case rel=>exact ⟨_,(true),(by first|rfl|(simp;done)|(simp [*];done)),H',⟨by first|omega|exact Nat.le_refl _⟩,⟨by repeat (first|(with_reducible first|exact HB.out|apply below_alloc|apply pw_below_drewN|apply below_drew1)|exact HB.out)⟩⟩
  ·rw [if_neg c4] at H
   have c4b0 : (a0.toList == ([] : List UInt8)) = false:=beq_eq_false_iff_ne.mpr c4
   have c4b1 : (a0.toList != ([] : List UInt8)) = true:=bne_iff_ne.mpr c4
   (first|rw [c4b0]|(simp only [i64_w,i32_w];rw [c4b0])|skip)
   have H':=Aside0.mk H
   clear H
   go_wp2
   go_meet
   case rel=>exact ⟨_,((a1.toList == ([] : List UInt8))),(by first|rfl|(simp;done)|(simp [*];done)),H',⟨by first|omega|exact Nat.le_refl _⟩,⟨by repeat (first|(with_reducible first|exact HB.out|apply below_alloc|apply pw_below_drewN|apply below_drew1)|exact HB.out)⟩⟩
 case rest =>
  clear HC3
  try clear p2
  try clear c4
  try clear c4b0
  try clear c4b1
  obtain ⟨kq,x12_2,rfl,HA,HJ2,HB⟩:=hcut
  cases kq with
  | zero=>exact absurd HA.out (by simp [strings_TrimRight.j0])
  | succ kj2 =>
   have H:=HA.out
   clear HA
   simp only [strings_TrimRight.j0] at H
   by_cases c5 : x12_2 = true
   ·subst c5
    have H1 : (some a0) = some r:=by rw [if_pos rfl] at H;exact H
    clear H
    have H:=H1
    clear H1
    obtain rfl:=Option.some.inj H
    go_wp2
    go_ret
    exact ⟨by first|rfl|(simp [errW_none,errW_some] <;> rfl)|(simp [*,errW_none,errW_some] <;> rfl),by repeat (first|(with_reducible first|exact HB.out|apply below_alloc|apply pw_below_drewN|apply below_drew1)|exact HB.out)⟩
   ·replace c5:=Bool.eq_false_iff.mpr c5
    subst c5
    have H1 : (if (a1.size : Int) = 1 then (if 0 < (a1.size : Int) then (strings_TrimRight.j1 kj2 a0 a1 (decide ((bt a1 0) < 128))) else (none)) else (strings_TrimRight.j1 kj2 a0 a1 false)) = some r:=by rw [if_neg (show ¬ (false = true) by decide)] at H;exact H
    clear H
    have H:=H1
    clear H1
    have HC6:=Aside0.mk H
    clear H
    go_upto_region 3 with (fail)
    go_cut [21] (fun v21 wc=>∃ (kq : Nat) (x21_5 : Bool),v21 = .bool x21_5 ∧ Aside0 (strings_TrimRight.j1 kq a0 a1 x21_5 = some r) ∧ Aside0 (kq ≤ kj2) ∧ Aside0 (Below w.heap.size w wc))
    case first =>
     have H:=HC6.out
     clear HC6
     by_cases c7 : (a1.size : Int) = 1
     ·rw [if_pos c7] at H
      have c7b0 : ((a1.size : Int) == 1) = true:=beq_iff_eq.mpr c7
      have c7b1 : ((a1.size : Int) != 1) = false:=bne_eq_false_iff_eq.mpr c7
      clear c7
      (first|rw [c7b0]|(simp only [i64_w,i32_w];rw [c7b0])|skip)
      by_cases c8 : 0 < (a1.size : Int)
      ·rw [if_pos c8] at H
       have c8b0 : decide (0 < (a1.size : Int)) = true:=decide_eq_true c8
       have c8b1 : decide (0 < a1.size) = true:=decide_eq_true (by omega)
       clear c8
       have H':=Aside0.mk H
       clear H
       have p9 : 0 ≤ (0 : Int):=(by omega)
       have q9 : 0 < a1.size:=(by have : (0 : Int) < (a1.size : Int):=of_decide_eq_true (by first|(with_reducible assumption)|assumption);omega)
       have hx9 : ∀ h : 0 < a1.size,((a1[0]'h).toNat : Int) = bt a1 0:=bt_at a1 0
       clear p9
       have qi9 : (0 < (a1.size : Int)) = True:=eq_true (of_decide_eq_true (by first|(with_reducible assumption)|assumption))
       replace q9:=eq_true q9
       go_wp2
       go_meet
       case rel=>exact ⟨_,(decide ((bt a1 0) < 128)),(by first|rfl|(simp;done)|(simp [*];done)),H',⟨by have:=HJ2.out;first|omega|exact Nat.le_refl _⟩,⟨by repeat (first|(with_reducible first|exact HB.out|apply below_alloc|apply pw_below_drewN|apply below_drew1)|exact HB.out)⟩⟩
      ·rw [if_neg c8] at H
       exact absurd H (by simp)
     ·rw [if_neg c7] at H
      have c7b0 : ((a1.size : Int) == 1) = false:=beq_eq_false_iff_ne.mpr c7
      have c7b1 : ((a1.size : Int) != 1) = true:=bne_iff_ne.mpr c7
      (first|rw [c7b0]|(simp only [i64_w,i32_w];rw [c7b0])|skip)
      have H':=Aside0.mk H
      clear H
      go_wp2
      go_meet
      case rel=>exact ⟨_,(false),(by first|rfl|(simp;done)|(simp [*];done)),H',⟨by have:=HJ2.out;first|omega|exact Nat.le_refl _⟩,⟨by repeat (first|(with_reducible first|exact HB.out|apply below_alloc|apply pw_below_drewN|apply below_drew1)|exact HB.out)⟩⟩
    case rest =>
     clear HC6
     try clear p2
     try clear c4
     try clear c4b0
     try clear c4b1
     try clear c5
     try clear c7
     try clear c7b0
     try clear c7b1
     try clear c8
     try clear c8b0
     try clear c8b1
     try clear c9
     try clear p9
     try clear q9
     try clear hx9
     try clear qi9
     try clear p2
     try clear p9
     try clear q9
     obtain ⟨kq,x21_5,rfl,HA,HJ5,HB⟩:=hcut
     cases kq with
     | zero=>exact absurd HA.out (by simp [strings_TrimRight.j1])
     | succ kj5 =>
      have H:=HA.out
      clear HA
      simp only [strings_TrimRight.j1] at H
      by_cases c10 : x21_5 = true
      ·subst c10
       have H1 : (if 0 < (a1.size : Int) then ((strings_trimRightByte.f kj5 a0 (bt a1 0)).bind fun t350=>(some t350)) else (none)) = some r:=by rw [if_pos rfl] at H;exact H
       clear H
       have H:=H1
       clear H1
       by_cases c11 : 0 < (a1.size : Int)
       ·rw [if_pos c11] at H
        have c11b0 : decide (0 < (a1.size : Int)) = true:=decide_eq_true c11
        have c11b1 : decide (0 < a1.size) = true:=decide_eq_true (by omega)
        clear c11
        replace H:=Option.bind_eq_some_iff.mp H
        obtain ⟨t350,A130,H⟩:=H
        replace H : (some t350) = some r:=H
        have A13:=Aside0.mk A130
        clear A130
        obtain rfl:=Option.some.inj H
        have p12 : 0 ≤ (0 : Int):=(by omega)
        have q12 : 0 < a1.size:=(by have : (0 : Int) < (a1.size : Int):=of_decide_eq_true (by first|(with_reducible assumption)|assumption);omega)
        have hx12 : ∀ h : 0 < a1.size,((a1[0]'h).toNat : Int) = bt a1 0:=bt_at a1 0
        clear p12
        have qi12 : (0 < (a1.size : Int)) = True:=eq_true (of_decide_eq_true (by first|(with_reducible assumption)|assumption))
        replace q12:=eq_true q12
        go_wp2_with (first|((with_reducible refine gate_callee (f:=119) rfl ?_);refine goesL_ (some 25) rfl rfl Tryz.func119 (by kernel_rfl) rfl #[.string a0,.int .u8 (bt a1 0)] rfl (by (try simp only [List.map_toArray,List.map_cons,List.map_nil]);first|done|rfl|(simp only [List.length_drop,List.length_take];rfl)) ?_;(with_reducible refine (strings_trimRightByte.calls kj5 a0 (bt a1 0) t350 _ A13.out).mono ?_);rintro e w' ⟨rfl,⟨nd,rfl⟩⟩;refine ⟨_,rfl,?_⟩))
        go_ret
        exact ⟨by first|rfl|(simp [errW_none,errW_some] <;> rfl)|(simp [*,errW_none,errW_some] <;> rfl),by repeat (first|(with_reducible first|exact HB.out|apply below_alloc|apply pw_below_drewN|apply below_drew1)|exact HB.out)⟩
       ·rw [if_neg c11] at H
        exact absurd H (by simp)
      ·replace c10:=Bool.eq_false_iff.mpr c10
       subst c10
       have H1 : (none) = some r:=by rw [if_neg (show ¬ (false = true) by decide)] at H;exact H
       clear H
       have H:=H1
       clear H1
       exact absurd H (by simp)
def impl_DecText.j0 : Nat → Int → ByteArray → Option (ByteArray)
 | 0,_,_=>none
 | k + 1,x3,x4=>(strconv_Itoa.f (wrap64 (Int.tdiv x3 1000000))).bind fun t352=>(if x4.size + t352.size ≤ 9223372036854775807 then (if (Int.tmod x3 1000000) > 0 then ((strconv_Itoa.f (wrap64 (1000000 + (Int.tmod x3 1000000)))).bind fun t353=>(if 1 ≤ (t353.size : Int) then ((strings_TrimRight.f k (t353.extract 1 t353.size) (⟨#[48]⟩ : ByteArray)).bind fun t354=>(if 1 + t354.size ≤ 9223372036854775807 then (if (x4 ++ t352).size + ((⟨#[46]⟩ : ByteArray) ++ t354).size ≤ 9223372036854775807 then (some ((x4 ++ t352) ++ ((⟨#[46]⟩ : ByteArray) ++ t354))) else (none)) else (none))) else (none))) else (some (x4 ++ t352))) else (none))
def impl_DecText.f (k : Nat) (a0 : Int) : Option (ByteArray):=(impl_DecOk.f a0).bind fun t351=>(if t351 = true then (if a0 < 0 then (impl_DecText.j0 k (mx a0 (wrap64 (-a0))) (⟨#[45]⟩ : ByteArray)) else (impl_DecText.j0 k (mx a0 (wrap64 (-a0))) (⟨#[]⟩ : ByteArray))) else (some (⟨#[]⟩ : ByteArray)))
theorem impl_DecText.mono_l : ∀ k,(∀ y0 y1,LeO (impl_DecText.j0 k y0 y1) (impl_DecText.j0 (k + 1) y0 y1))
 | 0=>fun _ _ r h=>by simp [impl_DecText.j0] at h
 | k + 1=>by
  have ih0:=impl_DecText.mono_l k
  ·intro y0 y1
   unfold impl_DecText.j0
   repeat' first
   | (with_reducible exact ih0 _ _)
   | (with_reducible exact strings_TrimRight.mono _ _ _)
   | (with_reducible exact LeO.refl _)
   | (with_reducible exact LeO.none _)
   | (with_reducible refine LeO.ite ?_ ?_)
   | (with_reducible refine LeO.bind ?_ (fun _=>?_))
   | exact ih0 _ _
   | exact strings_TrimRight.mono _ _ _
   | exact LeO.none _
   | refine LeO.ite ?_ ?_
   | refine LeO.bind ?_ (fun _=>?_)
theorem impl_DecText.mono : ∀ a0 k,LeO (impl_DecText.f k a0) (impl_DecText.f (k + 1) a0):=by
 intro a0 k
 have ih0:=impl_DecText.mono_l k
 unfold impl_DecText.f
 repeat' first
   | (with_reducible exact ih0 _ _)
   | (with_reducible exact strings_TrimRight.mono _ _ _)
   | (with_reducible exact LeO.refl _)
   | (with_reducible exact LeO.none _)
   | (with_reducible refine LeO.ite ?_ ?_)
   | (with_reducible refine LeO.bind ?_ (fun _=>?_))
   | exact ih0 _ _
   | exact strings_TrimRight.mono _ _ _
   | exact LeO.none _
   | refine LeO.ite ?_ ?_
   | refine LeO.bind ?_ (fun _=>?_)
end Go.Proofs.YtnfiljnncpieoaaGreatDoor.Q
