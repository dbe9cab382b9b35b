/- What the row of FnWords rests on, and the row: for every input that can be read the call returns true and the input reads as it did; condition: what the row lists of the library reads as the program lays it. -/
import Derived.Test.YtnfiljnncpieoaaDoorKFnWordse
set_option linter.unusedVariables false
set_option linter.unusedSimpArgs false
namespace Go.Proofs.YtnfiljnncpieoaaDoor.Q
open Go.RowKit Go.Proofs.YtnfiljnncpieoaaDoorW.PrintWords Go.Proofs.YtnfiljnncpieoaaDoorW.PrintLast Go.Proofs.YtnfiljnncpieoaaDoorW.PrintMore
attribute [local go_sem] max2_int min2_int max_two min_two max_three min_three max_four min_four   -- for this text's walks alone
set_option linter.unusedVariables false
set_option linter.unusedSimpArgs false
set_option maxHeartbeats 8000000 in
set_option maxRecDepth 100000 in
theorem spec_Lex.calls (k : Nat) (a0 : ByteArray) (r1 : List (S60)) (r2 : Int) (w : World) (h : spec_Lex.f k a0 = some (r1,r2)) :
  Calls Tryd.prog 40 #[.string a0] w fun e w'=>∃ v0_ : Value,e = .returned (.tuple #[v0_,.int .i64 r2]) ∧ Kd.R k60 60 w' w.heap.size (fun _=>True) v0_ r1 ∧ Below w.heap.size w w':=by
 have hu60:=Tryd.underlying60
 have HB:=Aside0.mk (Below.refl w.heap.size w)
 have H : (if (a0.size : Int) > 4000 then (some (([] : List (S60)),0)) else ((spec_l3blank.f k a0 0).bind fun t815=>(spec_Lex.l0 k a0 ([] : List (S60)) t815))) = some (r1,r2):=h
 clear h
 by_cases c2 : (a0.size : Int) > 4000
 ·rw [if_pos c2] at H
  have c2b0 : decide (4000 < (a0.size : Int)) = true:=decide_eq_true c2
  have c2b1 : decide (4000 < a0.size) = true:=decide_eq_true (by omega)
  clear c2
  simp only [Option.some.injEq,Prod.mk.injEq] at H
  obtain ⟨rfl,rfl⟩:=H
  go_enter Tryd.func40,Tryd.ntmps40
  go_wp2
  go_ret2
  exact ⟨_,by first|rfl|(simp [errW_none,errW_some] <;> rfl)|(simp [*,errW_none,errW_some] <;> rfl),by first|exact Kd.R_nil _ _ _ _ _|exact Kd.N_nil _ _ _ _ _|exact Kd.V_nil _ _ _ _ _|exact Kd.Q_nil _ _ _ _ _|exact Kd.S_nil _ _ _ _ _,by repeat (first|(with_reducible first|exact HB.out|apply below_alloc|apply pw_below_drewN|apply below_drew1)|exact HB.out)⟩
 ·rw [if_neg c2] at H
  have c2b0 : decide (4000 < (a0.size : Int)) = false:=decide_eq_false c2
  have c2b1 : decide (4000 < a0.size) = false:=decide_eq_false (by omega)
  clear c2
  replace H:=Option.bind_eq_some_iff.mp H
  obtain ⟨t815,A30,H⟩:=H
  replace H : (spec_Lex.l0 k a0 ([] : List (S60)) t815) = some (r1,r2):=H
  have A3:=Aside0.mk A30
  clear A30
  have H':=Aside0.mk H
  clear H
  go_enter Tryd.func40,Tryd.ntmps40
  go_wp2_with (first|((with_reducible refine gate_callee (f:=79) rfl ?_);refine goesL_ (some 12) rfl rfl Tryd.func79 (by kernel_rfl) rfl #[.string a0,.int .i64 0] rfl (by (try simp only [List.map_toArray,List.map_cons,List.map_nil]);first|done|rfl|(simp only [List.length_drop,List.length_take];rfl)) ?_;(with_reducible refine (spec_l3blank.calls k a0 0 t815 _ A3.out).mono ?_);rintro e w' ⟨rfl,⟨nd,rfl⟩⟩;refine ⟨_,rfl,?_⟩))
  go_loopg [4,5] k (fun kq v4 v5 w'=>∃ (x4_1 : List (S60)) (x5_1 : Int),v5 = .int .i64 x5_1 ∧ Aside0 (spec_Lex.l0 kq a0 x4_1 x5_1 = some (r1,r2)) ∧ Aside0 (kq ≤ k) ∧ Aside0 (Kd.R k60 60 w' w.heap.size (fun _=>True) v4 x4_1) ∧ Aside0 (Below w.heap.size w w'))
  case atStart=>exact ⟨(([] : List (S60))),(t815),(by first|rfl|(simp;done)|(simp [*];done)),H',⟨Nat.le_refl _⟩,⟨by first|exact Kd.R_nil _ _ _ _ _|exact Kd.N_nil _ _ _ _ _|exact Kd.V_nil _ _ _ _ _|exact Kd.Q_nil _ _ _ _ _|exact Kd.S_nil _ _ _ _ _⟩,⟨by repeat (first|(with_reducible first|exact HB.out|apply below_alloc|apply pw_below_drewN|apply below_drew1)|exact HB.out)⟩⟩
  case round =>
   clear H'
   try clear c2
   try clear c2b0
   try clear c2b1
   try clear p2
   obtain ⟨x4_1,x5_1,rfl,HA,HK1,HO_4,HB⟩:=hrel
   cases gk with
   | zero=>exact absurd HA.out (by simp [spec_Lex.l0])
   | succ k1 =>
    have H:=HA.out
    clear HA
    simp only [spec_Lex.l0] at H
    by_cases c4 : x5_1 < (a0.size : Int)
    ·rw [if_pos c4] at H
     have c4b0 : decide (x5_1 < (a0.size : Int)) = true:=decide_eq_true c4
     clear c4
     by_cases c5 : 0 ≤ x5_1
     ·rw [if_pos c5] at H
      have c5b0 : decide (0 ≤ x5_1) = true:=decide_eq_true c5
      clear c5
      replace H:=Option.bind_eq_some_iff.mp H
      obtain ⟨t817,A70,H⟩:=H
      replace H : (if t817 = true then ((spec_l3num.f k1 a0 x5_1).bind fun bt818=>(if bt818.2.2.2.2 < 0 then (some (([] : List (S60)),x5_1)) else (if x4_1.length < 3518437208883 then ((spec_l3blank.f k1 a0 bt818.2.2.2.2).bind fun t826=>(spec_Lex.l0 k1 a0 (x4_1 ++ [(⟨bt818.1,bt818.2.1,bt818.2.2.1,bt818.2.2.2.1⟩ : S60)]) t826)) else (none)))) else (if (bt a0 x5_1) = 34 then ((spec_l3str.f k1 a0 x5_1).bind fun bt827=>(if bt827.2.2.2.2 < 0 then (some (([] : List (S60)),x5_1)) else (if x4_1.length < 3518437208883 then ((spec_l3blank.f k1 a0 bt827.2.2.2.2).bind fun t835=>(spec_Lex.l0 k1 a0 (x4_1 ++ [(⟨bt827.1,bt827.2.1,bt827.2.2.1,bt827.2.2.2.1⟩ : S60)]) t835)) else (none)))) else ((spec_l3letter.f (bt a0 x5_1)).bind fun t836=>(if t836 = true then ((spec_l3name.f k1 a0 x5_1).bind fun bt837=>(if bt837.2.2.2.2 < 0 then (some (([] : List (S60)),x5_1)) else (if x4_1.length < 3518437208883 then ((spec_l3blank.f k1 a0 bt837.2.2.2.2).bind fun t845=>(spec_Lex.l0 k1 a0 (x4_1 ++ [(⟨bt837.1,bt837.2.1,bt837.2.2.1,bt837.2.2.2.1⟩ : S60)]) t845)) else (none)))) else (if (bt a0 x5_1) = 47 then ((spec_l3operand.f x4_1).bind fun t846=>(spec_Lex.j1 k1 a0 x4_1 x5_1 (!t846))) else (spec_Lex.j1 k1 a0 x4_1 x5_1 false)))))) = some (r1,r2):=H
      have A7:=Aside0.mk A70
      clear A70
      by_cases c8 : t817 = true
      ·subst c8
       have H1 : ((spec_l3num.f k1 a0 x5_1).bind fun bt818=>(if bt818.2.2.2.2 < 0 then (some (([] : List (S60)),x5_1)) else (if x4_1.length < 3518437208883 then ((spec_l3blank.f k1 a0 bt818.2.2.2.2).bind fun t826=>(spec_Lex.l0 k1 a0 (x4_1 ++ [(⟨bt818.1,bt818.2.1,bt818.2.2.1,bt818.2.2.2.1⟩ : S60)]) t826)) else (none)))) = some (r1,r2):=by rw [if_pos rfl] at H;exact H
       clear H
       have H:=H1
       clear H1
       replace H:=Option.bind_eq_some_iff.mp H
       obtain ⟨⟨t818,t819,t820,t821,t822⟩,A90,H⟩:=H
       replace H : (if t822 < 0 then (some (([] : List (S60)),x5_1)) else (if x4_1.length < 3518437208883 then ((spec_l3blank.f k1 a0 t822).bind fun t826=>(spec_Lex.l0 k1 a0 (x4_1 ++ [(⟨t818,t819,t820,t821⟩ : S60)]) t826)) else (none))) = some (r1,r2):=H
       have A9:=Aside0.mk A90
       clear A90
       by_cases c10 : t822 < 0
       ·rw [if_pos c10] at H
        have c10b0 : decide (t822 < 0) = true:=decide_eq_true c10
        clear c10
        simp only [Option.some.injEq,Prod.mk.injEq] at H
        obtain ⟨rfl,rfl⟩:=H
        go_wp2_with (first|((with_reducible refine gate_dst (N:=6) rfl ?_);refine box_event ?hg (N:=6) ?hd (cs:=#[.int .i64 0,.string (⟨#[]⟩ : ByteArray),.int .i64 0,.int .i64 0]) (t:=60) ?hr ?_;(case hd=>rfl);(case hg=>rfl);(case hr=>first|(go_simp;done)|(go_simp;rfl));intro gb816 hg w11 hbox hb;have n0_:=Aside0.mk (Kd.R_below (Kd.R_elderB (by (with_reducible repeat (first|apply Kd.R_alloc|apply Kd.R_drewN|apply Kd.R_drew));exact HO_4.out) gb816 (Nat.le_of_eq hg.symm)) hb);have n1_:=Aside0.mk (below_step (by repeat (first|(with_reducible first|exact HB.out|apply below_alloc|apply pw_below_drewN|apply below_drew1)|exact HB.out)) hb);have n2_:=Aside0.mk (hbox);have n3_:=Aside0.mk ((by rw [hg];exact (below_size (by repeat (first|(with_reducible first|exact HB.out|apply below_alloc|apply pw_below_drewN|apply below_drew1)|exact HB.out))) : w.heap.size ≤ gb816));have n4_:=Aside0.mk ((by rw [hg];exact (below_size (by repeat (first|(with_reducible first|exact HB.out|apply below_alloc|apply pw_below_drewN|apply below_drew1)|exact HB.out))) : w.heap.size ≤ gb816));clear HO_4;clear HB;have HO_4:=n0_;have HB:=n1_;have BK816:=n2_;have GW816:=n3_;have GE816:=n4_;clear n0_ n1_ n2_ n3_ n4_;clear hb hbox hg;have p6 : 0 ≤ (x5_1 : Int):=of_decide_eq_true (by first|(with_reducible assumption)|assumption);have q6 : x5_1 < (a0.size : Int):=of_decide_eq_true (by first|(with_reducible assumption)|assumption);have hx6:=bt_at a0 x5_1;replace p6:=eq_true p6;replace q6:=eq_true q6)|((with_reducible refine gate_callee (f:=54) rfl ?_);refine goesL_ (some 27) rfl rfl Tryd.func54 (by kernel_rfl) rfl #[.int .u8 (bt a0 x5_1)] rfl (by (try simp only [List.map_toArray,List.map_cons,List.map_nil]);first|done|rfl|(simp only [List.length_drop,List.length_take];rfl)) ?_;(with_reducible refine (spec_l1digit.calls (bt a0 x5_1) true _ A7.out).mono ?_);rintro e w' ⟨rfl,⟨nd,rfl⟩⟩;refine ⟨_,rfl,?_⟩;(try (rw [drewN_self w11];generalize hq_ : World.drewN w11 _ = w11;have n0_ : Aside0 (Kd.R k60 60 w11 w.heap.size (fun k_=>k_ ≠ gb816) u4 x4_1):=⟨by rw [← hq_];exact (by (with_reducible repeat (first|apply Kd.R_alloc|apply Kd.R_drewN|apply Kd.R_drew));exact Kd.R_mono HO_4.out (fun _ hk=>hk.2))⟩;have n1_ : Aside0 (w11.heap[gb816]? = some (.cells #[.int .i64 0,.string (⟨#[]⟩ : ByteArray),.int .i64 0,.int .i64 0] 60 (0,0))):=⟨by rw [← hq_];exact (by (with_reducible repeat (first|refine blk_drewN ?_ _|refine blk_drew ?_|refine blk_alloc ?_ _));exact BK816.out)⟩;have n2_ : Aside0 (Below w.heap.size w w11):=⟨by rw [← hq_];exact (by repeat (first|(with_reducible first|exact HB.out|apply below_alloc|apply pw_below_drewN|apply below_drew1|refine below_set ?_ GE816.out)|exact HB.out))⟩;clear HO_4 BK816 HB hq_;have HO_4:=n0_;have BK816:=n1_;have HB:=n2_;clear n0_ n1_ n2_)))|((with_reducible refine gate_callee (f:=80) rfl ?_);refine goesL_ (some 31) rfl rfl Tryd.func80 (by kernel_rfl) rfl #[.string a0,.int .i64 x5_1] rfl (by (try simp only [List.map_toArray,List.map_cons,List.map_nil]);first|done|rfl|(simp only [List.length_drop,List.length_take];rfl)) ?_;(with_reducible refine (spec_l3num.calls k1 a0 x5_1 t818 t819 t820 t821 t822 _ A9.out).mono ?_);rintro e w12 ⟨rfl,hb⟩;refine ⟨_,rfl,?_⟩;have n0_:=Aside0.mk (Kd.R_below (by (with_reducible repeat (first|apply Kd.R_alloc|apply Kd.R_drewN|apply Kd.R_drew));exact HO_4.out) hb);have n1_:=Aside0.mk (blk_below (g:=gb816) (o:=.cells #[.int .i64 0,.string (⟨#[]⟩ : ByteArray),.int .i64 0,.int .i64 0] 60 (0,0)) (by (with_reducible repeat (first|refine blk_drewN ?_ _|refine blk_drew ?_|refine blk_alloc ?_ _));exact BK816.out) hb);have n2_:=Aside0.mk (below_step (by repeat (first|(with_reducible first|exact HB.out|apply below_alloc|apply pw_below_drewN|apply below_drew1|refine below_set ?_ GE816.out)|exact HB.out)) hb);clear HO_4;clear BK816;clear HB;have HO_4:=n0_;have BK816:=n1_;have HB:=n2_;clear n0_ n1_ n2_;(try clear hb);(try clear hb2);(try clear hk);(try clear hi);have hcz13_0 : w12.cell? ⟨gb816,0,none⟩ = some (.int .i64 0):=(blk_cell BK816.out 0).trans rfl;have hcz13_1 : w12.cell? ⟨gb816,1,none⟩ = some (.string (⟨#[]⟩ : ByteArray)):=(blk_cell BK816.out 1).trans rfl;have hcz13_2 : w12.cell? ⟨gb816,2,none⟩ = some (.int .i64 0):=(blk_cell BK816.out 2).trans rfl;have hcz13_3 : w12.cell? ⟨gb816,3,none⟩ = some (.int .i64 0):=(blk_cell BK816.out 3).trans rfl;have hfz13_0:=blk_frozen BK816.out 0;have hfz13_1:=blk_frozen BK816.out 1;have hfz13_2:=blk_frozen BK816.out 2;have hfz13_3:=blk_frozen BK816.out 3))
        go_ret2
        exact ⟨_,by first|rfl|(simp [errW_none,errW_some] <;> rfl)|(simp [*,errW_none,errW_some] <;> rfl),by first|exact Kd.R_nil _ _ _ _ _|exact Kd.N_nil _ _ _ _ _|exact Kd.V_nil _ _ _ _ _|exact Kd.Q_nil _ _ _ _ _|exact Kd.S_nil _ _ _ _ _,by repeat (first|(with_reducible first|exact HB.out|apply below_alloc|apply pw_below_drewN|apply below_drew1|refine below_set ?_ GE816.out)|exact HB.out)⟩
       ·rw [if_neg c10] at H
        have c10b0 : decide (t822 < 0) = false:=decide_eq_false c10
        clear c10
        by_cases c14 : x4_1.length < 3518437208883
        ·rw [if_pos c14] at H
         have LMc14:=Aside0.mk c14
         clear c14
         obtain ⟨y823,hy823⟩ : ∃ y_ : List (S60),y_ = (x4_1 ++ [(⟨t818,t819,t820,t821⟩ : S60)]):=⟨_,rfl⟩
         replace H : ((spec_l3blank.f k1 a0 t822).bind fun t826=>(spec_Lex.l0 k1 a0 y823 t826)) = some (r1,r2):=by first|(rw [hy823];with_reducible exact H)|(have H2_:=(Option.bind_some _ _).symm.trans H;rw [hy823];with_reducible exact H2_)|(have H2_:=(Option.bind_some _ _).symm.trans H;with_reducible exact H2_)|with_reducible exact H|(rw [hy823];exact H)|exact H
         have Ny823:=Aside0.mk hy823
         clear hy823
         replace H:=Option.bind_eq_some_iff.mp H
         obtain ⟨t826,A150,H⟩:=H
         replace H : (spec_Lex.l0 k1 a0 y823 t826) = some (r1,r2):=H
         have A15:=Aside0.mk A150
         clear A150
         have H':=Aside0.mk H
         clear H
         go_wp2_with (first|((with_reducible refine gate_dst (N:=6) rfl ?_);refine box_event ?hg (N:=6) ?hd (cs:=#[.int .i64 0,.string (⟨#[]⟩ : ByteArray),.int .i64 0,.int .i64 0]) (t:=60) ?hr ?_;(case hd=>rfl);(case hg=>rfl);(case hr=>first|(go_simp;done)|(go_simp;rfl));intro gb816 hg w16 hbox hb;have n0_:=Aside0.mk (Kd.R_below (Kd.R_elderB (by (with_reducible repeat (first|apply Kd.R_alloc|apply Kd.R_drewN|apply Kd.R_drew));exact HO_4.out) gb816 (Nat.le_of_eq hg.symm)) hb);have n1_:=Aside0.mk (below_step (by repeat (first|(with_reducible first|exact HB.out|apply below_alloc|apply pw_below_drewN|apply below_drew1)|exact HB.out)) hb);have n2_:=Aside0.mk (hbox);have n3_:=Aside0.mk ((by rw [hg];exact (below_size (by repeat (first|(with_reducible first|exact HB.out|apply below_alloc|apply pw_below_drewN|apply below_drew1)|exact HB.out))) : w.heap.size ≤ gb816));have n4_:=Aside0.mk ((by rw [hg];exact (below_size (by repeat (first|(with_reducible first|exact HB.out|apply below_alloc|apply pw_below_drewN|apply below_drew1)|exact HB.out))) : w.heap.size ≤ gb816));clear HO_4;clear HB;have HO_4:=n0_;have HB:=n1_;have BK816:=n2_;have GW816:=n3_;have GE816:=n4_;clear n0_ n1_ n2_ n3_ n4_;clear hb hbox hg;have p6 : 0 ≤ (x5_1 : Int):=of_decide_eq_true (by first|(with_reducible assumption)|assumption);have q6 : x5_1 < (a0.size : Int):=of_decide_eq_true (by first|(with_reducible assumption)|assumption);have hx6:=bt_at a0 x5_1;replace p6:=eq_true p6;replace q6:=eq_true q6)|((with_reducible refine gate_callee (f:=54) rfl ?_);refine goesL_ (some 27) rfl rfl Tryd.func54 (by kernel_rfl) rfl #[.int .u8 (bt a0 x5_1)] rfl (by (try simp only [List.map_toArray,List.map_cons,List.map_nil]);first|done|rfl|(simp only [List.length_drop,List.length_take];rfl)) ?_;(with_reducible refine (spec_l1digit.calls (bt a0 x5_1) true _ A7.out).mono ?_);rintro e w' ⟨rfl,⟨nd,rfl⟩⟩;refine ⟨_,rfl,?_⟩;(try (rw [drewN_self w16];generalize hq_ : World.drewN w16 _ = w16;have n0_ : Aside0 (Kd.R k60 60 w16 w.heap.size (fun k_=>k_ ≠ gb816) u4 x4_1):=⟨by rw [← hq_];exact (by (with_reducible repeat (first|apply Kd.R_alloc|apply Kd.R_drewN|apply Kd.R_drew));exact Kd.R_mono HO_4.out (fun _ hk=>hk.2))⟩;have n1_ : Aside0 (w16.heap[gb816]? = some (.cells #[.int .i64 0,.string (⟨#[]⟩ : ByteArray),.int .i64 0,.int .i64 0] 60 (0,0))):=⟨by rw [← hq_];exact (by (with_reducible repeat (first|refine blk_drewN ?_ _|refine blk_drew ?_|refine blk_alloc ?_ _));exact BK816.out)⟩;have n2_ : Aside0 (Below w.heap.size w w16):=⟨by rw [← hq_];exact (by repeat (first|(with_reducible first|exact HB.out|apply below_alloc|apply pw_below_drewN|apply below_drew1|refine below_set ?_ GE816.out)|exact HB.out))⟩;clear HO_4 BK816 HB hq_;have HO_4:=n0_;have BK816:=n1_;have HB:=n2_;clear n0_ n1_ n2_)))|((with_reducible refine gate_callee (f:=80) rfl ?_);refine goesL_ (some 31) rfl rfl Tryd.func80 (by kernel_rfl) rfl #[.string a0,.int .i64 x5_1] rfl (by (try simp only [List.map_toArray,List.map_cons,List.map_nil]);first|done|rfl|(simp only [List.length_drop,List.length_take];rfl)) ?_;(with_reducible refine (spec_l3num.calls k1 a0 x5_1 t818 t819 t820 t821 t822 _ A9.out).mono ?_);rintro e w17 ⟨rfl,hb⟩;refine ⟨_,rfl,?_⟩;have n0_:=Aside0.mk (Kd.R_below (by (with_reducible repeat (first|apply Kd.R_alloc|apply Kd.R_drewN|apply Kd.R_drew));exact HO_4.out) hb);have n1_:=Aside0.mk (blk_below (g:=gb816) (o:=.cells #[.int .i64 0,.string (⟨#[]⟩ : ByteArray),.int .i64 0,.int .i64 0] 60 (0,0)) (by (with_reducible repeat (first|refine blk_drewN ?_ _|refine blk_drew ?_|refine blk_alloc ?_ _));exact BK816.out) hb);have n2_:=Aside0.mk (below_step (by repeat (first|(with_reducible first|exact HB.out|apply below_alloc|apply pw_below_drewN|apply below_drew1|refine below_set ?_ GE816.out)|exact HB.out)) hb);clear HO_4;clear BK816;clear HB;have HO_4:=n0_;have BK816:=n1_;have HB:=n2_;clear n0_ n1_ n2_;(try clear hb);(try clear hb2);(try clear hk);(try clear hi);have hcz18_0 : w17.cell? ⟨gb816,0,none⟩ = some (.int .i64 0):=(blk_cell BK816.out 0).trans rfl;have hcz18_1 : w17.cell? ⟨gb816,1,none⟩ = some (.string (⟨#[]⟩ : ByteArray)):=(blk_cell BK816.out 1).trans rfl;have hcz18_2 : w17.cell? ⟨gb816,2,none⟩ = some (.int .i64 0):=(blk_cell BK816.out 2).trans rfl;have hcz18_3 : w17.cell? ⟨gb816,3,none⟩ = some (.int .i64 0):=(blk_cell BK816.out 3).trans rfl;have hfz18_0:=blk_frozen BK816.out 0;have hfz18_1:=blk_frozen BK816.out 1;have hfz18_2:=blk_frozen BK816.out 2;have hfz18_3:=blk_frozen BK816.out 3)|((with_reducible refine gate_builtin (b:=.append) (xs:=#[.tmp 75,.tmp 77]) rfl ?_);at_builtin;refine Kd.R_append k60 (w0:=w) w.heap.size rfl (.tmp 75) (.tmp 77) 55 60 (.agg #[(.int .i64 0),(.string ⟨#[]⟩),(.int .i64 0),(.int .i64 0)]) 40 rfl Tryd.underlying55 info60 rfl (by decide) (by omega) u4 x4_1 (⟨t818,t819,t820,t821⟩ : S60) [.int .i64 t818,.string t819,.int .i64 t820,.int .i64 t821] (fun k_=>k_ ≠ gb816) (fun _=>False) rfl (by first|(go_simp;done)|(go_simp;rfl)) ?aP (fun _ hk=>hk.elim) ?aF ?aO ?aB ?aS ?aL ?_;(case aP=>exact k60_mkM _ _ _ (⟨t818,t819,t820,t821⟩ : S60));(case aB=>exact (by repeat (first|(with_reducible first|exact HB.out|apply below_alloc|apply pw_below_drewN|apply below_drew1|refine below_set ?_ GE816.out)|exact HB.out)));(case aF=>exact (fun k_ hk=>Kd.freshB (g:=gb816) (o:=.cells #[.int .i64 t818,.string t819,.int .i64 t820,.int .i64 t821] 60 (0,0)) (by (with_reducible repeat (first|refine blk_drewN ?_ _|refine blk_drew ?_|refine blk_alloc ?_ _));refine blk_put (cs:=#[.int .i64 t818,.string t819,.int .i64 t820,.int .i64 0]) ?_ 3 _ rfl;(with_reducible repeat (first|refine blk_drewN ?_ _|refine blk_drew ?_|refine blk_alloc ?_ _));refine blk_put (cs:=#[.int .i64 t818,.string t819,.int .i64 0,.int .i64 0]) ?_ 2 _ rfl;(with_reducible repeat (first|refine blk_drewN ?_ _|refine blk_drew ?_|refine blk_alloc ?_ _));refine blk_put (cs:=#[.int .i64 t818,.string (⟨#[]⟩ : ByteArray),.int .i64 0,.int .i64 0]) ?_ 1 _ rfl;(with_reducible repeat (first|refine blk_drewN ?_ _|refine blk_drew ?_|refine blk_alloc ?_ _));refine blk_put (cs:=#[.int .i64 0,.string (⟨#[]⟩ : ByteArray),.int .i64 0,.int .i64 0]) ?_ 0 _ rfl;(with_reducible repeat (first|refine blk_drewN ?_ _|refine blk_drew ?_|refine blk_alloc ?_ _));exact BK816.out) k_ hk));(case aO=>exact (by (with_reducible repeat (first|apply Kd.R_alloc|apply Kd.R_drewN|apply Kd.R_drew));exact Kd.R_mono (Kd.R_far (p:=⟨gb816,3,none⟩) (Kd.R_far (p:=⟨gb816,2,none⟩) (Kd.R_far (p:=⟨gb816,1,none⟩) (Kd.R_far (p:=⟨gb816,0,none⟩) (Kd.R_mono HO_4.out (fun k_ hk=>(⟨hk,(by first|exact hk.2|exact hk)⟩ : _ ∧ k_ ≠ gb816))) (fun _ hk=>hk.2) (.int .i64 t818)) (fun _ hk=>hk.2) (.string t819)) (fun _ hk=>hk.2) (.int .i64 t820)) (fun _ hk=>hk.2) (.int .i64 t821)) (fun _ hk=>by first|exact hk.1.2|exact hk.2)));(case aS=>exact (below_size (by repeat (first|(with_reducible first|exact HB.out|apply below_alloc|apply pw_below_drewN|apply below_drew1|refine below_set ?_ GE816.out)|exact HB.out))));(case aL=>have:=LMc14.out;omega);intro v824 w19 ho hb hg hat;rw [← Ny823.out] at ho;have n0_:=Aside0.mk (blk_grown (g:=gb816) (o:=.cells #[.int .i64 t818,.string t819,.int .i64 t820,.int .i64 t821] 60 (0,0)) (by (with_reducible repeat (first|refine blk_drewN ?_ _|refine blk_drew ?_|refine blk_alloc ?_ _));refine blk_put (cs:=#[.int .i64 t818,.string t819,.int .i64 t820,.int .i64 0]) ?_ 3 _ rfl;(with_reducible repeat (first|refine blk_drewN ?_ _|refine blk_drew ?_|refine blk_alloc ?_ _));refine blk_put (cs:=#[.int .i64 t818,.string t819,.int .i64 0,.int .i64 0]) ?_ 2 _ rfl;(with_reducible repeat (first|refine blk_drewN ?_ _|refine blk_drew ?_|refine blk_alloc ?_ _));refine blk_put (cs:=#[.int .i64 t818,.string (⟨#[]⟩ : ByteArray),.int .i64 0,.int .i64 0]) ?_ 1 _ rfl;(with_reducible repeat (first|refine blk_drewN ?_ _|refine blk_drew ?_|refine blk_alloc ?_ _));refine blk_put (cs:=#[.int .i64 0,.string (⟨#[]⟩ : ByteArray),.int .i64 0,.int .i64 0]) ?_ 0 _ rfl;(with_reducible repeat (first|refine blk_drewN ?_ _|refine blk_drew ?_|refine blk_alloc ?_ _));exact BK816.out) hg (Kd.R_away HO_4.out (fun _ hk=>by first|exact hk.2|exact hk)));have n1_:=Aside0.mk (hb);have n2_:=Aside0.mk (ho);clear BK816;clear HB;clear HO_4;have BK816:=n0_;have HB:=n1_;have HO825:=n2_;clear n0_ n1_ n2_;clear ho hb hg hat)|((with_reducible refine gate_callee (f:=79) rfl ?_);refine goesL_ (some 81) rfl rfl Tryd.func79 (by kernel_rfl) rfl #[.string a0,.int .i64 t822] rfl (by (try simp only [List.map_toArray,List.map_cons,List.map_nil]);first|done|rfl|(simp only [List.length_drop,List.length_take];rfl)) ?_;(with_reducible refine (spec_l3blank.calls k1 a0 t822 t826 _ A15.out).mono ?_);rintro e w' ⟨rfl,⟨nd,rfl⟩⟩;refine ⟨_,rfl,?_⟩))
         go_roundg k1
         case measure=>have:=HK1.out;omega
         case rel=>exact ⟨(y823),(t826),(by first|rfl|(simp;done)|(simp [*];done)),H',⟨by have:=HK1.out;omega⟩,⟨by (with_reducible repeat (first|apply Kd.R_alloc|apply Kd.R_drewN|apply Kd.R_drew));exact Kd.R_mono HO825.out (fun _ hk=>trivial)⟩,⟨by repeat (first|(with_reducible first|exact HB.out|apply below_alloc|apply pw_below_drewN|apply below_drew1|refine below_set ?_ GE816.out)|exact HB.out)⟩⟩
        ·rw [if_neg c14] at H
         exact absurd H (by simp)
      ·replace c8:=Bool.eq_false_iff.mpr c8
       subst c8
       have H1 : (if (bt a0 x5_1) = 34 then ((spec_l3str.f k1 a0 x5_1).bind fun bt827=>(if bt827.2.2.2.2 < 0 then (some (([] : List (S60)),x5_1)) else (if x4_1.length < 3518437208883 then ((spec_l3blank.f k1 a0 bt827.2.2.2.2).bind fun t835=>(spec_Lex.l0 k1 a0 (x4_1 ++ [(⟨bt827.1,bt827.2.1,bt827.2.2.1,bt827.2.2.2.1⟩ : S60)]) t835)) else (none)))) else ((spec_l3letter.f (bt a0 x5_1)).bind fun t836=>(if t836 = true then ((spec_l3name.f k1 a0 x5_1).bind fun bt837=>(if bt837.2.2.2.2 < 0 then (some (([] : List (S60)),x5_1)) else (if x4_1.length < 3518437208883 then ((spec_l3blank.f k1 a0 bt837.2.2.2.2).bind fun t845=>(spec_Lex.l0 k1 a0 (x4_1 ++ [(⟨bt837.1,bt837.2.1,bt837.2.2.1,bt837.2.2.2.1⟩ : S60)]) t845)) else (none)))) else (if (bt a0 x5_1) = 47 then ((spec_l3operand.f x4_1).bind fun t846=>(spec_Lex.j1 k1 a0 x4_1 x5_1 (!t846))) else (spec_Lex.j1 k1 a0 x4_1 x5_1 false))))) = some (r1,r2):=by rw [if_neg (show ¬ (false = true) by decide)] at H;exact H
       clear H
       have H:=H1
       clear H1
       by_cases c21 : (bt a0 x5_1) = 34
       ·rw [if_pos c21] at H
        have c21b0 : ((bt a0 x5_1) == 34) = true:=beq_iff_eq.mpr c21
        have c21b1 : ((bt a0 x5_1) != 34) = false:=bne_eq_false_iff_eq.mpr c21
        clear c21
        replace H:=Option.bind_eq_some_iff.mp H
        obtain ⟨⟨t827,t828,t829,t830,t831⟩,A220,H⟩:=H
        replace H : (if t831 < 0 then (some (([] : List (S60)),x5_1)) else (if x4_1.length < 3518437208883 then ((spec_l3blank.f k1 a0 t831).bind fun t835=>(spec_Lex.l0 k1 a0 (x4_1 ++ [(⟨t827,t828,t829,t830⟩ : S60)]) t835)) else (none))) = some (r1,r2):=H
        have A22:=Aside0.mk A220
        clear A220
        by_cases c23 : t831 < 0
        ·rw [if_pos c23] at H
         have c23b0 : decide (t831 < 0) = true:=decide_eq_true c23
         clear c23
         simp only [Option.some.injEq,Prod.mk.injEq] at H
         obtain ⟨rfl,rfl⟩:=H
         go_wp2_with (first|((with_reducible refine gate_dst (N:=6) rfl ?_);refine box_event ?hg (N:=6) ?hd (cs:=#[.int .i64 0,.string (⟨#[]⟩ : ByteArray),.int .i64 0,.int .i64 0]) (t:=60) ?hr ?_;(case hd=>rfl);(case hg=>rfl);(case hr=>first|(go_simp;done)|(go_simp;rfl));intro gb816 hg w24 hbox hb;have n0_:=Aside0.mk (Kd.R_below (Kd.R_elderB (by (with_reducible repeat (first|apply Kd.R_alloc|apply Kd.R_drewN|apply Kd.R_drew));exact HO_4.out) gb816 (Nat.le_of_eq hg.symm)) hb);have n1_:=Aside0.mk (below_step (by repeat (first|(with_reducible first|exact HB.out|apply below_alloc|apply pw_below_drewN|apply below_drew1)|exact HB.out)) hb);have n2_:=Aside0.mk (hbox);have n3_:=Aside0.mk ((by rw [hg];exact (below_size (by repeat (first|(with_reducible first|exact HB.out|apply below_alloc|apply pw_below_drewN|apply below_drew1)|exact HB.out))) : w.heap.size ≤ gb816));have n4_:=Aside0.mk ((by rw [hg];exact (below_size (by repeat (first|(with_reducible first|exact HB.out|apply below_alloc|apply pw_below_drewN|apply below_drew1)|exact HB.out))) : w.heap.size ≤ gb816));clear HO_4;clear HB;have HO_4:=n0_;have HB:=n1_;have BK816:=n2_;have GW816:=n3_;have GE816:=n4_;clear n0_ n1_ n2_ n3_ n4_;clear hb hbox hg;have p6 : 0 ≤ (x5_1 : Int):=of_decide_eq_true (by first|(with_reducible assumption)|assumption);have q6 : x5_1 < (a0.size : Int):=of_decide_eq_true (by first|(with_reducible assumption)|assumption);have hx6:=bt_at a0 x5_1;replace p6:=eq_true p6;replace q6:=eq_true q6)|((with_reducible refine gate_callee (f:=54) rfl ?_);refine goesL_ (some 27) rfl rfl Tryd.func54 (by kernel_rfl) rfl #[.int .u8 (bt a0 x5_1)] rfl (by (try simp only [List.map_toArray,List.map_cons,List.map_nil]);first|done|rfl|(simp only [List.length_drop,List.length_take];rfl)) ?_;(with_reducible refine (spec_l1digit.calls (bt a0 x5_1) false _ A7.out).mono ?_);rintro e w' ⟨rfl,⟨nd,rfl⟩⟩;refine ⟨_,rfl,?_⟩;(try (rw [drewN_self w24];generalize hq_ : World.drewN w24 _ = w24;have n0_ : Aside0 (Kd.R k60 60 w24 w.heap.size (fun k_=>k_ ≠ gb816) u4 x4_1):=⟨by rw [← hq_];exact (by (with_reducible repeat (first|apply Kd.R_alloc|apply Kd.R_drewN|apply Kd.R_drew));exact Kd.R_mono HO_4.out (fun _ hk=>hk.2))⟩;have n1_ : Aside0 (w24.heap[gb816]? = some (.cells #[.int .i64 0,.string (⟨#[]⟩ : ByteArray),.int .i64 0,.int .i64 0] 60 (0,0))):=⟨by rw [← hq_];exact (by (with_reducible repeat (first|refine blk_drewN ?_ _|refine blk_drew ?_|refine blk_alloc ?_ _));exact BK816.out)⟩;have n2_ : Aside0 (Below w.heap.size w w24):=⟨by rw [← hq_];exact (by repeat (first|(with_reducible first|exact HB.out|apply below_alloc|apply pw_below_drewN|apply below_drew1|refine below_set ?_ GE816.out)|exact HB.out))⟩;clear HO_4 BK816 HB hq_;have HO_4:=n0_;have BK816:=n1_;have HB:=n2_;clear n0_ n1_ n2_));have p20 : 0 ≤ (x5_1 : Int):=of_decide_eq_true (by first|(with_reducible assumption)|assumption);have q20 : x5_1 < (a0.size : Int):=of_decide_eq_true (by first|(with_reducible assumption)|assumption);have hx20:=bt_at a0 x5_1;replace p20:=eq_true p20;replace q20:=eq_true q20)|((with_reducible refine gate_callee (f:=81) rfl ?_);refine goesL_ (some 42) rfl rfl Tryd.func81 (by kernel_rfl) rfl #[.string a0,.int .i64 x5_1] rfl (by (try simp only [List.map_toArray,List.map_cons,List.map_nil]);first|done|rfl|(simp only [List.length_drop,List.length_take];rfl)) ?_;(with_reducible refine (spec_l3str.calls k1 a0 x5_1 t827 t828 t829 t830 t831 _ A22.out).mono ?_);rintro e w25 ⟨rfl,hb⟩;refine ⟨_,rfl,?_⟩;have n0_:=Aside0.mk (Kd.R_below (by (with_reducible repeat (first|apply Kd.R_alloc|apply Kd.R_drewN|apply Kd.R_drew));exact HO_4.out) hb);have n1_:=Aside0.mk (blk_below (g:=gb816) (o:=.cells #[.int .i64 0,.string (⟨#[]⟩ : ByteArray),.int .i64 0,.int .i64 0] 60 (0,0)) (by (with_reducible repeat (first|refine blk_drewN ?_ _|refine blk_drew ?_|refine blk_alloc ?_ _));exact BK816.out) hb);have n2_:=Aside0.mk (below_step (by repeat (first|(with_reducible first|exact HB.out|apply below_alloc|apply pw_below_drewN|apply below_drew1|refine below_set ?_ GE816.out)|exact HB.out)) hb);clear HO_4;clear BK816;clear HB;have HO_4:=n0_;have BK816:=n1_;have HB:=n2_;clear n0_ n1_ n2_;(try clear hb);(try clear hb2);(try clear hk);(try clear hi);have hcz26_0 : w25.cell? ⟨gb816,0,none⟩ = some (.int .i64 0):=(blk_cell BK816.out 0).trans rfl;have hcz26_1 : w25.cell? ⟨gb816,1,none⟩ = some (.string (⟨#[]⟩ : ByteArray)):=(blk_cell BK816.out 1).trans rfl;have hcz26_2 : w25.cell? ⟨gb816,2,none⟩ = some (.int .i64 0):=(blk_cell BK816.out 2).trans rfl;have hcz26_3 : w25.cell? ⟨gb816,3,none⟩ = some (.int .i64 0):=(blk_cell BK816.out 3).trans rfl;have hfz26_0:=blk_frozen BK816.out 0;have hfz26_1:=blk_frozen BK816.out 1;have hfz26_2:=blk_frozen BK816.out 2;have hfz26_3:=blk_frozen BK816.out 3))
         go_ret2
         exact ⟨_,by first|rfl|(simp [errW_none,errW_some] <;> rfl)|(simp [*,errW_none,errW_some] <;> rfl),by first|exact Kd.R_nil _ _ _ _ _|exact Kd.N_nil _ _ _ _ _|exact Kd.V_nil _ _ _ _ _|exact Kd.Q_nil _ _ _ _ _|exact Kd.S_nil _ _ _ _ _,by repeat (first|(with_reducible first|exact HB.out|apply below_alloc|apply pw_below_drewN|apply below_drew1|refine below_set ?_ GE816.out)|exact HB.out)⟩
        ·rw [if_neg c23] at H
         have c23b0 : decide (t831 < 0) = false:=decide_eq_false c23
         clear c23
         by_cases c27 : x4_1.length < 3518437208883
         ·rw [if_pos c27] at H
          have LMc27:=Aside0.mk c27
          clear c27
          obtain ⟨y832,hy832⟩ : ∃ y_ : List (S60),y_ = (x4_1 ++ [(⟨t827,t828,t829,t830⟩ : S60)]):=⟨_,rfl⟩
          replace H : ((spec_l3blank.f k1 a0 t831).bind fun t835=>(spec_Lex.l0 k1 a0 y832 t835)) = some (r1,r2):=by first|(rw [hy832];with_reducible exact H)|(have H2_:=(Option.bind_some _ _).symm.trans H;rw [hy832];with_reducible exact H2_)|(have H2_:=(Option.bind_some _ _).symm.trans H;with_reducible exact H2_)|with_reducible exact H|(rw [hy832];exact H)|exact H
          have Ny832:=Aside0.mk hy832
          clear hy832
          replace H:=Option.bind_eq_some_iff.mp H
          obtain ⟨t835,A280,H⟩:=H
          replace H : (spec_Lex.l0 k1 a0 y832 t835) = some (r1,r2):=H
          have A28:=Aside0.mk A280
          clear A280
          have H':=Aside0.mk H
          clear H
          go_wp2_with (first|((with_reducible refine gate_dst (N:=6) rfl ?_);refine box_event ?hg (N:=6) ?hd (cs:=#[.int .i64 0,.string (⟨#[]⟩ : ByteArray),.int .i64 0,.int .i64 0]) (t:=60) ?hr ?_;(case hd=>rfl);(case hg=>rfl);(case hr=>first|(go_simp;done)|(go_simp;rfl));intro gb816 hg w29 hbox hb;have n0_:=Aside0.mk (Kd.R_below (Kd.R_elderB (by (with_reducible repeat (first|apply Kd.R_alloc|apply Kd.R_drewN|apply Kd.R_drew));exact HO_4.out) gb816 (Nat.le_of_eq hg.symm)) hb);have n1_:=Aside0.mk (below_step (by repeat (first|(with_reducible first|exact HB.out|apply below_alloc|apply pw_below_drewN|apply below_drew1)|exact HB.out)) hb);have n2_:=Aside0.mk (hbox);have n3_:=Aside0.mk ((by rw [hg];exact (below_size (by repeat (first|(with_reducible first|exact HB.out|apply below_alloc|apply pw_below_drewN|apply below_drew1)|exact HB.out))) : w.heap.size ≤ gb816));have n4_:=Aside0.mk ((by rw [hg];exact (below_size (by repeat (first|(with_reducible first|exact HB.out|apply below_alloc|apply pw_below_drewN|apply below_drew1)|exact HB.out))) : w.heap.size ≤ gb816));clear HO_4;clear HB;have HO_4:=n0_;have HB:=n1_;have BK816:=n2_;have GW816:=n3_;have GE816:=n4_;clear n0_ n1_ n2_ n3_ n4_;clear hb hbox hg;have p6 : 0 ≤ (x5_1 : Int):=of_decide_eq_true (by first|(with_reducible assumption)|assumption);have q6 : x5_1 < (a0.size : Int):=of_decide_eq_true (by first|(with_reducible assumption)|assumption);have hx6:=bt_at a0 x5_1;replace p6:=eq_true p6;replace q6:=eq_true q6)|((with_reducible refine gate_callee (f:=54) rfl ?_);refine goesL_ (some 27) rfl rfl Tryd.func54 (by kernel_rfl) rfl #[.int .u8 (bt a0 x5_1)] rfl (by (try simp only [List.map_toArray,List.map_cons,List.map_nil]);first|done|rfl|(simp only [List.length_drop,List.length_take];rfl)) ?_;(with_reducible refine (spec_l1digit.calls (bt a0 x5_1) false _ A7.out).mono ?_);rintro e w' ⟨rfl,⟨nd,rfl⟩⟩;refine ⟨_,rfl,?_⟩;(try (rw [drewN_self w29];generalize hq_ : World.drewN w29 _ = w29;have n0_ : Aside0 (Kd.R k60 60 w29 w.heap.size (fun k_=>k_ ≠ gb816) u4 x4_1):=⟨by rw [← hq_];exact (by (with_reducible repeat (first|apply Kd.R_alloc|apply Kd.R_drewN|apply Kd.R_drew));exact Kd.R_mono HO_4.out (fun _ hk=>hk.2))⟩;have n1_ : Aside0 (w29.heap[gb816]? = some (.cells #[.int .i64 0,.string (⟨#[]⟩ : ByteArray),.int .i64 0,.int .i64 0] 60 (0,0))):=⟨by rw [← hq_];exact (by (with_reducible repeat (first|refine blk_drewN ?_ _|refine blk_drew ?_|refine blk_alloc ?_ _));exact BK816.out)⟩;have n2_ : Aside0 (Below w.heap.size w w29):=⟨by rw [← hq_];exact (by repeat (first|(with_reducible first|exact HB.out|apply below_alloc|apply pw_below_drewN|apply below_drew1|refine below_set ?_ GE816.out)|exact HB.out))⟩;clear HO_4 BK816 HB hq_;have HO_4:=n0_;have BK816:=n1_;have HB:=n2_;clear n0_ n1_ n2_));have p20 : 0 ≤ (x5_1 : Int):=of_decide_eq_true (by first|(with_reducible assumption)|assumption);have q20 : x5_1 < (a0.size : Int):=of_decide_eq_true (by first|(with_reducible assumption)|assumption);have hx20:=bt_at a0 x5_1;replace p20:=eq_true p20;replace q20:=eq_true q20)|((with_reducible refine gate_callee (f:=81) rfl ?_);refine goesL_ (some 42) rfl rfl Tryd.func81 (by kernel_rfl) rfl #[.string a0,.int .i64 x5_1] rfl (by (try simp only [List.map_toArray,List.map_cons,List.map_nil]);first|done|rfl|(simp only [List.length_drop,List.length_take];rfl)) ?_;(with_reducible refine (spec_l3str.calls k1 a0 x5_1 t827 t828 t829 t830 t831 _ A22.out).mono ?_);rintro e w30 ⟨rfl,hb⟩;refine ⟨_,rfl,?_⟩;have n0_:=Aside0.mk (Kd.R_below (by (with_reducible repeat (first|apply Kd.R_alloc|apply Kd.R_drewN|apply Kd.R_drew));exact HO_4.out) hb);have n1_:=Aside0.mk (blk_below (g:=gb816) (o:=.cells #[.int .i64 0,.string (⟨#[]⟩ : ByteArray),.int .i64 0,.int .i64 0] 60 (0,0)) (by (with_reducible repeat (first|refine blk_drewN ?_ _|refine blk_drew ?_|refine blk_alloc ?_ _));exact BK816.out) hb);have n2_:=Aside0.mk (below_step (by repeat (first|(with_reducible first|exact HB.out|apply below_alloc|apply pw_below_drewN|apply below_drew1|refine below_set ?_ GE816.out)|exact HB.out)) hb);clear HO_4;clear BK816;clear HB;have HO_4:=n0_;have BK816:=n1_;have HB:=n2_;clear n0_ n1_ n2_;(try clear hb);(try clear hb2);(try clear hk);(try clear hi);have hcz31_0 : w30.cell? ⟨gb816,0,none⟩ = some (.int .i64 0):=(blk_cell BK816.out 0).trans rfl;have hcz31_1 : w30.cell? ⟨gb816,1,none⟩ = some (.string (⟨#[]⟩ : ByteArray)):=(blk_cell BK816.out 1).trans rfl;have hcz31_2 : w30.cell? ⟨gb816,2,none⟩ = some (.int .i64 0):=(blk_cell BK816.out 2).trans rfl;have hcz31_3 : w30.cell? ⟨gb816,3,none⟩ = some (.int .i64 0):=(blk_cell BK816.out 3).trans rfl;have hfz31_0:=blk_frozen BK816.out 0;have hfz31_1:=blk_frozen BK816.out 1;have hfz31_2:=blk_frozen BK816.out 2;have hfz31_3:=blk_frozen BK816.out 3)|((with_reducible refine gate_builtin (b:=.append) (xs:=#[.tmp 75,.tmp 77]) rfl ?_);at_builtin;refine Kd.R_append k60 (w0:=w) w.heap.size rfl (.tmp 75) (.tmp 77) 55 60 (.agg #[(.int .i64 0),(.string ⟨#[]⟩),(.int .i64 0),(.int .i64 0)]) 40 rfl Tryd.underlying55 info60 rfl (by decide) (by omega) u4 x4_1 (⟨t827,t828,t829,t830⟩ : S60) [.int .i64 t827,.string t828,.int .i64 t829,.int .i64 t830] (fun k_=>k_ ≠ gb816) (fun _=>False) rfl (by first|(go_simp;done)|(go_simp;rfl)) ?aP (fun _ hk=>hk.elim) ?aF ?aO ?aB ?aS ?aL ?_;(case aP=>exact k60_mkM _ _ _ (⟨t827,t828,t829,t830⟩ : S60));(case aB=>exact (by repeat (first|(with_reducible first|exact HB.out|apply below_alloc|apply pw_below_drewN|apply below_drew1|refine below_set ?_ GE816.out)|exact HB.out)));(case aF=>exact (fun k_ hk=>Kd.freshB (g:=gb816) (o:=.cells #[.int .i64 t827,.string t828,.int .i64 t829,.int .i64 t830] 60 (0,0)) (by (with_reducible repeat (first|refine blk_drewN ?_ _|refine blk_drew ?_|refine blk_alloc ?_ _));refine blk_put (cs:=#[.int .i64 t827,.string t828,.int .i64 t829,.int .i64 0]) ?_ 3 _ rfl;(with_reducible repeat (first|refine blk_drewN ?_ _|refine blk_drew ?_|refine blk_alloc ?_ _));refine blk_put (cs:=#[.int .i64 t827,.string t828,.int .i64 0,.int .i64 0]) ?_ 2 _ rfl;(with_reducible repeat (first|refine blk_drewN ?_ _|refine blk_drew ?_|refine blk_alloc ?_ _));refine blk_put (cs:=#[.int .i64 t827,.string (⟨#[]⟩ : ByteArray),.int .i64 0,.int .i64 0]) ?_ 1 _ rfl;(with_reducible repeat (first|refine blk_drewN ?_ _|refine blk_drew ?_|refine blk_alloc ?_ _));refine blk_put (cs:=#[.int .i64 0,.string (⟨#[]⟩ : ByteArray),.int .i64 0,.int .i64 0]) ?_ 0 _ rfl;(with_reducible repeat (first|refine blk_drewN ?_ _|refine blk_drew ?_|refine blk_alloc ?_ _));exact BK816.out) k_ hk));(case aO=>exact (by (with_reducible repeat (first|apply Kd.R_alloc|apply Kd.R_drewN|apply Kd.R_drew));exact Kd.R_mono (Kd.R_far (p:=⟨gb816,3,none⟩) (Kd.R_far (p:=⟨gb816,2,none⟩) (Kd.R_far (p:=⟨gb816,1,none⟩) (Kd.R_far (p:=⟨gb816,0,none⟩) (Kd.R_mono HO_4.out (fun k_ hk=>(⟨hk,(by first|exact hk.2|exact hk)⟩ : _ ∧ k_ ≠ gb816))) (fun _ hk=>hk.2) (.int .i64 t827)) (fun _ hk=>hk.2) (.string t828)) (fun _ hk=>hk.2) (.int .i64 t829)) (fun _ hk=>hk.2) (.int .i64 t830)) (fun _ hk=>by first|exact hk.1.2|exact hk.2)));(case aS=>exact (below_size (by repeat (first|(with_reducible first|exact HB.out|apply below_alloc|apply pw_below_drewN|apply below_drew1|refine below_set ?_ GE816.out)|exact HB.out))));(case aL=>have:=LMc27.out;omega);intro v833 w32 ho hb hg hat;rw [← Ny832.out] at ho;have n0_:=Aside0.mk (blk_grown (g:=gb816) (o:=.cells #[.int .i64 t827,.string t828,.int .i64 t829,.int .i64 t830] 60 (0,0)) (by (with_reducible repeat (first|refine blk_drewN ?_ _|refine blk_drew ?_|refine blk_alloc ?_ _));refine blk_put (cs:=#[.int .i64 t827,.string t828,.int .i64 t829,.int .i64 0]) ?_ 3 _ rfl;(with_reducible repeat (first|refine blk_drewN ?_ _|refine blk_drew ?_|refine blk_alloc ?_ _));refine blk_put (cs:=#[.int .i64 t827,.string t828,.int .i64 0,.int .i64 0]) ?_ 2 _ rfl;(with_reducible repeat (first|refine blk_drewN ?_ _|refine blk_drew ?_|refine blk_alloc ?_ _));refine blk_put (cs:=#[.int .i64 t827,.string (⟨#[]⟩ : ByteArray),.int .i64 0,.int .i64 0]) ?_ 1 _ rfl;(with_reducible repeat (first|refine blk_drewN ?_ _|refine blk_drew ?_|refine blk_alloc ?_ _));refine blk_put (cs:=#[.int .i64 0,.string (⟨#[]⟩ : ByteArray),.int .i64 0,.int .i64 0]) ?_ 0 _ rfl;(with_reducible repeat (first|refine blk_drewN ?_ _|refine blk_drew ?_|refine blk_alloc ?_ _));exact BK816.out) hg (Kd.R_away HO_4.out (fun _ hk=>by first|exact hk.2|exact hk)));have n1_:=Aside0.mk (hb);have n2_:=Aside0.mk (ho);clear BK816;clear HB;clear HO_4;have BK816:=n0_;have HB:=n1_;have HO834:=n2_;clear n0_ n1_ n2_;clear ho hb hg hat)|((with_reducible refine gate_callee (f:=79) rfl ?_);refine goesL_ (some 81) rfl rfl Tryd.func79 (by kernel_rfl) rfl #[.string a0,.int .i64 t831] rfl (by (try simp only [List.map_toArray,List.map_cons,List.map_nil]);first|done|rfl|(simp only [List.length_drop,List.length_take];rfl)) ?_;(with_reducible refine (spec_l3blank.calls k1 a0 t831 t835 _ A28.out).mono ?_);rintro e w' ⟨rfl,⟨nd,rfl⟩⟩;refine ⟨_,rfl,?_⟩))
          go_roundg k1
          case measure=>have:=HK1.out;omega
          case rel=>exact ⟨(y832),(t835),(by first|rfl|(simp;done)|(simp [*];done)),H',⟨by have:=HK1.out;omega⟩,⟨by (with_reducible repeat (first|apply Kd.R_alloc|apply Kd.R_drewN|apply Kd.R_drew));exact Kd.R_mono HO834.out (fun _ hk=>trivial)⟩,⟨by repeat (first|(with_reducible first|exact HB.out|apply below_alloc|apply pw_below_drewN|apply below_drew1|refine below_set ?_ GE816.out)|exact HB.out)⟩⟩
         ·rw [if_neg c27] at H
          exact absurd H (by simp)
       ·rw [if_neg c21] at H
        have c21b0 : ((bt a0 x5_1) == 34) = false:=beq_eq_false_iff_ne.mpr c21
        have c21b1 : ((bt a0 x5_1) != 34) = true:=bne_iff_ne.mpr c21
        replace H:=Option.bind_eq_some_iff.mp H
        obtain ⟨t836,A340,H⟩:=H
        replace H : (if t836 = true then ((spec_l3name.f k1 a0 x5_1).bind fun bt837=>(if bt837.2.2.2.2 < 0 then (some (([] : List (S60)),x5_1)) else (if x4_1.length < 3518437208883 then ((spec_l3blank.f k1 a0 bt837.2.2.2.2).bind fun t845=>(spec_Lex.l0 k1 a0 (x4_1 ++ [(⟨bt837.1,bt837.2.1,bt837.2.2.1,bt837.2.2.2.1⟩ : S60)]) t845)) else (none)))) else (if (bt a0 x5_1) = 47 then ((spec_l3operand.f x4_1).bind fun t846=>(spec_Lex.j1 k1 a0 x4_1 x5_1 (!t846))) else (spec_Lex.j1 k1 a0 x4_1 x5_1 false))) = some (r1,r2):=H
        have A34:=Aside0.mk A340
        clear A340
        by_cases c35 : t836 = true
        ·subst c35
         have H1 : ((spec_l3name.f k1 a0 x5_1).bind fun bt837=>(if bt837.2.2.2.2 < 0 then (some (([] : List (S60)),x5_1)) else (if x4_1.length < 3518437208883 then ((spec_l3blank.f k1 a0 bt837.2.2.2.2).bind fun t845=>(spec_Lex.l0 k1 a0 (x4_1 ++ [(⟨bt837.1,bt837.2.1,bt837.2.2.1,bt837.2.2.2.1⟩ : S60)]) t845)) else (none)))) = some (r1,r2):=by rw [if_pos rfl] at H;exact H
         clear H
         have H:=H1
         clear H1
         replace H:=Option.bind_eq_some_iff.mp H
         obtain ⟨⟨t837,t838,t839,t840,t841⟩,A360,H⟩:=H
         replace H : (if t841 < 0 then (some (([] : List (S60)),x5_1)) else (if x4_1.length < 3518437208883 then ((spec_l3blank.f k1 a0 t841).bind fun t845=>(spec_Lex.l0 k1 a0 (x4_1 ++ [(⟨t837,t838,t839,t840⟩ : S60)]) t845)) else (none))) = some (r1,r2):=H
         have A36:=Aside0.mk A360
         clear A360
         by_cases c37 : t841 < 0
         ·rw [if_pos c37] at H
          have c37b0 : decide (t841 < 0) = true:=decide_eq_true c37
          clear c37
          simp only [Option.some.injEq,Prod.mk.injEq] at H
          obtain ⟨rfl,rfl⟩:=H
          go_wp2_with (first|((with_reducible refine gate_dst (N:=6) rfl ?_);refine box_event ?hg (N:=6) ?hd (cs:=#[.int .i64 0,.string (⟨#[]⟩ : ByteArray),.int .i64 0,.int .i64 0]) (t:=60) ?hr ?_;(case hd=>rfl);(case hg=>rfl);(case hr=>first|(go_simp;done)|(go_simp;rfl));intro gb816 hg w38 hbox hb;have n0_:=Aside0.mk (Kd.R_below (Kd.R_elderB (by (with_reducible repeat (first|apply Kd.R_alloc|apply Kd.R_drewN|apply Kd.R_drew));exact HO_4.out) gb816 (Nat.le_of_eq hg.symm)) hb);have n1_:=Aside0.mk (below_step (by repeat (first|(with_reducible first|exact HB.out|apply below_alloc|apply pw_below_drewN|apply below_drew1)|exact HB.out)) hb);have n2_:=Aside0.mk (hbox);have n3_:=Aside0.mk ((by rw [hg];exact (below_size (by repeat (first|(with_reducible first|exact HB.out|apply below_alloc|apply pw_below_drewN|apply below_drew1)|exact HB.out))) : w.heap.size ≤ gb816));have n4_:=Aside0.mk ((by rw [hg];exact (below_size (by repeat (first|(with_reducible first|exact HB.out|apply below_alloc|apply pw_below_drewN|apply below_drew1)|exact HB.out))) : w.heap.size ≤ gb816));clear HO_4;clear HB;have HO_4:=n0_;have HB:=n1_;have BK816:=n2_;have GW816:=n3_;have GE816:=n4_;clear n0_ n1_ n2_ n3_ n4_;clear hb hbox hg;have p6 : 0 ≤ (x5_1 : Int):=of_decide_eq_true (by first|(with_reducible assumption)|assumption);have q6 : x5_1 < (a0.size : Int):=of_decide_eq_true (by first|(with_reducible assumption)|assumption);have hx6:=bt_at a0 x5_1;replace p6:=eq_true p6;replace q6:=eq_true q6)|((with_reducible refine gate_callee (f:=54) rfl ?_);refine goesL_ (some 27) rfl rfl Tryd.func54 (by kernel_rfl) rfl #[.int .u8 (bt a0 x5_1)] rfl (by (try simp only [List.map_toArray,List.map_cons,List.map_nil]);first|done|rfl|(simp only [List.length_drop,List.length_take];rfl)) ?_;(with_reducible refine (spec_l1digit.calls (bt a0 x5_1) false _ A7.out).mono ?_);rintro e w' ⟨rfl,⟨nd,rfl⟩⟩;refine ⟨_,rfl,?_⟩;(try (rw [drewN_self w38];generalize hq_ : World.drewN w38 _ = w38;have n0_ : Aside0 (Kd.R k60 60 w38 w.heap.size (fun k_=>k_ ≠ gb816) u4 x4_1):=⟨by rw [← hq_];exact (by (with_reducible repeat (first|apply Kd.R_alloc|apply Kd.R_drewN|apply Kd.R_drew));exact Kd.R_mono HO_4.out (fun _ hk=>hk.2))⟩;have n1_ : Aside0 (w38.heap[gb816]? = some (.cells #[.int .i64 0,.string (⟨#[]⟩ : ByteArray),.int .i64 0,.int .i64 0] 60 (0,0))):=⟨by rw [← hq_];exact (by (with_reducible repeat (first|refine blk_drewN ?_ _|refine blk_drew ?_|refine blk_alloc ?_ _));exact BK816.out)⟩;have n2_ : Aside0 (Below w.heap.size w w38):=⟨by rw [← hq_];exact (by repeat (first|(with_reducible first|exact HB.out|apply below_alloc|apply pw_below_drewN|apply below_drew1|refine below_set ?_ GE816.out)|exact HB.out))⟩;clear HO_4 BK816 HB hq_;have HO_4:=n0_;have BK816:=n1_;have HB:=n2_;clear n0_ n1_ n2_));have p20 : 0 ≤ (x5_1 : Int):=of_decide_eq_true (by first|(with_reducible assumption)|assumption);have q20 : x5_1 < (a0.size : Int):=of_decide_eq_true (by first|(with_reducible assumption)|assumption);have hx20:=bt_at a0 x5_1;replace p20:=eq_true p20;replace q20:=eq_true q20;have p33 : 0 ≤ (x5_1 : Int):=of_decide_eq_true (by first|(with_reducible assumption)|assumption);have q33 : x5_1 < (a0.size : Int):=of_decide_eq_true (by first|(with_reducible assumption)|assumption);have hx33:=bt_at a0 x5_1;replace p33:=eq_true p33;replace q33:=eq_true q33)|((with_reducible refine gate_callee (f:=82) rfl ?_);refine goesL_ (some 49) rfl rfl Tryd.func82 (by kernel_rfl) rfl #[.int .u8 (bt a0 x5_1)] rfl (by (try simp only [List.map_toArray,List.map_cons,List.map_nil]);first|done|rfl|(simp only [List.length_drop,List.length_take];rfl)) ?_;(with_reducible refine (spec_l3letter.calls (bt a0 x5_1) true _ A34.out).mono ?_);rintro e w' ⟨rfl,⟨nd,rfl⟩⟩;refine ⟨_,rfl,?_⟩;(try (rw [drewN_self w38];generalize hq_ : World.drewN w38 _ = w38;have n0_ : Aside0 (Kd.R k60 60 w38 w.heap.size (fun k_=>k_ ≠ gb816) u4 x4_1):=⟨by rw [← hq_];exact (by (with_reducible repeat (first|apply Kd.R_alloc|apply Kd.R_drewN|apply Kd.R_drew));exact Kd.R_mono HO_4.out (fun _ hk=>hk.2))⟩;have n1_ : Aside0 (w38.heap[gb816]? = some (.cells #[.int .i64 0,.string (⟨#[]⟩ : ByteArray),.int .i64 0,.int .i64 0] 60 (0,0))):=⟨by rw [← hq_];exact (by (with_reducible repeat (first|refine blk_drewN ?_ _|refine blk_drew ?_|refine blk_alloc ?_ _));exact BK816.out)⟩;have n2_ : Aside0 (Below w.heap.size w w38):=⟨by rw [← hq_];exact (by repeat (first|(with_reducible first|exact HB.out|apply below_alloc|apply pw_below_drewN|apply below_drew1|refine below_set ?_ GE816.out)|exact HB.out))⟩;clear HO_4 BK816 HB hq_;have HO_4:=n0_;have BK816:=n1_;have HB:=n2_;clear n0_ n1_ n2_)))|((with_reducible refine gate_callee (f:=83) rfl ?_);refine goesL_ (some 53) rfl rfl Tryd.func83 (by kernel_rfl) rfl #[.string a0,.int .i64 x5_1] rfl (by (try simp only [List.map_toArray,List.map_cons,List.map_nil]);first|done|rfl|(simp only [List.length_drop,List.length_take];rfl)) ?_;(with_reducible refine (spec_l3name.calls k1 a0 x5_1 t837 t838 t839 t840 t841 _ A36.out).mono ?_);rintro e w39 ⟨rfl,hb⟩;refine ⟨_,rfl,?_⟩;have n0_:=Aside0.mk (Kd.R_below (by (with_reducible repeat (first|apply Kd.R_alloc|apply Kd.R_drewN|apply Kd.R_drew));exact HO_4.out) hb);have n1_:=Aside0.mk (blk_below (g:=gb816) (o:=.cells #[.int .i64 0,.string (⟨#[]⟩ : ByteArray),.int .i64 0,.int .i64 0] 60 (0,0)) (by (with_reducible repeat (first|refine blk_drewN ?_ _|refine blk_drew ?_|refine blk_alloc ?_ _));exact BK816.out) hb);have n2_:=Aside0.mk (below_step (by repeat (first|(with_reducible first|exact HB.out|apply below_alloc|apply pw_below_drewN|apply below_drew1|refine below_set ?_ GE816.out)|exact HB.out)) hb);clear HO_4;clear BK816;clear HB;have HO_4:=n0_;have BK816:=n1_;have HB:=n2_;clear n0_ n1_ n2_;(try clear hb);(try clear hb2);(try clear hk);(try clear hi);have hcz40_0 : w39.cell? ⟨gb816,0,none⟩ = some (.int .i64 0):=(blk_cell BK816.out 0).trans rfl;have hcz40_1 : w39.cell? ⟨gb816,1,none⟩ = some (.string (⟨#[]⟩ : ByteArray)):=(blk_cell BK816.out 1).trans rfl;have hcz40_2 : w39.cell? ⟨gb816,2,none⟩ = some (.int .i64 0):=(blk_cell BK816.out 2).trans rfl;have hcz40_3 : w39.cell? ⟨gb816,3,none⟩ = some (.int .i64 0):=(blk_cell BK816.out 3).trans rfl;have hfz40_0:=blk_frozen BK816.out 0;have hfz40_1:=blk_frozen BK816.out 1;have hfz40_2:=blk_frozen BK816.out 2;have hfz40_3:=blk_frozen BK816.out 3))
          go_ret2
          exact ⟨_,by first|rfl|(simp [errW_none,errW_some] <;> rfl)|(simp [*,errW_none,errW_some] <;> rfl),by first|exact Kd.R_nil _ _ _ _ _|exact Kd.N_nil _ _ _ _ _|exact Kd.V_nil _ _ _ _ _|exact Kd.Q_nil _ _ _ _ _|exact Kd.S_nil _ _ _ _ _,by repeat (first|(with_reducible first|exact HB.out|apply below_alloc|apply pw_below_drewN|apply below_drew1|refine below_set ?_ GE816.out)|exact HB.out)⟩
         ·rw [if_neg c37] at H
          have c37b0 : decide (t841 < 0) = false:=decide_eq_false c37
          clear c37
          by_cases c41 : x4_1.length < 3518437208883
          ·rw [if_pos c41] at H
           have LMc41:=Aside0.mk c41
           clear c41
           obtain ⟨y842,hy842⟩ : ∃ y_ : List (S60),y_ = (x4_1 ++ [(⟨t837,t838,t839,t840⟩ : S60)]):=⟨_,rfl⟩
           replace H : ((spec_l3blank.f k1 a0 t841).bind fun t845=>(spec_Lex.l0 k1 a0 y842 t845)) = some (r1,r2):=by first|(rw [hy842];with_reducible exact H)|(have H2_:=(Option.bind_some _ _).symm.trans H;rw [hy842];with_reducible exact H2_)|(have H2_:=(Option.bind_some _ _).symm.trans H;with_reducible exact H2_)|with_reducible exact H|(rw [hy842];exact H)|exact H
           have Ny842:=Aside0.mk hy842
           clear hy842
           replace H:=Option.bind_eq_some_iff.mp H
           obtain ⟨t845,A420,H⟩:=H
           replace H : (spec_Lex.l0 k1 a0 y842 t845) = some (r1,r2):=H
           have A42:=Aside0.mk A420
           clear A420
           have H':=Aside0.mk H
           clear H
           go_wp2_with (first|((with_reducible refine gate_dst (N:=6) rfl ?_);refine box_event ?hg (N:=6) ?hd (cs:=#[.int .i64 0,.string (⟨#[]⟩ : ByteArray),.int .i64 0,.int .i64 0]) (t:=60) ?hr ?_;(case hd=>rfl);(case hg=>rfl);(case hr=>first|(go_simp;done)|(go_simp;rfl));intro gb816 hg w43 hbox hb;have n0_:=Aside0.mk (Kd.R_below (Kd.R_elderB (by (with_reducible repeat (first|apply Kd.R_alloc|apply Kd.R_drewN|apply Kd.R_drew));exact HO_4.out) gb816 (Nat.le_of_eq hg.symm)) hb);have n1_:=Aside0.mk (below_step (by repeat (first|(with_reducible first|exact HB.out|apply below_alloc|apply pw_below_drewN|apply below_drew1)|exact HB.out)) hb);have n2_:=Aside0.mk (hbox);have n3_:=Aside0.mk ((by rw [hg];exact (below_size (by repeat (first|(with_reducible first|exact HB.out|apply below_alloc|apply pw_below_drewN|apply below_drew1)|exact HB.out))) : w.heap.size ≤ gb816));have n4_:=Aside0.mk ((by rw [hg];exact (below_size (by repeat (first|(with_reducible first|exact HB.out|apply below_alloc|apply pw_below_drewN|apply below_drew1)|exact HB.out))) : w.heap.size ≤ gb816));clear HO_4;clear HB;have HO_4:=n0_;have HB:=n1_;have BK816:=n2_;have GW816:=n3_;have GE816:=n4_;clear n0_ n1_ n2_ n3_ n4_;clear hb hbox hg;have p6 : 0 ≤ (x5_1 : Int):=of_decide_eq_true (by first|(with_reducible assumption)|assumption);have q6 : x5_1 < (a0.size : Int):=of_decide_eq_true (by first|(with_reducible assumption)|assumption);have hx6:=bt_at a0 x5_1;replace p6:=eq_true p6;replace q6:=eq_true q6)|((with_reducible refine gate_callee (f:=54) rfl ?_);refine goesL_ (some 27) rfl rfl Tryd.func54 (by kernel_rfl) rfl #[.int .u8 (bt a0 x5_1)] rfl (by (try simp only [List.map_toArray,List.map_cons,List.map_nil]);first|done|rfl|(simp only [List.length_drop,List.length_take];rfl)) ?_;(with_reducible refine (spec_l1digit.calls (bt a0 x5_1) false _ A7.out).mono ?_);rintro e w' ⟨rfl,⟨nd,rfl⟩⟩;refine ⟨_,rfl,?_⟩;(try (rw [drewN_self w43];generalize hq_ : World.drewN w43 _ = w43;have n0_ : Aside0 (Kd.R k60 60 w43 w.heap.size (fun k_=>k_ ≠ gb816) u4 x4_1):=⟨by rw [← hq_];exact (by (with_reducible repeat (first|apply Kd.R_alloc|apply Kd.R_drewN|apply Kd.R_drew));exact Kd.R_mono HO_4.out (fun _ hk=>hk.2))⟩;have n1_ : Aside0 (w43.heap[gb816]? = some (.cells #[.int .i64 0,.string (⟨#[]⟩ : ByteArray),.int .i64 0,.int .i64 0] 60 (0,0))):=⟨by rw [← hq_];exact (by (with_reducible repeat (first|refine blk_drewN ?_ _|refine blk_drew ?_|refine blk_alloc ?_ _));exact BK816.out)⟩;have n2_ : Aside0 (Below w.heap.size w w43):=⟨by rw [← hq_];exact (by repeat (first|(with_reducible first|exact HB.out|apply below_alloc|apply pw_below_drewN|apply below_drew1|refine below_set ?_ GE816.out)|exact HB.out))⟩;clear HO_4 BK816 HB hq_;have HO_4:=n0_;have BK816:=n1_;have HB:=n2_;clear n0_ n1_ n2_));have p20 : 0 ≤ (x5_1 : Int):=of_decide_eq_true (by first|(with_reducible assumption)|assumption);have q20 : x5_1 < (a0.size : Int):=of_decide_eq_true (by first|(with_reducible assumption)|assumption);have hx20:=bt_at a0 x5_1;replace p20:=eq_true p20;replace q20:=eq_true q20;have p33 : 0 ≤ (x5_1 : Int):=of_decide_eq_true (by first|(with_reducible assumption)|assumption);have q33 : x5_1 < (a0.size : Int):=of_decide_eq_true (by first|(with_reducible assumption)|assumption);have hx33:=bt_at a0 x5_1;replace p33:=eq_true p33;replace q33:=eq_true q33)|((with_reducible refine gate_callee (f:=82) rfl ?_);refine goesL_ (some 49) rfl rfl Tryd.func82 (by kernel_rfl) rfl #[.int .u8 (bt a0 x5_1)] rfl (by (try simp only [List.map_toArray,List.map_cons,List.map_nil]);first|done|rfl|(simp only [List.length_drop,List.length_take];rfl)) ?_;(with_reducible refine (spec_l3letter.calls (bt a0 x5_1) true _ A34.out).mono ?_);rintro e w' ⟨rfl,⟨nd,rfl⟩⟩;refine ⟨_,rfl,?_⟩;(try (rw [drewN_self w43];generalize hq_ : World.drewN w43 _ = w43;have n0_ : Aside0 (Kd.R k60 60 w43 w.heap.size (fun k_=>k_ ≠ gb816) u4 x4_1):=⟨by rw [← hq_];exact (by (with_reducible repeat (first|apply Kd.R_alloc|apply Kd.R_drewN|apply Kd.R_drew));exact Kd.R_mono HO_4.out (fun _ hk=>hk.2))⟩;have n1_ : Aside0 (w43.heap[gb816]? = some (.cells #[.int .i64 0,.string (⟨#[]⟩ : ByteArray),.int .i64 0,.int .i64 0] 60 (0,0))):=⟨by rw [← hq_];exact (by (with_reducible repeat (first|refine blk_drewN ?_ _|refine blk_drew ?_|refine blk_alloc ?_ _));exact BK816.out)⟩;have n2_ : Aside0 (Below w.heap.size w w43):=⟨by rw [← hq_];exact (by repeat (first|(with_reducible first|exact HB.out|apply below_alloc|apply pw_below_drewN|apply below_drew1|refine below_set ?_ GE816.out)|exact HB.out))⟩;clear HO_4 BK816 HB hq_;have HO_4:=n0_;have BK816:=n1_;have HB:=n2_;clear n0_ n1_ n2_)))|((with_reducible refine gate_callee (f:=83) rfl ?_);refine goesL_ (some 53) rfl rfl Tryd.func83 (by kernel_rfl) rfl #[.string a0,.int .i64 x5_1] rfl (by (try simp only [List.map_toArray,List.map_cons,List.map_nil]);first|done|rfl|(simp only [List.length_drop,List.length_take];rfl)) ?_;(with_reducible refine (spec_l3name.calls k1 a0 x5_1 t837 t838 t839 t840 t841 _ A36.out).mono ?_);rintro e w44 ⟨rfl,hb⟩;refine ⟨_,rfl,?_⟩;have n0_:=Aside0.mk (Kd.R_below (by (with_reducible repeat (first|apply Kd.R_alloc|apply Kd.R_drewN|apply Kd.R_drew));exact HO_4.out) hb);have n1_:=Aside0.mk (blk_below (g:=gb816) (o:=.cells #[.int .i64 0,.string (⟨#[]⟩ : ByteArray),.int .i64 0,.int .i64 0] 60 (0,0)) (by (with_reducible repeat (first|refine blk_drewN ?_ _|refine blk_drew ?_|refine blk_alloc ?_ _));exact BK816.out) hb);have n2_:=Aside0.mk (below_step (by repeat (first|(with_reducible first|exact HB.out|apply below_alloc|apply pw_below_drewN|apply below_drew1|refine below_set ?_ GE816.out)|exact HB.out)) hb);clear HO_4;clear BK816;clear HB;have HO_4:=n0_;have BK816:=n1_;have HB:=n2_;clear n0_ n1_ n2_;(try clear hb);(try clear hb2);(try clear hk);(try clear hi);have hcz45_0 : w44.cell? ⟨gb816,0,none⟩ = some (.int .i64 0):=(blk_cell BK816.out 0).trans rfl;have hcz45_1 : w44.cell? ⟨gb816,1,none⟩ = some (.string (⟨#[]⟩ : ByteArray)):=(blk_cell BK816.out 1).trans rfl;have hcz45_2 : w44.cell? ⟨gb816,2,none⟩ = some (.int .i64 0):=(blk_cell BK816.out 2).trans rfl;have hcz45_3 : w44.cell? ⟨gb816,3,none⟩ = some (.int .i64 0):=(blk_cell BK816.out 3).trans rfl;have hfz45_0:=blk_frozen BK816.out 0;have hfz45_1:=blk_frozen BK816.out 1;have hfz45_2:=blk_frozen BK816.out 2;have hfz45_3:=blk_frozen BK816.out 3)|((with_reducible refine gate_builtin (b:=.append) (xs:=#[.tmp 75,.tmp 77]) rfl ?_);at_builtin;refine Kd.R_append k60 (w0:=w) w.heap.size rfl (.tmp 75) (.tmp 77) 55 60 (.agg #[(.int .i64 0),(.string ⟨#[]⟩),(.int .i64 0),(.int .i64 0)]) 40 rfl Tryd.underlying55 info60 rfl (by decide) (by omega) u4 x4_1 (⟨t837,t838,t839,t840⟩ : S60) [.int .i64 t837,.string t838,.int .i64 t839,.int .i64 t840] (fun k_=>k_ ≠ gb816) (fun _=>False) rfl (by first|(go_simp;done)|(go_simp;rfl)) ?aP (fun _ hk=>hk.elim) ?aF ?aO ?aB ?aS ?aL ?_;(case aP=>exact k60_mkM _ _ _ (⟨t837,t838,t839,t840⟩ : S60));(case aB=>exact (by repeat (first|(with_reducible first|exact HB.out|apply below_alloc|apply pw_below_drewN|apply below_drew1|refine below_set ?_ GE816.out)|exact HB.out)));(case aF=>exact (fun k_ hk=>Kd.freshB (g:=gb816) (o:=.cells #[.int .i64 t837,.string t838,.int .i64 t839,.int .i64 t840] 60 (0,0)) (by (with_reducible repeat (first|refine blk_drewN ?_ _|refine blk_drew ?_|refine blk_alloc ?_ _));refine blk_put (cs:=#[.int .i64 t837,.string t838,.int .i64 t839,.int .i64 0]) ?_ 3 _ rfl;(with_reducible repeat (first|refine blk_drewN ?_ _|refine blk_drew ?_|refine blk_alloc ?_ _));refine blk_put (cs:=#[.int .i64 t837,.string t838,.int .i64 0,.int .i64 0]) ?_ 2 _ rfl;(with_reducible repeat (first|refine blk_drewN ?_ _|refine blk_drew ?_|refine blk_alloc ?_ _));refine blk_put (cs:=#[.int .i64 t837,.string (⟨#[]⟩ : ByteArray),.int .i64 0,.int .i64 0]) ?_ 1 _ rfl;(with_reducible repeat (first|refine blk_drewN ?_ _|refine blk_drew ?_|refine blk_alloc ?_ _));refine blk_put (cs:=#[.int .i64 0,.string (⟨#[]⟩ : ByteArray),.int .i64 0,.int .i64 0]) ?_ 0 _ rfl;(with_reducible repeat (first|refine blk_drewN ?_ _|refine blk_drew ?_|refine blk_alloc ?_ _));exact BK816.out) k_ hk));(case aO=>exact (by (with_reducible repeat (first|apply Kd.R_alloc|apply Kd.R_drewN|apply Kd.R_drew));exact Kd.R_mono (Kd.R_far (p:=⟨gb816,3,none⟩) (Kd.R_far (p:=⟨gb816,2,none⟩) (Kd.R_far (p:=⟨gb816,1,none⟩) (Kd.R_far (p:=⟨gb816,0,none⟩) (Kd.R_mono HO_4.out (fun k_ hk=>(⟨hk,(by first|exact hk.2|exact hk)⟩ : _ ∧ k_ ≠ gb816))) (fun _ hk=>hk.2) (.int .i64 t837)) (fun _ hk=>hk.2) (.string t838)) (fun _ hk=>hk.2) (.int .i64 t839)) (fun _ hk=>hk.2) (.int .i64 t840)) (fun _ hk=>by first|exact hk.1.2|exact hk.2)));(case aS=>exact (below_size (by repeat (first|(with_reducible first|exact HB.out|apply below_alloc|apply pw_below_drewN|apply below_drew1|refine below_set ?_ GE816.out)|exact HB.out))));(case aL=>have:=LMc41.out;omega);intro v843 w46 ho hb hg hat;rw [← Ny842.out] at ho;have n0_:=Aside0.mk (blk_grown (g:=gb816) (o:=.cells #[.int .i64 t837,.string t838,.int .i64 t839,.int .i64 t840] 60 (0,0)) (by (with_reducible repeat (first|refine blk_drewN ?_ _|refine blk_drew ?_|refine blk_alloc ?_ _));refine blk_put (cs:=#[.int .i64 t837,.string t838,.int .i64 t839,.int .i64 0]) ?_ 3 _ rfl;(with_reducible repeat (first|refine blk_drewN ?_ _|refine blk_drew ?_|refine blk_alloc ?_ _));refine blk_put (cs:=#[.int .i64 t837,.string t838,.int .i64 0,.int .i64 0]) ?_ 2 _ rfl;(with_reducible repeat (first|refine blk_drewN ?_ _|refine blk_drew ?_|refine blk_alloc ?_ _));refine blk_put (cs:=#[.int .i64 t837,.string (⟨#[]⟩ : ByteArray),.int .i64 0,.int .i64 0]) ?_ 1 _ rfl;(with_reducible repeat (first|refine blk_drewN ?_ _|refine blk_drew ?_|refine blk_alloc ?_ _));refine blk_put (cs:=#[.int .i64 0,.string (⟨#[]⟩ : ByteArray),.int .i64 0,.int .i64 0]) ?_ 0 _ rfl;(with_reducible repeat (first|refine blk_drewN ?_ _|refine blk_drew ?_|refine blk_alloc ?_ _));exact BK816.out) hg (Kd.R_away HO_4.out (fun _ hk=>by first|exact hk.2|exact hk)));have n1_:=Aside0.mk (hb);have n2_:=Aside0.mk (ho);clear BK816;clear HB;clear HO_4;have BK816:=n0_;have HB:=n1_;have HO844:=n2_;clear n0_ n1_ n2_;clear ho hb hg hat)|((with_reducible refine gate_callee (f:=79) rfl ?_);refine goesL_ (some 81) rfl rfl Tryd.func79 (by kernel_rfl) rfl #[.string a0,.int .i64 t841] rfl (by (try simp only [List.map_toArray,List.map_cons,List.map_nil]);first|done|rfl|(simp only [List.length_drop,List.length_take];rfl)) ?_;(with_reducible refine (spec_l3blank.calls k1 a0 t841 t845 _ A42.out).mono ?_);rintro e w' ⟨rfl,⟨nd,rfl⟩⟩;refine ⟨_,rfl,?_⟩))
           go_roundg k1
           case measure=>have:=HK1.out;omega
           case rel=>exact ⟨(y842),(t845),(by first|rfl|(simp;done)|(simp [*];done)),H',⟨by have:=HK1.out;omega⟩,⟨by (with_reducible repeat (first|apply Kd.R_alloc|apply Kd.R_drewN|apply Kd.R_drew));exact Kd.R_mono HO844.out (fun _ hk=>trivial)⟩,⟨by repeat (first|(with_reducible first|exact HB.out|apply below_alloc|apply pw_below_drewN|apply below_drew1|refine below_set ?_ GE816.out)|exact HB.out)⟩⟩
          ·rw [if_neg c41] at H
           exact absurd H (by simp)
        ·replace c35:=Bool.eq_false_iff.mpr c35
         subst c35
         have H1 : (if (bt a0 x5_1) = 47 then ((spec_l3operand.f x4_1).bind fun t846=>(spec_Lex.j1 k1 a0 x4_1 x5_1 (!t846))) else (spec_Lex.j1 k1 a0 x4_1 x5_1 false)) = some (r1,r2):=by rw [if_neg (show ¬ (false = true) by decide)] at H;exact H
         clear H
         have H:=H1
         clear H1
         have HC47:=Aside0.mk H
         clear H
         go_upto_region 15 with (first|((with_reducible refine gate_dst (N:=6) rfl ?_);refine box_event ?hg (N:=6) ?hd (cs:=#[.int .i64 0,.string (⟨#[]⟩ : ByteArray),.int .i64 0,.int .i64 0]) (t:=60) ?hr ?_;(case hd=>rfl);(case hg=>rfl);(case hr=>first|(go_simp;done)|(go_simp;rfl));intro gb816 hg w48 hbox hb;have n0_:=Aside0.mk (Kd.R_below (Kd.R_elderB (by (with_reducible repeat (first|apply Kd.R_alloc|apply Kd.R_drewN|apply Kd.R_drew));exact HO_4.out) gb816 (Nat.le_of_eq hg.symm)) hb);have n1_:=Aside0.mk (below_step (by repeat (first|(with_reducible first|exact HB.out|apply below_alloc|apply pw_below_drewN|apply below_drew1)|exact HB.out)) hb);have n2_:=Aside0.mk (hbox);have n3_:=Aside0.mk ((by rw [hg];exact (below_size (by repeat (first|(with_reducible first|exact HB.out|apply below_alloc|apply pw_below_drewN|apply below_drew1)|exact HB.out))) : w.heap.size ≤ gb816));have n4_:=Aside0.mk ((by rw [hg];exact (below_size (by repeat (first|(with_reducible first|exact HB.out|apply below_alloc|apply pw_below_drewN|apply below_drew1)|exact HB.out))) : w.heap.size ≤ gb816));clear HO_4;clear HB;have HO_4:=n0_;have HB:=n1_;have BK816:=n2_;have GW816:=n3_;have GE816:=n4_;clear n0_ n1_ n2_ n3_ n4_;clear hb hbox hg;have p6 : 0 ≤ (x5_1 : Int):=of_decide_eq_true (by first|(with_reducible assumption)|assumption);have q6 : x5_1 < (a0.size : Int):=of_decide_eq_true (by first|(with_reducible assumption)|assumption);have hx6:=bt_at a0 x5_1;replace p6:=eq_true p6;replace q6:=eq_true q6)|((with_reducible refine gate_callee (f:=54) rfl ?_);refine goesL_ (some 27) rfl rfl Tryd.func54 (by kernel_rfl) rfl #[.int .u8 (bt a0 x5_1)] rfl (by (try simp only [List.map_toArray,List.map_cons,List.map_nil]);first|done|rfl|(simp only [List.length_drop,List.length_take];rfl)) ?_;(with_reducible refine (spec_l1digit.calls (bt a0 x5_1) false _ A7.out).mono ?_);rintro e w' ⟨rfl,⟨nd,rfl⟩⟩;refine ⟨_,rfl,?_⟩;have p20 : 0 ≤ (x5_1 : Int):=of_decide_eq_true (by first|(with_reducible assumption)|assumption);have q20 : x5_1 < (a0.size : Int):=of_decide_eq_true (by first|(with_reducible assumption)|assumption);have hx20:=bt_at a0 x5_1;replace p20:=eq_true p20;replace q20:=eq_true q20;have p33 : 0 ≤ (x5_1 : Int):=of_decide_eq_true (by first|(with_reducible assumption)|assumption);have q33 : x5_1 < (a0.size : Int):=of_decide_eq_true (by first|(with_reducible assumption)|assumption);have hx33:=bt_at a0 x5_1;replace p33:=eq_true p33;replace q33:=eq_true q33)|((with_reducible refine gate_callee (f:=82) rfl ?_);refine goesL_ (some 49) rfl rfl Tryd.func82 (by kernel_rfl) rfl #[.int .u8 (bt a0 x5_1)] rfl (by (try simp only [List.map_toArray,List.map_cons,List.map_nil]);first|done|rfl|(simp only [List.length_drop,List.length_take];rfl)) ?_;(with_reducible refine (spec_l3letter.calls (bt a0 x5_1) false _ A34.out).mono ?_);rintro e w' ⟨rfl,⟨nd,rfl⟩⟩;refine ⟨_,rfl,?_⟩))
         (try simp only [Act.put,List.setIfInBounds_toArray,List.set_cons_zero,List.set_cons_succ])
         go_cut [56] (fun v56 wc=>∃ (kq : Nat) (x56_46 : Bool),v56 = .bool x56_46 ∧ Aside0 (spec_Lex.j1 kq a0 x4_1 x5_1 x56_46 = some (r1,r2)) ∧ Aside0 (kq ≤ k1) ∧ Aside0 (Kd.R k60 60 wc w.heap.size (fun k_=>k_ ≠ gb816) u4 x4_1) ∧ Aside0 (wc.heap[gb816]? = some (.cells #[.int .i64 0,.string (⟨#[]⟩ : ByteArray),.int .i64 0,.int .i64 0] 60 (0,0))) ∧ Aside0 (Below w.heap.size w wc))
         case first =>
          have H:=HC47.out
          clear HC47
          by_cases c50 : (bt a0 x5_1) = 47
          ·rw [if_pos c50] at H
           have c50b0 : ((bt a0 x5_1) == 47) = true:=beq_iff_eq.mpr c50
           have c50b1 : ((bt a0 x5_1) != 47) = false:=bne_eq_false_iff_eq.mpr c50
           clear c50
           (first|rw [c50b0]|(simp only [i64_w,i32_w];rw [c50b0])|skip)
           replace H:=Option.bind_eq_some_iff.mp H
           obtain ⟨t846,A510,H⟩:=H
           replace H : (spec_Lex.j1 k1 a0 x4_1 x5_1 (!t846)) = some (r1,r2):=H
           have A51:=Aside0.mk A510
           clear A510
           have H':=Aside0.mk H
           clear H
           have p49 : 0 ≤ (x5_1 : Int):=of_decide_eq_true (by first|(with_reducible assumption)|assumption)
           have q49 : x5_1 < (a0.size : Int):=of_decide_eq_true (by first|(with_reducible assumption)|assumption)
           have hx49:=bt_at a0 x5_1
           replace p49:=eq_true p49
           replace q49:=eq_true q49
           obtain ⟨Ao52,co52,eo52⟩:=Kd.R_slice HO_4.out
           subst eo52
           go_wp2_with (first|(go_at_call 84;(with_reducible refine (spec_l3operand.calls _ _ x4_1 t846 _ ?side1 ?side2 A51.out).mono ?_);(case side1=>repeat (first|exact (Kd.R_reads' HO_4.out).2.2|(with_reducible refine Kd.C_alloc ?_ _)|(with_reducible refine Kd.C_drewN ?_ _)|(with_reducible refine Kd.C_drew ?_)));(case side2=>exact (Kd.R_reads' HO_4.out).2.1);rintro e w53 ⟨rfl,hb⟩;have n0_:=Aside0.mk (Kd.R_below (by (with_reducible repeat (first|apply Kd.R_alloc|apply Kd.R_drewN|apply Kd.R_drew));exact HO_4.out) hb);have n1_:=Aside0.mk (blk_below (g:=gb816) (o:=.cells #[.int .i64 0,.string (⟨#[]⟩ : ByteArray),.int .i64 0,.int .i64 0] 60 (0,0)) (by (with_reducible repeat (first|refine blk_drewN ?_ _|refine blk_drew ?_|refine blk_alloc ?_ _));exact BK816.out) hb);have n2_:=Aside0.mk (below_step (by repeat (first|(with_reducible first|exact HB.out|apply below_alloc|apply pw_below_drewN|apply below_drew1|refine below_set ?_ GE816.out)|exact HB.out)) hb);clear HO_4;clear BK816;clear HB;have HO_4:=n0_;have BK816:=n1_;have HB:=n2_;clear n0_ n1_ n2_;(try clear hb);(try clear hb2);(try clear hk);(try clear hi)))
           go_meet
           case rel=>exact ⟨_,(!t846),(by first|rfl|(simp;done)|(simp [*];done)),H',⟨by have:=HK1.out;first|omega|exact Nat.le_refl _⟩,⟨by (with_reducible repeat (first|apply Kd.R_alloc|apply Kd.R_drewN|apply Kd.R_drew));exact Kd.R_mono HO_4.out (fun _ hk=>hk.2)⟩,⟨by (with_reducible repeat (first|refine blk_drewN ?_ _|refine blk_drew ?_|refine blk_alloc ?_ _));exact BK816.out⟩,⟨by repeat (first|(with_reducible first|exact HB.out|apply below_alloc|apply pw_below_drewN|apply below_drew1|refine below_set ?_ GE816.out)|exact HB.out)⟩⟩
          ·rw [if_neg c50] at H
           have c50b0 : ((bt a0 x5_1) == 47) = false:=beq_eq_false_iff_ne.mpr c50
           have c50b1 : ((bt a0 x5_1) != 47) = true:=bne_iff_ne.mpr c50
           (first|rw [c50b0]|(simp only [i64_w,i32_w];rw [c50b0])|skip)
           have H':=Aside0.mk H
           clear H
           have p49 : 0 ≤ (x5_1 : Int):=of_decide_eq_true (by first|(with_reducible assumption)|assumption)
           have q49 : x5_1 < (a0.size : Int):=of_decide_eq_true (by first|(with_reducible assumption)|assumption)
           have hx49:=bt_at a0 x5_1
           replace p49:=eq_true p49
           replace q49:=eq_true q49
           go_wp2
           go_meet
           case rel=>exact ⟨_,(false),(by first|rfl|(simp;done)|(simp [*];done)),H',⟨by have:=HK1.out;first|omega|exact Nat.le_refl _⟩,⟨by (with_reducible repeat (first|apply Kd.R_alloc|apply Kd.R_drewN|apply Kd.R_drew));exact Kd.R_mono HO_4.out (fun _ hk=>hk.2)⟩,⟨by (with_reducible repeat (first|refine blk_drewN ?_ _|refine blk_drew ?_|refine blk_alloc ?_ _));exact BK816.out⟩,⟨by repeat (first|(with_reducible first|exact HB.out|apply below_alloc|apply pw_below_drewN|apply below_drew1|refine below_set ?_ GE816.out)|exact HB.out)⟩⟩
         case rest =>
          clear HC47
          try clear c1
          try clear c2
          try clear c2b0
          try clear c2b1
          try clear p2
          try clear q2
          try clear hx2
          try clear c3
          try clear p3
          try clear q3
          try clear hx3
          try clear c4
          try clear c4b0
          try clear p4
          try clear q4
          try clear hx4
          try clear c5
          try clear c5b0
          try clear p6
          try clear q6
          try clear hx6
          try clear c7
          try clear c8
          try clear c10
          try clear c10b0
          try clear c14
          try clear p20
          try clear q20
          try clear hx20
          try clear c21
          try clear c21b0
          try clear c21b1
          try clear c23
          try clear c23b0
          try clear c27
          try clear p33
          try clear q33
          try clear hx33
          try clear c35
          try clear c37
          try clear c37b0
          try clear c40
          try clear c41
          try clear p49
          try clear q49
          try clear hx49
          try clear c50
          try clear c50b0
          try clear c50b1
          try clear hcz13_0
          try clear hcz13_1
          try clear hcz13_2
          try clear hcz13_3
          try clear hcz18_0
          try clear hcz18_1
          try clear hcz18_2
          try clear hcz18_3
          try clear hcz26_0
          try clear hcz26_1
          try clear hcz26_2
          try clear hcz26_3
          try clear hcz31_0
          try clear hcz31_1
          try clear hcz31_2
          try clear hcz31_3
          try clear hcz40_0
          try clear hcz40_1
          try clear hcz40_2
          try clear hcz40_3
          try clear hcz45_0
          try clear hcz45_1
          try clear hcz45_2
          try clear hcz45_3
          try clear hfz13_0
          try clear hfz13_1
          try clear hfz13_2
          try clear hfz13_3
          try clear hfz18_0
          try clear hfz18_1
          try clear hfz18_2
          try clear hfz18_3
          try clear hfz26_0
          try clear hfz26_1
          try clear hfz26_2
          try clear hfz26_3
          try clear hfz31_0
          try clear hfz31_1
          try clear hfz31_2
          try clear hfz31_3
          try clear hfz40_0
          try clear hfz40_1
          try clear hfz40_2
          try clear hfz40_3
          try clear hfz45_0
          try clear hfz45_1
          try clear hfz45_2
          try clear hfz45_3
          try clear p2
          try clear p20
          try clear p33
          try clear p49
          try clear p6
          try clear q20
          try clear q33
          try clear q49
          try clear q6
          obtain ⟨kq,x56_46,rfl,HA,HJ46,HO_4,BK816,HB⟩:=hcut
          cases kq with
          | zero=>exact absurd HA.out (by simp [spec_Lex.j1])
          | succ kj46 =>
           have H:=HA.out
           clear HA
           simp only [spec_Lex.j1] at H
           by_cases c54 : x56_46 = true
           ·subst c54
            have H1 : ((spec_l3re.f kj46 a0 x5_1).bind fun bt847=>(if bt847.2.2.2.2 < 0 then (some (([] : List (S60)),x5_1)) else (if x4_1.length < 3518437208883 then ((spec_l3blank.f kj46 a0 bt847.2.2.2.2).bind fun t855=>(spec_Lex.l0 kj46 a0 (x4_1 ++ [(⟨bt847.1,bt847.2.1,bt847.2.2.1,bt847.2.2.2.1⟩ : S60)]) t855)) else (none)))) = some (r1,r2):=by rw [if_pos rfl] at H;exact H
            clear H
            have H:=H1
            clear H1
            replace H:=Option.bind_eq_some_iff.mp H
            obtain ⟨⟨t847,t848,t849,t850,t851⟩,A550,H⟩:=H
            replace H : (if t851 < 0 then (some (([] : List (S60)),x5_1)) else (if x4_1.length < 3518437208883 then ((spec_l3blank.f kj46 a0 t851).bind fun t855=>(spec_Lex.l0 kj46 a0 (x4_1 ++ [(⟨t847,t848,t849,t850⟩ : S60)]) t855)) else (none))) = some (r1,r2):=H
            have A55:=Aside0.mk A550
            clear A550
            by_cases c56 : t851 < 0
            ·rw [if_pos c56] at H
             have c56b0 : decide (t851 < 0) = true:=decide_eq_true c56
             clear c56
             simp only [Option.some.injEq,Prod.mk.injEq] at H
             obtain ⟨rfl,rfl⟩:=H
             go_wp2_with (first|((with_reducible refine gate_callee (f:=85) rfl ?_);refine goesL_ (some 69) rfl rfl Tryd.func85 (by kernel_rfl) rfl #[.string a0,.int .i64 x5_1] rfl (by (try simp only [List.map_toArray,List.map_cons,List.map_nil]);first|done|rfl|(simp only [List.length_drop,List.length_take];rfl)) ?_;(with_reducible refine (spec_l3re.calls kj46 a0 x5_1 t847 t848 t849 t850 t851 _ A55.out).mono ?_);rintro e w57 ⟨rfl,hb⟩;refine ⟨_,rfl,?_⟩;have n0_:=Aside0.mk (Kd.R_below (by (with_reducible repeat (first|apply Kd.R_alloc|apply Kd.R_drewN|apply Kd.R_drew));exact HO_4.out) hb);have n1_:=Aside0.mk (blk_below (g:=gb816) (o:=.cells #[.int .i64 0,.string (⟨#[]⟩ : ByteArray),.int .i64 0,.int .i64 0] 60 (0,0)) (by (with_reducible repeat (first|refine blk_drewN ?_ _|refine blk_drew ?_|refine blk_alloc ?_ _));exact BK816.out) hb);have n2_:=Aside0.mk (below_step (by repeat (first|(with_reducible first|exact HB.out|apply below_alloc|apply pw_below_drewN|apply below_drew1|refine below_set ?_ GE816.out)|exact HB.out)) hb);clear HO_4;clear BK816;clear HB;have HO_4:=n0_;have BK816:=n1_;have HB:=n2_;clear n0_ n1_ n2_;(try clear hb);(try clear hb2);(try clear hk);(try clear hi);have hcz58_0 : w57.cell? ⟨gb816,0,none⟩ = some (.int .i64 0):=(blk_cell BK816.out 0).trans rfl;have hcz58_1 : w57.cell? ⟨gb816,1,none⟩ = some (.string (⟨#[]⟩ : ByteArray)):=(blk_cell BK816.out 1).trans rfl;have hcz58_2 : w57.cell? ⟨gb816,2,none⟩ = some (.int .i64 0):=(blk_cell BK816.out 2).trans rfl;have hcz58_3 : w57.cell? ⟨gb816,3,none⟩ = some (.int .i64 0):=(blk_cell BK816.out 3).trans rfl;have hfz58_0:=blk_frozen BK816.out 0;have hfz58_1:=blk_frozen BK816.out 1;have hfz58_2:=blk_frozen BK816.out 2;have hfz58_3:=blk_frozen BK816.out 3))
             go_ret2
             exact ⟨_,by first|rfl|(simp [errW_none,errW_some] <;> rfl)|(simp [*,errW_none,errW_some] <;> rfl),by first|exact Kd.R_nil _ _ _ _ _|exact Kd.N_nil _ _ _ _ _|exact Kd.V_nil _ _ _ _ _|exact Kd.Q_nil _ _ _ _ _|exact Kd.S_nil _ _ _ _ _,by repeat (first|(with_reducible first|exact HB.out|apply below_alloc|apply pw_below_drewN|apply below_drew1|refine below_set ?_ GE816.out)|exact HB.out)⟩
            ·rw [if_neg c56] at H
             have c56b0 : decide (t851 < 0) = false:=decide_eq_false c56
             clear c56
             by_cases c59 : x4_1.length < 3518437208883
             ·rw [if_pos c59] at H
              have LMc59:=Aside0.mk c59
              clear c59
              obtain ⟨y852,hy852⟩ : ∃ y_ : List (S60),y_ = (x4_1 ++ [(⟨t847,t848,t849,t850⟩ : S60)]):=⟨_,rfl⟩
              replace H : ((spec_l3blank.f kj46 a0 t851).bind fun t855=>(spec_Lex.l0 kj46 a0 y852 t855)) = some (r1,r2):=by first|(rw [hy852];with_reducible exact H)|(have H2_:=(Option.bind_some _ _).symm.trans H;rw [hy852];with_reducible exact H2_)|(have H2_:=(Option.bind_some _ _).symm.trans H;with_reducible exact H2_)|with_reducible exact H|(rw [hy852];exact H)|exact H
              have Ny852:=Aside0.mk hy852
              clear hy852
              replace H:=Option.bind_eq_some_iff.mp H
              obtain ⟨t855,A600,H⟩:=H
              replace H : (spec_Lex.l0 kj46 a0 y852 t855) = some (r1,r2):=H
              have A60:=Aside0.mk A600
              clear A600
              have H':=Aside0.mk H
              clear H
              go_wp2_with (first|((with_reducible refine gate_callee (f:=85) rfl ?_);refine goesL_ (some 69) rfl rfl Tryd.func85 (by kernel_rfl) rfl #[.string a0,.int .i64 x5_1] rfl (by (try simp only [List.map_toArray,List.map_cons,List.map_nil]);first|done|rfl|(simp only [List.length_drop,List.length_take];rfl)) ?_;(with_reducible refine (spec_l3re.calls kj46 a0 x5_1 t847 t848 t849 t850 t851 _ A55.out).mono ?_);rintro e w61 ⟨rfl,hb⟩;refine ⟨_,rfl,?_⟩;have n0_:=Aside0.mk (Kd.R_below (by (with_reducible repeat (first|apply Kd.R_alloc|apply Kd.R_drewN|apply Kd.R_drew));exact HO_4.out) hb);have n1_:=Aside0.mk (blk_below (g:=gb816) (o:=.cells #[.int .i64 0,.string (⟨#[]⟩ : ByteArray),.int .i64 0,.int .i64 0] 60 (0,0)) (by (with_reducible repeat (first|refine blk_drewN ?_ _|refine blk_drew ?_|refine blk_alloc ?_ _));exact BK816.out) hb);have n2_:=Aside0.mk (below_step (by repeat (first|(with_reducible first|exact HB.out|apply below_alloc|apply pw_below_drewN|apply below_drew1|refine below_set ?_ GE816.out)|exact HB.out)) hb);clear HO_4;clear BK816;clear HB;have HO_4:=n0_;have BK816:=n1_;have HB:=n2_;clear n0_ n1_ n2_;(try clear hb);(try clear hb2);(try clear hk);(try clear hi);have hcz62_0 : w61.cell? ⟨gb816,0,none⟩ = some (.int .i64 0):=(blk_cell BK816.out 0).trans rfl;have hcz62_1 : w61.cell? ⟨gb816,1,none⟩ = some (.string (⟨#[]⟩ : ByteArray)):=(blk_cell BK816.out 1).trans rfl;have hcz62_2 : w61.cell? ⟨gb816,2,none⟩ = some (.int .i64 0):=(blk_cell BK816.out 2).trans rfl;have hcz62_3 : w61.cell? ⟨gb816,3,none⟩ = some (.int .i64 0):=(blk_cell BK816.out 3).trans rfl;have hfz62_0:=blk_frozen BK816.out 0;have hfz62_1:=blk_frozen BK816.out 1;have hfz62_2:=blk_frozen BK816.out 2;have hfz62_3:=blk_frozen BK816.out 3)|((with_reducible refine gate_builtin (b:=.append) (xs:=#[.tmp 75,.tmp 77]) rfl ?_);at_builtin;refine Kd.R_append k60 (w0:=w) w.heap.size rfl (.tmp 75) (.tmp 77) 55 60 (.agg #[(.int .i64 0),(.string ⟨#[]⟩),(.int .i64 0),(.int .i64 0)]) 40 rfl Tryd.underlying55 info60 rfl (by decide) (by omega) u4 x4_1 (⟨t847,t848,t849,t850⟩ : S60) [.int .i64 t847,.string t848,.int .i64 t849,.int .i64 t850] (fun k_=>k_ ≠ gb816) (fun _=>False) rfl (by first|(go_simp;done)|(go_simp;rfl)) ?aP (fun _ hk=>hk.elim) ?aF ?aO ?aB ?aS ?aL ?_;(case aP=>exact k60_mkM _ _ _ (⟨t847,t848,t849,t850⟩ : S60));(case aB=>exact (by repeat (first|(with_reducible first|exact HB.out|apply below_alloc|apply pw_below_drewN|apply below_drew1|refine below_set ?_ GE816.out)|exact HB.out)));(case aF=>exact (fun k_ hk=>Kd.freshB (g:=gb816) (o:=.cells #[.int .i64 t847,.string t848,.int .i64 t849,.int .i64 t850] 60 (0,0)) (by (with_reducible repeat (first|refine blk_drewN ?_ _|refine blk_drew ?_|refine blk_alloc ?_ _));refine blk_put (cs:=#[.int .i64 t847,.string t848,.int .i64 t849,.int .i64 0]) ?_ 3 _ rfl;(with_reducible repeat (first|refine blk_drewN ?_ _|refine blk_drew ?_|refine blk_alloc ?_ _));refine blk_put (cs:=#[.int .i64 t847,.string t848,.int .i64 0,.int .i64 0]) ?_ 2 _ rfl;(with_reducible repeat (first|refine blk_drewN ?_ _|refine blk_drew ?_|refine blk_alloc ?_ _));refine blk_put (cs:=#[.int .i64 t847,.string (⟨#[]⟩ : ByteArray),.int .i64 0,.int .i64 0]) ?_ 1 _ rfl;(with_reducible repeat (first|refine blk_drewN ?_ _|refine blk_drew ?_|refine blk_alloc ?_ _));refine blk_put (cs:=#[.int .i64 0,.string (⟨#[]⟩ : ByteArray),.int .i64 0,.int .i64 0]) ?_ 0 _ rfl;(with_reducible repeat (first|refine blk_drewN ?_ _|refine blk_drew ?_|refine blk_alloc ?_ _));exact BK816.out) k_ hk));(case aO=>exact (by (with_reducible repeat (first|apply Kd.R_alloc|apply Kd.R_drewN|apply Kd.R_drew));exact Kd.R_mono (Kd.R_far (p:=⟨gb816,3,none⟩) (Kd.R_far (p:=⟨gb816,2,none⟩) (Kd.R_far (p:=⟨gb816,1,none⟩) (Kd.R_far (p:=⟨gb816,0,none⟩) (Kd.R_mono HO_4.out (fun k_ hk=>(⟨hk,hk⟩ : _ ∧ k_ ≠ gb816))) (fun _ hk=>hk.2) (.int .i64 t847)) (fun _ hk=>hk.2) (.string t848)) (fun _ hk=>hk.2) (.int .i64 t849)) (fun _ hk=>hk.2) (.int .i64 t850)) (fun _ hk=>hk.1)));(case aS=>exact (below_size (by repeat (first|(with_reducible first|exact HB.out|apply below_alloc|apply pw_below_drewN|apply below_drew1|refine below_set ?_ GE816.out)|exact HB.out))));(case aL=>have:=LMc59.out;omega);intro v853 w63 ho hb hg hat;rw [← Ny852.out] at ho;have n0_:=Aside0.mk (blk_grown (g:=gb816) (o:=.cells #[.int .i64 t847,.string t848,.int .i64 t849,.int .i64 t850] 60 (0,0)) (by (with_reducible repeat (first|refine blk_drewN ?_ _|refine blk_drew ?_|refine blk_alloc ?_ _));refine blk_put (cs:=#[.int .i64 t847,.string t848,.int .i64 t849,.int .i64 0]) ?_ 3 _ rfl;(with_reducible repeat (first|refine blk_drewN ?_ _|refine blk_drew ?_|refine blk_alloc ?_ _));refine blk_put (cs:=#[.int .i64 t847,.string t848,.int .i64 0,.int .i64 0]) ?_ 2 _ rfl;(with_reducible repeat (first|refine blk_drewN ?_ _|refine blk_drew ?_|refine blk_alloc ?_ _));refine blk_put (cs:=#[.int .i64 t847,.string (⟨#[]⟩ : ByteArray),.int .i64 0,.int .i64 0]) ?_ 1 _ rfl;(with_reducible repeat (first|refine blk_drewN ?_ _|refine blk_drew ?_|refine blk_alloc ?_ _));refine blk_put (cs:=#[.int .i64 0,.string (⟨#[]⟩ : ByteArray),.int .i64 0,.int .i64 0]) ?_ 0 _ rfl;(with_reducible repeat (first|refine blk_drewN ?_ _|refine blk_drew ?_|refine blk_alloc ?_ _));exact BK816.out) hg (Kd.R_away HO_4.out (fun _ hk=>hk)));have n1_:=Aside0.mk (hb);have n2_:=Aside0.mk (ho);clear BK816;clear HB;clear HO_4;have BK816:=n0_;have HB:=n1_;have HO854:=n2_;clear n0_ n1_ n2_;clear ho hb hg hat)|((with_reducible refine gate_callee (f:=79) rfl ?_);refine goesL_ (some 81) rfl rfl Tryd.func79 (by kernel_rfl) rfl #[.string a0,.int .i64 t851] rfl (by (try simp only [List.map_toArray,List.map_cons,List.map_nil]);first|done|rfl|(simp only [List.length_drop,List.length_take];rfl)) ?_;(with_reducible refine (spec_l3blank.calls kj46 a0 t851 t855 _ A60.out).mono ?_);rintro e w' ⟨rfl,⟨nd,rfl⟩⟩;refine ⟨_,rfl,?_⟩))
              go_roundg kj46
              case measure=>have:=HK1.out;have:=HJ46.out;omega
              case rel=>exact ⟨(y852),(t855),(by first|rfl|(simp;done)|(simp [*];done)),H',⟨by have:=HK1.out;have:=HJ46.out;omega⟩,⟨by (with_reducible repeat (first|apply Kd.R_alloc|apply Kd.R_drewN|apply Kd.R_drew));exact Kd.R_mono HO854.out (fun _ hk=>trivial)⟩,⟨by repeat (first|(with_reducible first|exact HB.out|apply below_alloc|apply pw_below_drewN|apply below_drew1|refine below_set ?_ GE816.out)|exact HB.out)⟩⟩
             ·rw [if_neg c59] at H
              exact absurd H (by simp)
           ·replace c54:=Bool.eq_false_iff.mpr c54
            subst c54
            have H1 : ((spec_l3sign.f kj46 a0 x5_1).bind fun bt856=>(if bt856.2.2.2.2 < 0 then (some (([] : List (S60)),x5_1)) else (if x4_1.length < 3518437208883 then ((spec_l3blank.f kj46 a0 bt856.2.2.2.2).bind fun t864=>(spec_Lex.l0 kj46 a0 (x4_1 ++ [(⟨bt856.1,bt856.2.1,bt856.2.2.1,bt856.2.2.2.1⟩ : S60)]) t864)) else (none)))) = some (r1,r2):=by rw [if_neg (show ¬ (false = true) by decide)] at H;exact H
            clear H
            have H:=H1
            clear H1
            replace H:=Option.bind_eq_some_iff.mp H
            obtain ⟨⟨t856,t857,t858,t859,t860⟩,A640,H⟩:=H
            replace H : (if t860 < 0 then (some (([] : List (S60)),x5_1)) else (if x4_1.length < 3518437208883 then ((spec_l3blank.f kj46 a0 t860).bind fun t864=>(spec_Lex.l0 kj46 a0 (x4_1 ++ [(⟨t856,t857,t858,t859⟩ : S60)]) t864)) else (none))) = some (r1,r2):=H
            have A64:=Aside0.mk A640
            clear A640
            by_cases c65 : t860 < 0
            ·rw [if_pos c65] at H
             have c65b0 : decide (t860 < 0) = true:=decide_eq_true c65
             clear c65
             simp only [Option.some.injEq,Prod.mk.injEq] at H
             obtain ⟨rfl,rfl⟩:=H
             go_wp2_with (first|((with_reducible refine gate_callee (f:=86) rfl ?_);refine goesL_ (some 20) rfl rfl Tryd.func86 (by kernel_rfl) rfl #[.string a0,.int .i64 x5_1] rfl (by (try simp only [List.map_toArray,List.map_cons,List.map_nil]);first|done|rfl|(simp only [List.length_drop,List.length_take];rfl)) ?_;(with_reducible refine (spec_l3sign.calls kj46 a0 x5_1 t856 t857 t858 t859 t860 _ A64.out).mono ?_);rintro e w66 ⟨rfl,hb⟩;refine ⟨_,rfl,?_⟩;have n0_:=Aside0.mk (Kd.R_below (by (with_reducible repeat (first|apply Kd.R_alloc|apply Kd.R_drewN|apply Kd.R_drew));exact HO_4.out) hb);have n1_:=Aside0.mk (blk_below (g:=gb816) (o:=.cells #[.int .i64 0,.string (⟨#[]⟩ : ByteArray),.int .i64 0,.int .i64 0] 60 (0,0)) (by (with_reducible repeat (first|refine blk_drewN ?_ _|refine blk_drew ?_|refine blk_alloc ?_ _));exact BK816.out) hb);have n2_:=Aside0.mk (below_step (by repeat (first|(with_reducible first|exact HB.out|apply below_alloc|apply pw_below_drewN|apply below_drew1|refine below_set ?_ GE816.out)|exact HB.out)) hb);clear HO_4;clear BK816;clear HB;have HO_4:=n0_;have BK816:=n1_;have HB:=n2_;clear n0_ n1_ n2_;(try clear hb);(try clear hb2);(try clear hk);(try clear hi);have hcz67_0 : w66.cell? ⟨gb816,0,none⟩ = some (.int .i64 0):=(blk_cell BK816.out 0).trans rfl;have hcz67_1 : w66.cell? ⟨gb816,1,none⟩ = some (.string (⟨#[]⟩ : ByteArray)):=(blk_cell BK816.out 1).trans rfl;have hcz67_2 : w66.cell? ⟨gb816,2,none⟩ = some (.int .i64 0):=(blk_cell BK816.out 2).trans rfl;have hcz67_3 : w66.cell? ⟨gb816,3,none⟩ = some (.int .i64 0):=(blk_cell BK816.out 3).trans rfl;have hfz67_0:=blk_frozen BK816.out 0;have hfz67_1:=blk_frozen BK816.out 1;have hfz67_2:=blk_frozen BK816.out 2;have hfz67_3:=blk_frozen BK816.out 3))
             go_ret2
             exact ⟨_,by first|rfl|(simp [errW_none,errW_some] <;> rfl)|(simp [*,errW_none,errW_some] <;> rfl),by first|exact Kd.R_nil _ _ _ _ _|exact Kd.N_nil _ _ _ _ _|exact Kd.V_nil _ _ _ _ _|exact Kd.Q_nil _ _ _ _ _|exact Kd.S_nil _ _ _ _ _,by repeat (first|(with_reducible first|exact HB.out|apply below_alloc|apply pw_below_drewN|apply below_drew1|refine below_set ?_ GE816.out)|exact HB.out)⟩
            ·rw [if_neg c65] at H
             have c65b0 : decide (t860 < 0) = false:=decide_eq_false c65
             clear c65
             by_cases c68 : x4_1.length < 3518437208883
             ·rw [if_pos c68] at H
              have LMc68:=Aside0.mk c68
              clear c68
              obtain ⟨y861,hy861⟩ : ∃ y_ : List (S60),y_ = (x4_1 ++ [(⟨t856,t857,t858,t859⟩ : S60)]):=⟨_,rfl⟩
              replace H : ((spec_l3blank.f kj46 a0 t860).bind fun t864=>(spec_Lex.l0 kj46 a0 y861 t864)) = some (r1,r2):=by first|(rw [hy861];with_reducible exact H)|(have H2_:=(Option.bind_some _ _).symm.trans H;rw [hy861];with_reducible exact H2_)|(have H2_:=(Option.bind_some _ _).symm.trans H;with_reducible exact H2_)|with_reducible exact H|(rw [hy861];exact H)|exact H
              have Ny861:=Aside0.mk hy861
              clear hy861
              replace H:=Option.bind_eq_some_iff.mp H
              obtain ⟨t864,A690,H⟩:=H
              replace H : (spec_Lex.l0 kj46 a0 y861 t864) = some (r1,r2):=H
              have A69:=Aside0.mk A690
              clear A690
              have H':=Aside0.mk H
              clear H
              go_wp2_with (first|((with_reducible refine gate_callee (f:=86) rfl ?_);refine goesL_ (some 20) rfl rfl Tryd.func86 (by kernel_rfl) rfl #[.string a0,.int .i64 x5_1] rfl (by (try simp only [List.map_toArray,List.map_cons,List.map_nil]);first|done|rfl|(simp only [List.length_drop,List.length_take];rfl)) ?_;(with_reducible refine (spec_l3sign.calls kj46 a0 x5_1 t856 t857 t858 t859 t860 _ A64.out).mono ?_);rintro e w70 ⟨rfl,hb⟩;refine ⟨_,rfl,?_⟩;have n0_:=Aside0.mk (Kd.R_below (by (with_reducible repeat (first|apply Kd.R_alloc|apply Kd.R_drewN|apply Kd.R_drew));exact HO_4.out) hb);have n1_:=Aside0.mk (blk_below (g:=gb816) (o:=.cells #[.int .i64 0,.string (⟨#[]⟩ : ByteArray),.int .i64 0,.int .i64 0] 60 (0,0)) (by (with_reducible repeat (first|refine blk_drewN ?_ _|refine blk_drew ?_|refine blk_alloc ?_ _));exact BK816.out) hb);have n2_:=Aside0.mk (below_step (by repeat (first|(with_reducible first|exact HB.out|apply below_alloc|apply pw_below_drewN|apply below_drew1|refine below_set ?_ GE816.out)|exact HB.out)) hb);clear HO_4;clear BK816;clear HB;have HO_4:=n0_;have BK816:=n1_;have HB:=n2_;clear n0_ n1_ n2_;(try clear hb);(try clear hb2);(try clear hk);(try clear hi);have hcz71_0 : w70.cell? ⟨gb816,0,none⟩ = some (.int .i64 0):=(blk_cell BK816.out 0).trans rfl;have hcz71_1 : w70.cell? ⟨gb816,1,none⟩ = some (.string (⟨#[]⟩ : ByteArray)):=(blk_cell BK816.out 1).trans rfl;have hcz71_2 : w70.cell? ⟨gb816,2,none⟩ = some (.int .i64 0):=(blk_cell BK816.out 2).trans rfl;have hcz71_3 : w70.cell? ⟨gb816,3,none⟩ = some (.int .i64 0):=(blk_cell BK816.out 3).trans rfl;have hfz71_0:=blk_frozen BK816.out 0;have hfz71_1:=blk_frozen BK816.out 1;have hfz71_2:=blk_frozen BK816.out 2;have hfz71_3:=blk_frozen BK816.out 3)|((with_reducible refine gate_builtin (b:=.append) (xs:=#[.tmp 75,.tmp 77]) rfl ?_);at_builtin;refine Kd.R_append k60 (w0:=w) w.heap.size rfl (.tmp 75) (.tmp 77) 55 60 (.agg #[(.int .i64 0),(.string ⟨#[]⟩),(.int .i64 0),(.int .i64 0)]) 40 rfl Tryd.underlying55 info60 rfl (by decide) (by omega) u4 x4_1 (⟨t856,t857,t858,t859⟩ : S60) [.int .i64 t856,.string t857,.int .i64 t858,.int .i64 t859] (fun k_=>k_ ≠ gb816) (fun _=>False) rfl (by first|(go_simp;done)|(go_simp;rfl)) ?aP (fun _ hk=>hk.elim) ?aF ?aO ?aB ?aS ?aL ?_;(case aP=>exact k60_mkM _ _ _ (⟨t856,t857,t858,t859⟩ : S60));(case aB=>exact (by repeat (first|(with_reducible first|exact HB.out|apply below_alloc|apply pw_below_drewN|apply below_drew1|refine below_set ?_ GE816.out)|exact HB.out)));(case aF=>exact (fun k_ hk=>Kd.freshB (g:=gb816) (o:=.cells #[.int .i64 t856,.string t857,.int .i64 t858,.int .i64 t859] 60 (0,0)) (by (with_reducible repeat (first|refine blk_drewN ?_ _|refine blk_drew ?_|refine blk_alloc ?_ _));refine blk_put (cs:=#[.int .i64 t856,.string t857,.int .i64 t858,.int .i64 0]) ?_ 3 _ rfl;(with_reducible repeat (first|refine blk_drewN ?_ _|refine blk_drew ?_|refine blk_alloc ?_ _));refine blk_put (cs:=#[.int .i64 t856,.string t857,.int .i64 0,.int .i64 0]) ?_ 2 _ rfl;(with_reducible repeat (first|refine blk_drewN ?_ _|refine blk_drew ?_|refine blk_alloc ?_ _));refine blk_put (cs:=#[.int .i64 t856,.string (⟨#[]⟩ : ByteArray),.int .i64 0,.int .i64 0]) ?_ 1 _ rfl;(with_reducible repeat (first|refine blk_drewN ?_ _|refine blk_drew ?_|refine blk_alloc ?_ _));refine blk_put (cs:=#[.int .i64 0,.string (⟨#[]⟩ : ByteArray),.int .i64 0,.int .i64 0]) ?_ 0 _ rfl;(with_reducible repeat (first|refine blk_drewN ?_ _|refine blk_drew ?_|refine blk_alloc ?_ _));exact BK816.out) k_ hk));(case aO=>exact (by (with_reducible repeat (first|apply Kd.R_alloc|apply Kd.R_drewN|apply Kd.R_drew));exact Kd.R_mono (Kd.R_far (p:=⟨gb816,3,none⟩) (Kd.R_far (p:=⟨gb816,2,none⟩) (Kd.R_far (p:=⟨gb816,1,none⟩) (Kd.R_far (p:=⟨gb816,0,none⟩) (Kd.R_mono HO_4.out (fun k_ hk=>(⟨hk,hk⟩ : _ ∧ k_ ≠ gb816))) (fun _ hk=>hk.2) (.int .i64 t856)) (fun _ hk=>hk.2) (.string t857)) (fun _ hk=>hk.2) (.int .i64 t858)) (fun _ hk=>hk.2) (.int .i64 t859)) (fun _ hk=>hk.1)));(case aS=>exact (below_size (by repeat (first|(with_reducible first|exact HB.out|apply below_alloc|apply pw_below_drewN|apply below_drew1|refine below_set ?_ GE816.out)|exact HB.out))));(case aL=>have:=LMc68.out;omega);intro v862 w72 ho hb hg hat;rw [← Ny861.out] at ho;have n0_:=Aside0.mk (blk_grown (g:=gb816) (o:=.cells #[.int .i64 t856,.string t857,.int .i64 t858,.int .i64 t859] 60 (0,0)) (by (with_reducible repeat (first|refine blk_drewN ?_ _|refine blk_drew ?_|refine blk_alloc ?_ _));refine blk_put (cs:=#[.int .i64 t856,.string t857,.int .i64 t858,.int .i64 0]) ?_ 3 _ rfl;(with_reducible repeat (first|refine blk_drewN ?_ _|refine blk_drew ?_|refine blk_alloc ?_ _));refine blk_put (cs:=#[.int .i64 t856,.string t857,.int .i64 0,.int .i64 0]) ?_ 2 _ rfl;(with_reducible repeat (first|refine blk_drewN ?_ _|refine blk_drew ?_|refine blk_alloc ?_ _));refine blk_put (cs:=#[.int .i64 t856,.string (⟨#[]⟩ : ByteArray),.int .i64 0,.int .i64 0]) ?_ 1 _ rfl;(with_reducible repeat (first|refine blk_drewN ?_ _|refine blk_drew ?_|refine blk_alloc ?_ _));refine blk_put (cs:=#[.int .i64 0,.string (⟨#[]⟩ : ByteArray),.int .i64 0,.int .i64 0]) ?_ 0 _ rfl;(with_reducible repeat (first|refine blk_drewN ?_ _|refine blk_drew ?_|refine blk_alloc ?_ _));exact BK816.out) hg (Kd.R_away HO_4.out (fun _ hk=>hk)));have n1_:=Aside0.mk (hb);have n2_:=Aside0.mk (ho);clear BK816;clear HB;clear HO_4;have BK816:=n0_;have HB:=n1_;have HO863:=n2_;clear n0_ n1_ n2_;clear ho hb hg hat)|((with_reducible refine gate_callee (f:=79) rfl ?_);refine goesL_ (some 81) rfl rfl Tryd.func79 (by kernel_rfl) rfl #[.string a0,.int .i64 t860] rfl (by (try simp only [List.map_toArray,List.map_cons,List.map_nil]);first|done|rfl|(simp only [List.length_drop,List.length_take];rfl)) ?_;(with_reducible refine (spec_l3blank.calls kj46 a0 t860 t864 _ A69.out).mono ?_);rintro e w' ⟨rfl,⟨nd,rfl⟩⟩;refine ⟨_,rfl,?_⟩))
              go_roundg kj46
              case measure=>have:=HK1.out;have:=HJ46.out;omega
              case rel=>exact ⟨(y861),(t864),(by first|rfl|(simp;done)|(simp [*];done)),H',⟨by have:=HK1.out;have:=HJ46.out;omega⟩,⟨by (with_reducible repeat (first|apply Kd.R_alloc|apply Kd.R_drewN|apply Kd.R_drew));exact Kd.R_mono HO863.out (fun _ hk=>trivial)⟩,⟨by repeat (first|(with_reducible first|exact HB.out|apply below_alloc|apply pw_below_drewN|apply below_drew1|refine below_set ?_ GE816.out)|exact HB.out)⟩⟩
             ·rw [if_neg c68] at H
              exact absurd H (by simp)
     ·rw [if_neg c5] at H
      exact absurd H (by simp)
    ·rw [if_neg c4] at H
     have c4b0 : decide (x5_1 < (a0.size : Int)) = false:=decide_eq_false c4
     clear c4
     simp only [Option.some.injEq,Prod.mk.injEq] at H
     obtain ⟨rfl,rfl⟩:=H
     go_wp2
     go_ret2
     exact ⟨_,by first|rfl|(simp [errW_none,errW_some] <;> rfl)|(simp [*,errW_none,errW_some] <;> rfl),by (with_reducible repeat (first|apply Kd.R_alloc|apply Kd.R_drewN|apply Kd.R_drew));exact HO_4.out,by repeat (first|(with_reducible first|exact HB.out|apply below_alloc|apply pw_below_drewN|apply below_drew1)|exact HB.out)⟩
mutual
def laws_FnWords.j0 : Nat → List (S60) → Int → Int → Bool → Option (Bool)
 | 0,_,_,_,_=>none
 | k + 1,x4,x5,x7,x31=>if x31 = true then (if x5 = x7 then (if (x4.length : Int) = 0 then ((laws_words.f k).bind fun t874=>(some t874)) else (some false)) else (some false)) else (laws_FnWords.l0 k x4 (⟨#[]⟩ : ByteArray) 0)
def laws_FnWords.l0 : Nat → List (S60) → ByteArray → Int → Option (Bool)
 | 0,_,_,_=>none
 | k + 1,x4,x8,x9=>if x9 < (x4.length : Int) then (if 0 ≤ x9 then ((impl_TokText.f k ((rd_T60 x4 x9).f0) ((rd_T60 x4 x9).f1) ((rd_T60 x4 x9).f2) ((rd_T60 x4 x9).f3)).bind fun t876=>(if x8.size + t876.size ≤ 9223372036854775807 then (if ((rd_T60 x4 x9).f0) = 5 then (if x9 > 0 then (if 0 ≤ (wrap64 (x9 - 1)) then (if (wrap64 (x9 - 1)) < (x4.length : Int) then (if ((rd_T60 x4 x9).f3) ≤ ((rd_T60 x4 (wrap64 (x9 - 1))).f3) then (some false) else (laws_FnWords.l0 k x4 (x8 ++ t876) (wrap64 (x9 + 1)))) else (none)) else (none)) else (laws_FnWords.l0 k x4 (x8 ++ t876) (wrap64 (x9 + 1)))) else (if (x8 ++ t876).size + 1 ≤ 9223372036854775807 then (if x9 > 0 then (if 0 ≤ (wrap64 (x9 - 1)) then (if (wrap64 (x9 - 1)) < (x4.length : Int) then (if ((rd_T60 x4 x9).f3) ≤ ((rd_T60 x4 (wrap64 (x9 - 1))).f3) then (some false) else (laws_FnWords.l0 k x4 ((x8 ++ t876) ++ (⟨#[32]⟩ : ByteArray)) (wrap64 (x9 + 1)))) else (none)) else (none)) else (laws_FnWords.l0 k x4 ((x8 ++ t876) ++ (⟨#[32]⟩ : ByteArray)) (wrap64 (x9 + 1)))) else (none))) else (none))) else (none)) else ((impl_Lex.f k x8).bind fun bt882=>(if (x8.size : Int) > 4000 then ((laws_words.f k).bind fun t886=>(some t886)) else (if bt882.2 = (-1) then (laws_FnWords.j2 k x4 bt882.1 ((bt882.1.length : Int) != (x4.length : Int))) else (laws_FnWords.j2 k x4 bt882.1 true))))
def laws_FnWords.j2 : Nat → List (S60) → List (S60) → Bool → Option (Bool)
 | 0,_,_,_=>none
 | k + 1,x4,x10,x97=>if x97 = true then (some false) else (laws_FnWords.l1 k x4 x10 0)
def laws_FnWords.l1 : Nat → List (S60) → List (S60) → Int → Option (Bool)
 | 0,_,_,_=>none
 | k + 1,x4,x10,x12=>if x12 < (x4.length : Int) then (if 0 ≤ x12 then (if x12 < (x10.length : Int) then (if ((rd_T60 x10 x12).f0) = ((rd_T60 x4 x12).f0) then (if ((rd_T60 x10 x12).f1).toList = ((rd_T60 x4 x12).f1).toList then (if ((rd_T60 x10 x12).f2) = ((rd_T60 x4 x12).f2) then (laws_FnWords.l1 k x4 x10 (wrap64 (x12 + 1))) else (some false)) else (some false)) else (some false)) else (none)) else (none)) else ((laws_words.f k).bind fun t893=>(some t893))
end
def laws_FnWords.f (k : Nat) (l0 : List Int) : Option (Bool):=(spec_DrawLex.f k l0).bind fun t865=>((impl_Lex.f k t865).bind fun bt866=>((spec_Lex.f k t865).bind fun bt870=>(if bt866.2 = bt870.2 then (laws_FnWords.j0 k bt866.1 bt866.2 bt870.2 (decide (bt866.2 ≥ 0))) else (laws_FnWords.j0 k bt866.1 bt866.2 bt870.2 true))))
set_option maxHeartbeats 8000000 in
set_option maxRecDepth 100000 in
theorem laws_FnWords.calls (k : Nat) (A0 : Option Addr) (c0 : Nat) (l0 : List Int) (r : Bool) (w : World) (hr0 : Kd.C (Kd.int .u8) w A0 l0.length l0) (hc0 : l0.length ≤ c0) (h : laws_FnWords.f k l0 = some r) (hT : Tabs w:=by first|assumption|(refine Aside0.out (p:=Tabs _) ?_;assumption)|(refine Tabs.below (w:=?ww) (Aside0.out ?ha) ?hb;(case ha=>assumption);(case hb=>repeat (first|(with_reducible first|exact Below.refl _ _|(refine Aside0.out ?_;assumption)|apply below_alloc|apply pw_below_drewN|apply below_drew1|(refine below_set ?_ (Aside0.out ?_);(rotate_left;assumption)))|(refine Aside0.out ?_;assumption))))|(refine Tabs.drewN (w:=?ww) (Aside0.out ?ha) _;(case ha=>assumption))) (hr : r = true:=by first|assumption|rfl|(refine Aside0.out ?_;assumption)) :
  Calls Tryd.prog 9 #[.slice A0 l0.length c0] w fun e w'=>e = .returned (.bool r) ∧ Below w.heap.size w w':=by
 have HT_:=Aside0.mk hT
 clear hT
 subst hr
 have hu60:=Tryd.underlying60
 have HR0:=Aside0.mk hr0
 have HC0:=Aside0.mk hc0
 clear hr0 hc0
 have HB:=Aside0.mk (Below.refl w.heap.size w)
 have H : ((spec_DrawLex.f k l0).bind fun t865=>((impl_Lex.f k t865).bind fun bt866=>((spec_Lex.f k t865).bind fun bt870=>(if bt866.2 = bt870.2 then (laws_FnWords.j0 k bt866.1 bt866.2 bt870.2 (decide (bt866.2 ≥ 0))) else (laws_FnWords.j0 k bt866.1 bt866.2 bt870.2 true))))) = some true:=h
 clear h
 replace H:=Option.bind_eq_some_iff.mp H
 obtain ⟨t865,A20,H⟩:=H
 replace H : ((impl_Lex.f k t865).bind fun bt866=>((spec_Lex.f k t865).bind fun bt870=>(if bt866.2 = bt870.2 then (laws_FnWords.j0 k bt866.1 bt866.2 bt870.2 (decide (bt866.2 ≥ 0))) else (laws_FnWords.j0 k bt866.1 bt866.2 bt870.2 true)))) = some true:=H
 have A2:=Aside0.mk A20
 clear A20
 replace H:=Option.bind_eq_some_iff.mp H
 obtain ⟨⟨t866,t867⟩,A30,H⟩:=H
 replace H : ((spec_Lex.f k t865).bind fun bt870=>(if t867 = bt870.2 then (laws_FnWords.j0 k t866 t867 bt870.2 (decide (t867 ≥ 0))) else (laws_FnWords.j0 k t866 t867 bt870.2 true))) = some true:=H
 have A3:=Aside0.mk A30
 clear A30
 replace H:=Option.bind_eq_some_iff.mp H
 obtain ⟨⟨t870,t871⟩,A40,H⟩:=H
 replace H : (if t867 = t871 then (laws_FnWords.j0 k t866 t867 t871 (decide (t867 ≥ 0))) else (laws_FnWords.j0 k t866 t867 t871 true)) = some true:=H
 have A4:=Aside0.mk A40
 clear A40
 have HC5:=Aside0.mk H
 clear H
 go_enter Tryd.func9,Tryd.ntmps9
 go_upto_region 4 with (first|(go_at_call 38;(with_reducible refine (spec_DrawLex.calls k _ _ l0 t865 _ ?side1 ?side2 A2.out).mono ?_);(case side1=>repeat (first|exact HR0.out|(with_reducible refine Kd.C_alloc ?_ _)|(with_reducible refine Kd.C_drewN ?_ _)|(with_reducible refine Kd.C_drew ?_)));(case side2=>exact HC0.out);rintro e w6 ⟨rfl,hb⟩;have n0_:=Aside0.mk (below_step (by repeat (first|(with_reducible first|exact HB.out|apply below_alloc|apply pw_below_drewN|apply below_drew1)|exact HB.out)) hb);clear HB;have HB:=n0_;clear n0_;(try clear hb);(try clear hb2);(try clear hk);(try clear hi))|(go_at_call 39;(with_reducible refine (impl_Lex.calls k t865 t866 t867 _ A3.out).mono ?_);rintro e w7 ⟨v868,rfl,ho0,hb⟩;have n0_:=Aside0.mk (Kd.R_lower ho0 (below_size (by repeat (first|(with_reducible first|exact HB.out|apply below_alloc|apply pw_below_drewN|apply below_drew1)|exact HB.out))));have n1_:=Aside0.mk (below_step (by repeat (first|(with_reducible first|exact HB.out|apply below_alloc|apply pw_below_drewN|apply below_drew1)|exact HB.out)) hb);clear HB;have HO869:=n0_;have HB:=n1_;clear n0_ n1_;(try clear hb);(try clear hb2);(try clear hk);(try clear hi);(try clear ho0))|(go_at_call 40;(with_reducible refine (spec_Lex.calls k t865 t870 t871 _ A4.out).mono ?_);rintro e w8 ⟨v872,rfl,ho0,hb⟩;have n0_:=Aside0.mk (Kd.R_elder' (by (with_reducible repeat (first|apply Kd.R_alloc|apply Kd.R_drewN|apply Kd.R_drew));exact HO869.out) (Kd.R_base ho0) hb);have n1_:=Aside0.mk (Kd.R_lower (Kd.R_new' ho0 (Kd.R_lt (by (with_reducible repeat (first|apply Kd.R_alloc|apply Kd.R_drewN|apply Kd.R_drew));exact HO869.out))) (below_size (by repeat (first|(with_reducible first|exact HB.out|apply below_alloc|apply pw_below_drewN|apply below_drew1)|exact HB.out))));have n2_:=Aside0.mk (below_step (by repeat (first|(with_reducible first|exact HB.out|apply below_alloc|apply pw_below_drewN|apply below_drew1)|exact HB.out)) hb);clear HO869;clear HB;have HO869:=n0_;have HO873:=n1_;have HB:=n2_;clear n0_ n1_ n2_;(try clear hb);(try clear hb2);(try clear hk);(try clear hi);(try clear ho0)))
 repeat (go_quiet (first|(go_at_call 38;(with_reducible refine (spec_DrawLex.calls k _ _ l0 t865 _ ?side1 ?side2 A2.out).mono ?_);(case side1=>repeat (first|exact HR0.out|(with_reducible refine Kd.C_alloc ?_ _)|(with_reducible refine Kd.C_drewN ?_ _)|(with_reducible refine Kd.C_drew ?_)));(case side2=>exact HC0.out);rintro e w6 ⟨rfl,hb⟩;have n0_:=Aside0.mk (below_step (by repeat (first|(with_reducible first|exact HB.out|apply below_alloc|apply pw_below_drewN|apply below_drew1)|exact HB.out)) hb);clear HB;have HB:=n0_;clear n0_;(try clear hb);(try clear hb2);(try clear hk);(try clear hi))|(go_at_call 39;(with_reducible refine (impl_Lex.calls k t865 t866 t867 _ A3.out).mono ?_);rintro e w7 ⟨v868,rfl,ho0,hb⟩;have n0_:=Aside0.mk (Kd.R_lower ho0 (below_size (by repeat (first|(with_reducible first|exact HB.out|apply below_alloc|apply pw_below_drewN|apply below_drew1)|exact HB.out))));have n1_:=Aside0.mk (below_step (by repeat (first|(with_reducible first|exact HB.out|apply below_alloc|apply pw_below_drewN|apply below_drew1)|exact HB.out)) hb);clear HB;have HO869:=n0_;have HB:=n1_;clear n0_ n1_;(try clear hb);(try clear hb2);(try clear hk);(try clear hi);(try clear ho0))|(go_at_call 40;(with_reducible refine (spec_Lex.calls k t865 t870 t871 _ A4.out).mono ?_);rintro e w8 ⟨v872,rfl,ho0,hb⟩;have n0_:=Aside0.mk (Kd.R_elder' (by (with_reducible repeat (first|apply Kd.R_alloc|apply Kd.R_drewN|apply Kd.R_drew));exact HO869.out) (Kd.R_base ho0) hb);have n1_:=Aside0.mk (Kd.R_lower (Kd.R_new' ho0 (Kd.R_lt (by (with_reducible repeat (first|apply Kd.R_alloc|apply Kd.R_drewN|apply Kd.R_drew));exact HO869.out))) (below_size (by repeat (first|(with_reducible first|exact HB.out|apply below_alloc|apply pw_below_drewN|apply below_drew1)|exact HB.out))));have n2_:=Aside0.mk (below_step (by repeat (first|(with_reducible first|exact HB.out|apply below_alloc|apply pw_below_drewN|apply below_drew1)|exact HB.out)) hb);clear HO869;clear HB;have HO869:=n0_;have HO873:=n1_;have HB:=n2_;clear n0_ n1_ n2_;(try clear hb);(try clear hb2);(try clear hk);(try clear hi);(try clear ho0)));go_upto_region 4 with (first|(go_at_call 38;(with_reducible refine (spec_DrawLex.calls k _ _ l0 t865 _ ?side1 ?side2 A2.out).mono ?_);(case side1=>repeat (first|exact HR0.out|(with_reducible refine Kd.C_alloc ?_ _)|(with_reducible refine Kd.C_drewN ?_ _)|(with_reducible refine Kd.C_drew ?_)));(case side2=>exact HC0.out);rintro e w6 ⟨rfl,hb⟩;have n0_:=Aside0.mk (below_step (by repeat (first|(with_reducible first|exact HB.out|apply below_alloc|apply pw_below_drewN|apply below_drew1)|exact HB.out)) hb);clear HB;have HB:=n0_;clear n0_;(try clear hb);(try clear hb2);(try clear hk);(try clear hi))|(go_at_call 39;(with_reducible refine (impl_Lex.calls k t865 t866 t867 _ A3.out).mono ?_);rintro e w7 ⟨v868,rfl,ho0,hb⟩;have n0_:=Aside0.mk (Kd.R_lower ho0 (below_size (by repeat (first|(with_reducible first|exact HB.out|apply below_alloc|apply pw_below_drewN|apply below_drew1)|exact HB.out))));have n1_:=Aside0.mk (below_step (by repeat (first|(with_reducible first|exact HB.out|apply below_alloc|apply pw_below_drewN|apply below_drew1)|exact HB.out)) hb);clear HB;have HO869:=n0_;have HB:=n1_;clear n0_ n1_;(try clear hb);(try clear hb2);(try clear hk);(try clear hi);(try clear ho0))|(go_at_call 40;(with_reducible refine (spec_Lex.calls k t865 t870 t871 _ A4.out).mono ?_);rintro e w8 ⟨v872,rfl,ho0,hb⟩;have n0_:=Aside0.mk (Kd.R_elder' (by (with_reducible repeat (first|apply Kd.R_alloc|apply Kd.R_drewN|apply Kd.R_drew));exact HO869.out) (Kd.R_base ho0) hb);have n1_:=Aside0.mk (Kd.R_lower (Kd.R_new' ho0 (Kd.R_lt (by (with_reducible repeat (first|apply Kd.R_alloc|apply Kd.R_drewN|apply Kd.R_drew));exact HO869.out))) (below_size (by repeat (first|(with_reducible first|exact HB.out|apply below_alloc|apply pw_below_drewN|apply below_drew1)|exact HB.out))));have n2_:=Aside0.mk (below_step (by repeat (first|(with_reducible first|exact HB.out|apply below_alloc|apply pw_below_drewN|apply below_drew1)|exact HB.out)) hb);clear HO869;clear HB;have HO869:=n0_;have HO873:=n1_;have HB:=n2_;clear n0_ n1_ n2_;(try clear hb);(try clear hb2);(try clear hk);(try clear hi);(try clear ho0))))
 (try simp only [Act.put,List.setIfInBounds_toArray,List.set_cons_zero,List.set_cons_succ])
 go_cut [31] (fun v31 wc=>∃ (kq : Nat) (x31_4 : Bool),v31 = .bool x31_4 ∧ Aside0 (laws_FnWords.j0 kq t866 t867 t871 x31_4 = some true) ∧ Aside0 (kq ≤ k) ∧ Aside0 (Kd.R k60 60 wc w.heap.size (fun _=>True) v868 t866) ∧ Aside0 (Below w.heap.size w wc))
 case first =>
  have H:=HC5.out
  clear HC5
  by_cases c9 : t867 = t871
  ·rw [if_pos c9] at H
   have c9b0 : (t867 == t871) = true:=beq_iff_eq.mpr c9
   have c9b1 : (t867 != t871) = false:=bne_eq_false_iff_eq.mpr c9
   clear c9
   (first|rw [c9b0]|(simp only [i64_w,i32_w];rw [c9b0])|skip)
   have H':=Aside0.mk H
   clear H
   go_wp2
   repeat (go_quiet (fail);try go_wp2)
   go_meet
   case rel=>exact ⟨_,(decide (t867 ≥ 0)),(by first|rfl|(simp;done)|(simp [*];done)),H',⟨by first|omega|exact Nat.le_refl _⟩,⟨by (with_reducible repeat (first|apply Kd.R_alloc|apply Kd.R_drewN|apply Kd.R_drew));exact Kd.R_mono HO869.out (fun _ hk=>trivial)⟩,⟨by repeat (first|(with_reducible first|exact HB.out|apply below_alloc|apply pw_below_drewN|apply below_drew1)|exact HB.out)⟩⟩
  ·rw [if_neg c9] at H
   have c9b0 : (t867 == t871) = false:=beq_eq_false_iff_ne.mpr c9
   have c9b1 : (t867 != t871) = true:=bne_iff_ne.mpr c9
   (first|rw [c9b0]|(simp only [i64_w,i32_w];rw [c9b0])|skip)
   have H':=Aside0.mk H
   clear H
   go_wp2
   repeat (go_quiet (fail);try go_wp2)
   go_meet
   case rel=>exact ⟨_,(true),(by first|rfl|(simp;done)|(simp [*];done)),H',⟨by first|omega|exact Nat.le_refl _⟩,⟨by (with_reducible repeat (first|apply Kd.R_alloc|apply Kd.R_drewN|apply Kd.R_drew));exact Kd.R_mono HO869.out (fun _ hk=>trivial)⟩,⟨by repeat (first|(with_reducible first|exact HB.out|apply below_alloc|apply pw_below_drewN|apply below_drew1)|exact HB.out)⟩⟩
 case rest =>
  clear HC5
  try clear p2
  try clear c9
  try clear c9b0
  try clear c9b1
  obtain ⟨kq,x31_4,rfl,HA,HJ4,HO_4,HB⟩:=hcut
  cases kq with
  | zero=>exact absurd HA.out (by simp [laws_FnWords.j0])
  | succ kj4 =>
   have H:=HA.out
   clear HA
   simp only [laws_FnWords.j0] at H
   by_cases c10 : x31_4 = true
   ·subst c10
    have H1 : (if t867 = t871 then (if (t866.length : Int) = 0 then ((laws_words.f kj4).bind fun t874=>(some t874)) else (some false)) else (some false)) = some true:=by rw [if_pos rfl] at H;exact H
    clear H
    have H:=H1
    clear H1
    by_cases c11 : t867 = t871
    ·rw [if_pos c11] at H
     have c11b0 : (t867 == t871) = true:=beq_iff_eq.mpr c11
     have c11b1 : (t867 != t871) = false:=bne_eq_false_iff_eq.mpr c11
     clear c11
     by_cases c12 : (t866.length : Int) = 0
     ·rw [if_pos c12] at H
      have c12b0 : ((t866.length : Int) == 0) = true:=beq_iff_eq.mpr c12
      have c12b1 : ((t866.length : Int) != 0) = false:=bne_eq_false_iff_eq.mpr c12
      clear c12
      replace H:=Option.bind_eq_some_iff.mp H
      obtain ⟨t874,A130,H⟩:=H
      replace H : (some t874) = some true:=H
      have A13:=Aside0.mk A130
      clear A130
      have HOR_:=Aside0.mk (Option.some.inj H)
      clear H
      obtain ⟨Ao14,co14,eo14⟩:=Kd.R_slice HO_4.out
      subst eo14
      go_wp2_with (first|(go_at_call 37;(with_reducible refine (laws_words.calls kj4  t874 _ A13.out).mono ?_);rintro e w15 ⟨rfl,hb⟩;have n0_:=Aside0.mk (Kd.R_below (by (with_reducible repeat (first|apply Kd.R_alloc|apply Kd.R_drewN|apply Kd.R_drew));exact HO_4.out) hb);have n1_:=Aside0.mk (below_step (by repeat (first|(with_reducible first|exact HB.out|apply below_alloc|apply pw_below_drewN|apply below_drew1)|exact HB.out)) hb);clear HO_4;clear HB;have HO_4:=n0_;have HB:=n1_;clear n0_ n1_;(try clear hb);(try clear hb2);(try clear hk);(try clear hi)))
      repeat (go_quiet (first|(go_at_call 37;(with_reducible refine (laws_words.calls kj4  t874 _ A13.out).mono ?_);rintro e w15 ⟨rfl,hb⟩;have n0_:=Aside0.mk (Kd.R_below (by (with_reducible repeat (first|apply Kd.R_alloc|apply Kd.R_drewN|apply Kd.R_drew));exact HO_4.out) hb);have n1_:=Aside0.mk (below_step (by repeat (first|(with_reducible first|exact HB.out|apply below_alloc|apply pw_below_drewN|apply below_drew1)|exact HB.out)) hb);clear HO_4;clear HB;have HO_4:=n0_;have HB:=n1_;clear n0_ n1_;(try clear hb);(try clear hb2);(try clear hk);(try clear hi)));try go_wp2_with (first|(go_at_call 37;(with_reducible refine (laws_words.calls kj4  t874 _ A13.out).mono ?_);rintro e w15 ⟨rfl,hb⟩;have n0_:=Aside0.mk (Kd.R_below (by (with_reducible repeat (first|apply Kd.R_alloc|apply Kd.R_drewN|apply Kd.R_drew));exact HO_4.out) hb);have n1_:=Aside0.mk (below_step (by repeat (first|(with_reducible first|exact HB.out|apply below_alloc|apply pw_below_drewN|apply below_drew1)|exact HB.out)) hb);clear HO_4;clear HB;have HO_4:=n0_;have HB:=n1_;clear n0_ n1_;(try clear hb);(try clear hb2);(try clear hk);(try clear hi))))
      go_ret
      exact ⟨by first|rfl|(rw [HOR_.out];done)|(rw [HOR_.out];rfl)|(simp [HOR_.out];done)|(have h_:=HOR_.out;simp at h_;subst h_;first|rfl|(simp;done))|(have h_:=HOR_.out;simp at h_ ⊢;exact h_)|(simp [errW_none,errW_some] <;> rfl)|(simp [*,errW_none,errW_some] <;> rfl),by repeat (first|(with_reducible first|exact HB.out|apply below_alloc|apply pw_below_drewN|apply below_drew1)|exact HB.out)⟩
     ·rw [if_neg c12] at H
      have c12b0 : ((t866.length : Int) == 0) = false:=beq_eq_false_iff_ne.mpr c12
      have c12b1 : ((t866.length : Int) != 0) = true:=bne_iff_ne.mpr c12
      have c12b2 : ¬ (t866 = []):=fun h_=>c12 (by rw [h_];rfl)
      exact absurd H (by simp)
    ·rw [if_neg c11] at H
     have c11b0 : (t867 == t871) = false:=beq_eq_false_iff_ne.mpr c11
     have c11b1 : (t867 != t871) = true:=bne_iff_ne.mpr c11
     exact absurd H (by simp)
   ·replace c10:=Bool.eq_false_iff.mpr c10
    subst c10
    have H1 : (laws_FnWords.l0 kj4 t866 (⟨#[]⟩ : ByteArray) 0) = some true:=by rw [if_neg (show ¬ (false = true) by decide)] at H;exact H
    clear H
    have H:=H1
    clear H1
    have H':=Aside0.mk H
    clear H
    go_wp2
    repeat (go_quiet (fail);try go_wp2)
    go_loopg [8,9] kj4 (fun kq v8 v9 w'=>∃ (x8_2 : ByteArray) (x9_2 : Int),v8 = .string x8_2 ∧ v9 = .int .i64 x9_2 ∧ Aside0 (laws_FnWords.l0 kq t866 x8_2 x9_2 = some true) ∧ Aside0 (kq ≤ kj4) ∧ Aside0 (Kd.R k60 60 w' w.heap.size (fun _=>True) v868 t866) ∧ Aside0 (Below w.heap.size w w'))
    case atStart=>exact ⟨((⟨#[]⟩ : ByteArray)),(0),(by first|rfl|(simp;done)|(simp [*];done)),(by first|rfl|(simp;done)|(simp [*];done)),H',⟨Nat.le_refl _⟩,⟨by (with_reducible repeat (first|apply Kd.R_alloc|apply Kd.R_drewN|apply Kd.R_drew));exact HO_4.out⟩,⟨by repeat (first|(with_reducible first|exact HB.out|apply below_alloc|apply pw_below_drewN|apply below_drew1)|exact HB.out)⟩⟩
    case round =>
     clear H'
     try clear c1
     try clear p2
     try clear c9
     try clear c9b0
     try clear c9b1
     try clear c10
     try clear c11
     try clear c11b0
     try clear c11b1
     try clear c12
     try clear c12b0
     try clear c12b1
     try clear c12b2
     try clear p2
     obtain ⟨x8_2,x9_2,rfl,rfl,HA,HK2,HO_4,HB⟩:=hrel
     cases gk with
     | zero=>exact absurd HA.out (by simp [laws_FnWords.l0])
     | succ k2 =>
      have H:=HA.out
      clear HA
      simp only [laws_FnWords.l0] at H
      by_cases c16 : x9_2 < (t866.length : Int)
      ·rw [if_pos c16] at H
       have c16b0 : decide (x9_2 < (t866.length : Int)) = true:=decide_eq_true c16
       clear c16
       by_cases c17 : 0 ≤ x9_2
       ·rw [if_pos c17] at H
        have c17b0 : decide (0 ≤ x9_2) = true:=decide_eq_true c17
        clear c17
        replace H:=Option.bind_eq_some_iff.mp H
        obtain ⟨t876,A180,H⟩:=H
        replace H : (if x8_2.size + t876.size ≤ 9223372036854775807 then (if ((rd_T60 t866 x9_2).f0) = 5 then (if x9_2 > 0 then (if 0 ≤ (wrap64 (x9_2 - 1)) then (if (wrap64 (x9_2 - 1)) < (t866.length : Int) then (if ((rd_T60 t866 x9_2).f3) ≤ ((rd_T60 t866 (wrap64 (x9_2 - 1))).f3) then (some false) else (laws_FnWords.l0 k2 t866 (x8_2 ++ t876) (wrap64 (x9_2 + 1)))) else (none)) else (none)) else (laws_FnWords.l0 k2 t866 (x8_2 ++ t876) (wrap64 (x9_2 + 1)))) else (if (x8_2 ++ t876).size + 1 ≤ 9223372036854775807 then (if x9_2 > 0 then (if 0 ≤ (wrap64 (x9_2 - 1)) then (if (wrap64 (x9_2 - 1)) < (t866.length : Int) then (if ((rd_T60 t866 x9_2).f3) ≤ ((rd_T60 t866 (wrap64 (x9_2 - 1))).f3) then (some false) else (laws_FnWords.l0 k2 t866 ((x8_2 ++ t876) ++ (⟨#[32]⟩ : ByteArray)) (wrap64 (x9_2 + 1)))) else (none)) else (none)) else (laws_FnWords.l0 k2 t866 ((x8_2 ++ t876) ++ (⟨#[32]⟩ : ByteArray)) (wrap64 (x9_2 + 1)))) else (none))) else (none)) = some true:=H
        have A18:=Aside0.mk A180
        clear A180
        by_cases c19 : x8_2.size + t876.size ≤ 9223372036854775807
        ·rw [if_pos c19] at H
         have c19b0:=eq_true c19
         have c19b1 : decide (x8_2.size + t876.size ≤ 9223372036854775807) = true:=decide_eq_true c19
         try have c19b2 : (9223372036854775807 < x8_2.size + t876.size) = False:=eq_false (Nat.not_lt.2 c19)
         by_cases c20 : ((rd_T60 t866 x9_2).f0) = 5
         ·rw [if_pos c20] at H
          have c20b0 : (((rd_T60 t866 x9_2).f0) == 5) = true:=beq_iff_eq.mpr c20
          have c20b1 : (((rd_T60 t866 x9_2).f0) != 5) = false:=bne_eq_false_iff_eq.mpr c20
          clear c20
          by_cases c21 : x9_2 > 0
          ·rw [if_pos c21] at H
           have c21b0 : decide (0 < x9_2) = true:=decide_eq_true c21
           clear c21
           obtain ⟨ji22,hji22⟩ : ∃ j_ : Int,(wrap64 (x9_2 - 1)) = j_:=⟨_,rfl⟩
           replace H : (if 0 ≤ (ji22) then (if (ji22) < (t866.length : Int) then (if ((rd_T60 t866 x9_2).f3) ≤ ((rd_T60 t866 (ji22)).f3) then (some false) else (laws_FnWords.l0 k2 t866 (x8_2 ++ t876) (wrap64 (x9_2 + 1)))) else (none)) else (none)) = some true:=by first|(rw [hji22] at H;exact H)|(simp only [hji22] at H ⊢;exact H)
           (try rw [hji22] at A18)
           have hji22w : (IntKind.i64.wrap (x9_2 - 1)) = ji22:=(i64_w _).trans hji22
           by_cases c23 : 0 ≤ (ji22)
           ·rw [if_pos c23] at H
            have c23b0 : decide (0 ≤ (ji22)) = true:=decide_eq_true c23
            clear c23
            by_cases c24 : (ji22) < (t866.length : Int)
            ·rw [if_pos c24] at H
             have c24b0 : decide ((ji22) < (t866.length : Int)) = true:=decide_eq_true c24
             clear c24
             by_cases c25 : ((rd_T60 t866 x9_2).f3) ≤ ((rd_T60 t866 (ji22)).f3)
             ·rw [if_pos c25] at H
              have c25b0 : decide (((rd_T60 t866 x9_2).f3) ≤ ((rd_T60 t866 (ji22)).f3)) = true:=decide_eq_true c25
              clear c25
              exact absurd H (by simp)
             ·rw [if_neg c25] at H
              have c25b0 : decide (((rd_T60 t866 x9_2).f3) ≤ ((rd_T60 t866 (ji22)).f3)) = false:=decide_eq_false c25
              clear c25
              have H':=Aside0.mk H
              clear H
              obtain ⟨Ao26,co26,eo26⟩:=Kd.R_slice HO_4.out
              subst eo26
              have p875 : 0 ≤ (x9_2 : Int):=of_decide_eq_true (by first|(with_reducible assumption)|assumption)
              have q875 : x9_2 < (t866.length : Int):=of_decide_eq_true (by first|(with_reducible assumption)|assumption)
              obtain ⟨ad875,e875,hx875_0,hx875_1,hx875_2,hx875_3⟩:=at_T60 (Kd.R_reads' HO_4.out).2.2 x9_2 p875 q875
              cases e875
              replace p875:=eq_true p875
              replace q875:=eq_true q875
              go_wp2_with (first|(go_at_call 41;(with_reducible refine (impl_TokText.calls k2 ((rd_T60 t866 x9_2).f0) ((rd_T60 t866 x9_2).f1) ((rd_T60 t866 x9_2).f2) ((rd_T60 t866 x9_2).f3) t876 _ A18.out).mono ?_);rintro e w27 ⟨rfl,hb⟩;have n0_:=Aside0.mk (Kd.R_below (by (with_reducible repeat (first|apply Kd.R_alloc|apply Kd.R_drewN|apply Kd.R_drew));exact HO_4.out) hb);have n1_:=Aside0.mk (below_step (by repeat (first|(with_reducible first|exact HB.out|apply below_alloc|apply pw_below_drewN|apply below_drew1)|exact HB.out)) hb);clear HO_4;clear HB;have HO_4:=n0_;have HB:=n1_;clear n0_ n1_;(try clear hb);(try clear hb2);(try clear hk);(try clear hi);have p877 : 0 ≤ (x9_2 : Int):=of_decide_eq_true (by first|(with_reducible assumption)|assumption);have q877 : x9_2 < (t866.length : Int):=of_decide_eq_true (by first|(with_reducible assumption)|assumption);obtain ⟨ad877,e877,hx877_0,hx877_1,hx877_2,hx877_3⟩:=at_T60 (Kd.R_reads' HO_4.out).2.2 x9_2 p877 q877;obtain rfl : ad875 = ad877:=(by injection e877);replace p877:=eq_true p877;replace q877:=eq_true q877;have p878 : 0 ≤ (x9_2 : Int):=of_decide_eq_true (by first|(with_reducible assumption)|assumption);have q878 : x9_2 < (t866.length : Int):=of_decide_eq_true (by first|(with_reducible assumption)|assumption);obtain ⟨ad878,e878,hx878_0,hx878_1,hx878_2,hx878_3⟩:=at_T60 (Kd.R_reads' HO_4.out).2.2 x9_2 p878 q878;obtain rfl : ad875 = ad878:=(by injection e878);replace p878:=eq_true p878;replace q878:=eq_true q878;have p879 : 0 ≤ ((ji22) : Int):=of_decide_eq_true (by first|(with_reducible assumption)|assumption);have q879 : (ji22) < (t866.length : Int):=of_decide_eq_true (by first|(with_reducible assumption)|assumption);obtain ⟨ad879,e879,hx879_0,hx879_1,hx879_2,hx879_3⟩:=at_T60 (Kd.R_reads' HO_4.out).2.2 (ji22) p879 q879;obtain rfl : ad875 = ad879:=(by injection e879);replace p879:=eq_true p879;replace q879:=eq_true q879))
              repeat (go_quiet (first|(go_at_call 41;(with_reducible refine (impl_TokText.calls k2 ((rd_T60 t866 x9_2).f0) ((rd_T60 t866 x9_2).f1) ((rd_T60 t866 x9_2).f2) ((rd_T60 t866 x9_2).f3) t876 _ A18.out).mono ?_);rintro e w27 ⟨rfl,hb⟩;have n0_:=Aside0.mk (Kd.R_below (by (with_reducible repeat (first|apply Kd.R_alloc|apply Kd.R_drewN|apply Kd.R_drew));exact HO_4.out) hb);have n1_:=Aside0.mk (below_step (by repeat (first|(with_reducible first|exact HB.out|apply below_alloc|apply pw_below_drewN|apply below_drew1)|exact HB.out)) hb);clear HO_4;clear HB;have HO_4:=n0_;have HB:=n1_;clear n0_ n1_;(try clear hb);(try clear hb2);(try clear hk);(try clear hi);have p877 : 0 ≤ (x9_2 : Int):=of_decide_eq_true (by first|(with_reducible assumption)|assumption);have q877 : x9_2 < (t866.length : Int):=of_decide_eq_true (by first|(with_reducible assumption)|assumption);obtain ⟨ad877,e877,hx877_0,hx877_1,hx877_2,hx877_3⟩:=at_T60 (Kd.R_reads' HO_4.out).2.2 x9_2 p877 q877;obtain rfl : ad875 = ad877:=(by injection e877);replace p877:=eq_true p877;replace q877:=eq_true q877;have p878 : 0 ≤ (x9_2 : Int):=of_decide_eq_true (by first|(with_reducible assumption)|assumption);have q878 : x9_2 < (t866.length : Int):=of_decide_eq_true (by first|(with_reducible assumption)|assumption);obtain ⟨ad878,e878,hx878_0,hx878_1,hx878_2,hx878_3⟩:=at_T60 (Kd.R_reads' HO_4.out).2.2 x9_2 p878 q878;obtain rfl : ad875 = ad878:=(by injection e878);replace p878:=eq_true p878;replace q878:=eq_true q878;have p879 : 0 ≤ ((ji22) : Int):=of_decide_eq_true (by first|(with_reducible assumption)|assumption);have q879 : (ji22) < (t866.length : Int):=of_decide_eq_true (by first|(with_reducible assumption)|assumption);obtain ⟨ad879,e879,hx879_0,hx879_1,hx879_2,hx879_3⟩:=at_T60 (Kd.R_reads' HO_4.out).2.2 (ji22) p879 q879;obtain rfl : ad875 = ad879:=(by injection e879);replace p879:=eq_true p879;replace q879:=eq_true q879));try go_wp2_with (first|(go_at_call 41;(with_reducible refine (impl_TokText.calls k2 ((rd_T60 t866 x9_2).f0) ((rd_T60 t866 x9_2).f1) ((rd_T60 t866 x9_2).f2) ((rd_T60 t866 x9_2).f3) t876 _ A18.out).mono ?_);rintro e w27 ⟨rfl,hb⟩;have n0_:=Aside0.mk (Kd.R_below (by (with_reducible repeat (first|apply Kd.R_alloc|apply Kd.R_drewN|apply Kd.R_drew));exact HO_4.out) hb);have n1_:=Aside0.mk (below_step (by repeat (first|(with_reducible first|exact HB.out|apply below_alloc|apply pw_below_drewN|apply below_drew1)|exact HB.out)) hb);clear HO_4;clear HB;have HO_4:=n0_;have HB:=n1_;clear n0_ n1_;(try clear hb);(try clear hb2);(try clear hk);(try clear hi);have p877 : 0 ≤ (x9_2 : Int):=of_decide_eq_true (by first|(with_reducible assumption)|assumption);have q877 : x9_2 < (t866.length : Int):=of_decide_eq_true (by first|(with_reducible assumption)|assumption);obtain ⟨ad877,e877,hx877_0,hx877_1,hx877_2,hx877_3⟩:=at_T60 (Kd.R_reads' HO_4.out).2.2 x9_2 p877 q877;obtain rfl : ad875 = ad877:=(by injection e877);replace p877:=eq_true p877;replace q877:=eq_true q877;have p878 : 0 ≤ (x9_2 : Int):=of_decide_eq_true (by first|(with_reducible assumption)|assumption);have q878 : x9_2 < (t866.length : Int):=of_decide_eq_true (by first|(with_reducible assumption)|assumption);obtain ⟨ad878,e878,hx878_0,hx878_1,hx878_2,hx878_3⟩:=at_T60 (Kd.R_reads' HO_4.out).2.2 x9_2 p878 q878;obtain rfl : ad875 = ad878:=(by injection e878);replace p878:=eq_true p878;replace q878:=eq_true q878;have p879 : 0 ≤ ((ji22) : Int):=of_decide_eq_true (by first|(with_reducible assumption)|assumption);have q879 : (ji22) < (t866.length : Int):=of_decide_eq_true (by first|(with_reducible assumption)|assumption);obtain ⟨ad879,e879,hx879_0,hx879_1,hx879_2,hx879_3⟩:=at_T60 (Kd.R_reads' HO_4.out).2.2 (ji22) p879 q879;obtain rfl : ad875 = ad879:=(by injection e879);replace p879:=eq_true p879;replace q879:=eq_true q879)))
              go_roundg k2
              case measure=>have:=HJ4.out;have:=HK2.out;omega
              case rel=>exact ⟨(x8_2 ++ t876),(wrap64 (x9_2 + 1)),(by first|rfl|(simp;done)|(simp [*];done)),(by first|rfl|(simp;done)|(simp [*];done)),H',⟨by have:=HJ4.out;have:=HK2.out;omega⟩,⟨by (with_reducible repeat (first|apply Kd.R_alloc|apply Kd.R_drewN|apply Kd.R_drew));exact HO_4.out⟩,⟨by repeat (first|(with_reducible first|exact HB.out|apply below_alloc|apply pw_below_drewN|apply below_drew1)|exact HB.out)⟩⟩
            ·rw [if_neg c24] at H
             exact absurd H (by simp)
           ·rw [if_neg c23] at H
            exact absurd H (by simp)
          ·rw [if_neg c21] at H
           have c21b0 : decide (0 < x9_2) = false:=decide_eq_false c21
           clear c21
           have H':=Aside0.mk H
           clear H
           obtain ⟨Ao28,co28,eo28⟩:=Kd.R_slice HO_4.out
           subst eo28
           have p875 : 0 ≤ (x9_2 : Int):=of_decide_eq_true (by first|(with_reducible assumption)|assumption)
           have q875 : x9_2 < (t866.length : Int):=of_decide_eq_true (by first|(with_reducible assumption)|assumption)
           obtain ⟨ad875,e875,hx875_0,hx875_1,hx875_2,hx875_3⟩:=at_T60 (Kd.R_reads' HO_4.out).2.2 x9_2 p875 q875
           cases e875
           replace p875:=eq_true p875
           replace q875:=eq_true q875
           go_wp2_with (first|(go_at_call 41;(with_reducible refine (impl_TokText.calls k2 ((rd_T60 t866 x9_2).f0) ((rd_T60 t866 x9_2).f1) ((rd_T60 t866 x9_2).f2) ((rd_T60 t866 x9_2).f3) t876 _ A18.out).mono ?_);rintro e w29 ⟨rfl,hb⟩;have n0_:=Aside0.mk (Kd.R_below (by (with_reducible repeat (first|apply Kd.R_alloc|apply Kd.R_drewN|apply Kd.R_drew));exact HO_4.out) hb);have n1_:=Aside0.mk (below_step (by repeat (first|(with_reducible first|exact HB.out|apply below_alloc|apply pw_below_drewN|apply below_drew1)|exact HB.out)) hb);clear HO_4;clear HB;have HO_4:=n0_;have HB:=n1_;clear n0_ n1_;(try clear hb);(try clear hb2);(try clear hk);(try clear hi);have p877 : 0 ≤ (x9_2 : Int):=of_decide_eq_true (by first|(with_reducible assumption)|assumption);have q877 : x9_2 < (t866.length : Int):=of_decide_eq_true (by first|(with_reducible assumption)|assumption);obtain ⟨ad877,e877,hx877_0,hx877_1,hx877_2,hx877_3⟩:=at_T60 (Kd.R_reads' HO_4.out).2.2 x9_2 p877 q877;obtain rfl : ad875 = ad877:=(by injection e877);replace p877:=eq_true p877;replace q877:=eq_true q877))
           repeat (go_quiet (first|(go_at_call 41;(with_reducible refine (impl_TokText.calls k2 ((rd_T60 t866 x9_2).f0) ((rd_T60 t866 x9_2).f1) ((rd_T60 t866 x9_2).f2) ((rd_T60 t866 x9_2).f3) t876 _ A18.out).mono ?_);rintro e w29 ⟨rfl,hb⟩;have n0_:=Aside0.mk (Kd.R_below (by (with_reducible repeat (first|apply Kd.R_alloc|apply Kd.R_drewN|apply Kd.R_drew));exact HO_4.out) hb);have n1_:=Aside0.mk (below_step (by repeat (first|(with_reducible first|exact HB.out|apply below_alloc|apply pw_below_drewN|apply below_drew1)|exact HB.out)) hb);clear HO_4;clear HB;have HO_4:=n0_;have HB:=n1_;clear n0_ n1_;(try clear hb);(try clear hb2);(try clear hk);(try clear hi);have p877 : 0 ≤ (x9_2 : Int):=of_decide_eq_true (by first|(with_reducible assumption)|assumption);have q877 : x9_2 < (t866.length : Int):=of_decide_eq_true (by first|(with_reducible assumption)|assumption);obtain ⟨ad877,e877,hx877_0,hx877_1,hx877_2,hx877_3⟩:=at_T60 (Kd.R_reads' HO_4.out).2.2 x9_2 p877 q877;obtain rfl : ad875 = ad877:=(by injection e877);replace p877:=eq_true p877;replace q877:=eq_true q877));try go_wp2_with (first|(go_at_call 41;(with_reducible refine (impl_TokText.calls k2 ((rd_T60 t866 x9_2).f0) ((rd_T60 t866 x9_2).f1) ((rd_T60 t866 x9_2).f2) ((rd_T60 t866 x9_2).f3) t876 _ A18.out).mono ?_);rintro e w29 ⟨rfl,hb⟩;have n0_:=Aside0.mk (Kd.R_below (by (with_reducible repeat (first|apply Kd.R_alloc|apply Kd.R_drewN|apply Kd.R_drew));exact HO_4.out) hb);have n1_:=Aside0.mk (below_step (by repeat (first|(with_reducible first|exact HB.out|apply below_alloc|apply pw_below_drewN|apply below_drew1)|exact HB.out)) hb);clear HO_4;clear HB;have HO_4:=n0_;have HB:=n1_;clear n0_ n1_;(try clear hb);(try clear hb2);(try clear hk);(try clear hi);have p877 : 0 ≤ (x9_2 : Int):=of_decide_eq_true (by first|(with_reducible assumption)|assumption);have q877 : x9_2 < (t866.length : Int):=of_decide_eq_true (by first|(with_reducible assumption)|assumption);obtain ⟨ad877,e877,hx877_0,hx877_1,hx877_2,hx877_3⟩:=at_T60 (Kd.R_reads' HO_4.out).2.2 x9_2 p877 q877;obtain rfl : ad875 = ad877:=(by injection e877);replace p877:=eq_true p877;replace q877:=eq_true q877)))
           go_roundg k2
           case measure=>have:=HJ4.out;have:=HK2.out;omega
           case rel=>exact ⟨(x8_2 ++ t876),(wrap64 (x9_2 + 1)),(by first|rfl|(simp;done)|(simp [*];done)),(by first|rfl|(simp;done)|(simp [*];done)),H',⟨by have:=HJ4.out;have:=HK2.out;omega⟩,⟨by (with_reducible repeat (first|apply Kd.R_alloc|apply Kd.R_drewN|apply Kd.R_drew));exact HO_4.out⟩,⟨by repeat (first|(with_reducible first|exact HB.out|apply below_alloc|apply pw_below_drewN|apply below_drew1)|exact HB.out)⟩⟩
         ·rw [if_neg c20] at H
          have c20b0 : (((rd_T60 t866 x9_2).f0) == 5) = false:=beq_eq_false_iff_ne.mpr c20
          have c20b1 : (((rd_T60 t866 x9_2).f0) != 5) = true:=bne_iff_ne.mpr c20
          by_cases c30 : (x8_2 ++ t876).size + 1 ≤ 9223372036854775807
          ·rw [if_pos c30] at H
           have c30b0:=eq_true c30
           have c30b1 : decide ((x8_2 ++ t876).size + 1 ≤ 9223372036854775807) = true:=decide_eq_true c30
           try have c30b2 : (9223372036854775807 < (x8_2 ++ t876).size + 1) = False:=eq_false (Nat.not_lt.2 c30)
           try have c30b3 : (9223372036854775807 ≤ (x8_2 ++ t876).size) = False:=eq_false (by omega)
           try clear c30 c30b0 c30b1
           (try (have c30b5 : (9223372036854775807 ≤ x8_2.size + t876.size) = False:=eq_false (by have h_:=of_eq_false c30b3;simp only [ByteArray.size_append] at h_;omega)))
           (try (have c30b6 : (9223372036854775807 < x8_2.size + t876.size + 1) = False:=eq_false (by have h_:=of_eq_false c30b5;omega)))
           by_cases c31 : x9_2 > 0
           ·rw [if_pos c31] at H
            have c31b0 : decide (0 < x9_2) = true:=decide_eq_true c31
            clear c31
            obtain ⟨ji32,hji32⟩ : ∃ j_ : Int,(wrap64 (x9_2 - 1)) = j_:=⟨_,rfl⟩
            replace H : (if 0 ≤ (ji32) then (if (ji32) < (t866.length : Int) then (if ((rd_T60 t866 x9_2).f3) ≤ ((rd_T60 t866 (ji32)).f3) then (some false) else (laws_FnWords.l0 k2 t866 ((x8_2 ++ t876) ++ (⟨#[32]⟩ : ByteArray)) (wrap64 (x9_2 + 1)))) else (none)) else (none)) = some true:=by first|(rw [hji32] at H;exact H)|(simp only [hji32] at H ⊢;exact H)
            (try rw [hji32] at A18)
            have hji32w : (IntKind.i64.wrap (x9_2 - 1)) = ji32:=(i64_w _).trans hji32
            by_cases c33 : 0 ≤ (ji32)
            ·rw [if_pos c33] at H
             have c33b0 : decide (0 ≤ (ji32)) = true:=decide_eq_true c33
             clear c33
             by_cases c34 : (ji32) < (t866.length : Int)
             ·rw [if_pos c34] at H
              have c34b0 : decide ((ji32) < (t866.length : Int)) = true:=decide_eq_true c34
              clear c34
              by_cases c35 : ((rd_T60 t866 x9_2).f3) ≤ ((rd_T60 t866 (ji32)).f3)
              ·rw [if_pos c35] at H
               have c35b0 : decide (((rd_T60 t866 x9_2).f3) ≤ ((rd_T60 t866 (ji32)).f3)) = true:=decide_eq_true c35
               clear c35
               exact absurd H (by simp)
              ·rw [if_neg c35] at H
               have c35b0 : decide (((rd_T60 t866 x9_2).f3) ≤ ((rd_T60 t866 (ji32)).f3)) = false:=decide_eq_false c35
               clear c35
               have H':=Aside0.mk H
               clear H
               obtain ⟨Ao36,co36,eo36⟩:=Kd.R_slice HO_4.out
               subst eo36
               have p875 : 0 ≤ (x9_2 : Int):=of_decide_eq_true (by first|(with_reducible assumption)|assumption)
               have q875 : x9_2 < (t866.length : Int):=of_decide_eq_true (by first|(with_reducible assumption)|assumption)
               obtain ⟨ad875,e875,hx875_0,hx875_1,hx875_2,hx875_3⟩:=at_T60 (Kd.R_reads' HO_4.out).2.2 x9_2 p875 q875
               cases e875
               replace p875:=eq_true p875
               replace q875:=eq_true q875
               go_wp2_with (first|(go_at_call 41;(with_reducible refine (impl_TokText.calls k2 ((rd_T60 t866 x9_2).f0) ((rd_T60 t866 x9_2).f1) ((rd_T60 t866 x9_2).f2) ((rd_T60 t866 x9_2).f3) t876 _ A18.out).mono ?_);rintro e w37 ⟨rfl,hb⟩;have n0_:=Aside0.mk (Kd.R_below (by (with_reducible repeat (first|apply Kd.R_alloc|apply Kd.R_drewN|apply Kd.R_drew));exact HO_4.out) hb);have n1_:=Aside0.mk (below_step (by repeat (first|(with_reducible first|exact HB.out|apply below_alloc|apply pw_below_drewN|apply below_drew1)|exact HB.out)) hb);clear HO_4;clear HB;have HO_4:=n0_;have HB:=n1_;clear n0_ n1_;(try clear hb);(try clear hb2);(try clear hk);(try clear hi);have p877 : 0 ≤ (x9_2 : Int):=of_decide_eq_true (by first|(with_reducible assumption)|assumption);have q877 : x9_2 < (t866.length : Int):=of_decide_eq_true (by first|(with_reducible assumption)|assumption);obtain ⟨ad877,e877,hx877_0,hx877_1,hx877_2,hx877_3⟩:=at_T60 (Kd.R_reads' HO_4.out).2.2 x9_2 p877 q877;obtain rfl : ad875 = ad877:=(by injection e877);replace p877:=eq_true p877;replace q877:=eq_true q877;have p880 : 0 ≤ (x9_2 : Int):=of_decide_eq_true (by first|(with_reducible assumption)|assumption);have q880 : x9_2 < (t866.length : Int):=of_decide_eq_true (by first|(with_reducible assumption)|assumption);obtain ⟨ad880,e880,hx880_0,hx880_1,hx880_2,hx880_3⟩:=at_T60 (Kd.R_reads' HO_4.out).2.2 x9_2 p880 q880;obtain rfl : ad875 = ad880:=(by injection e880);replace p880:=eq_true p880;replace q880:=eq_true q880;have p881 : 0 ≤ ((ji32) : Int):=of_decide_eq_true (by first|(with_reducible assumption)|assumption);have q881 : (ji32) < (t866.length : Int):=of_decide_eq_true (by first|(with_reducible assumption)|assumption);obtain ⟨ad881,e881,hx881_0,hx881_1,hx881_2,hx881_3⟩:=at_T60 (Kd.R_reads' HO_4.out).2.2 (ji32) p881 q881;obtain rfl : ad875 = ad881:=(by injection e881);replace p881:=eq_true p881;replace q881:=eq_true q881))
               repeat (go_quiet (first|(go_at_call 41;(with_reducible refine (impl_TokText.calls k2 ((rd_T60 t866 x9_2).f0) ((rd_T60 t866 x9_2).f1) ((rd_T60 t866 x9_2).f2) ((rd_T60 t866 x9_2).f3) t876 _ A18.out).mono ?_);rintro e w37 ⟨rfl,hb⟩;have n0_:=Aside0.mk (Kd.R_below (by (with_reducible repeat (first|apply Kd.R_alloc|apply Kd.R_drewN|apply Kd.R_drew));exact HO_4.out) hb);have n1_:=Aside0.mk (below_step (by repeat (first|(with_reducible first|exact HB.out|apply below_alloc|apply pw_below_drewN|apply below_drew1)|exact HB.out)) hb);clear HO_4;clear HB;have HO_4:=n0_;have HB:=n1_;clear n0_ n1_;(try clear hb);(try clear hb2);(try clear hk);(try clear hi);have p877 : 0 ≤ (x9_2 : Int):=of_decide_eq_true (by first|(with_reducible assumption)|assumption);have q877 : x9_2 < (t866.length : Int):=of_decide_eq_true (by first|(with_reducible assumption)|assumption);obtain ⟨ad877,e877,hx877_0,hx877_1,hx877_2,hx877_3⟩:=at_T60 (Kd.R_reads' HO_4.out).2.2 x9_2 p877 q877;obtain rfl : ad875 = ad877:=(by injection e877);replace p877:=eq_true p877;replace q877:=eq_true q877;have p880 : 0 ≤ (x9_2 : Int):=of_decide_eq_true (by first|(with_reducible assumption)|assumption);have q880 : x9_2 < (t866.length : Int):=of_decide_eq_true (by first|(with_reducible assumption)|assumption);obtain ⟨ad880,e880,hx880_0,hx880_1,hx880_2,hx880_3⟩:=at_T60 (Kd.R_reads' HO_4.out).2.2 x9_2 p880 q880;obtain rfl : ad875 = ad880:=(by injection e880);replace p880:=eq_true p880;replace q880:=eq_true q880;have p881 : 0 ≤ ((ji32) : Int):=of_decide_eq_true (by first|(with_reducible assumption)|assumption);have q881 : (ji32) < (t866.length : Int):=of_decide_eq_true (by first|(with_reducible assumption)|assumption);obtain ⟨ad881,e881,hx881_0,hx881_1,hx881_2,hx881_3⟩:=at_T60 (Kd.R_reads' HO_4.out).2.2 (ji32) p881 q881;obtain rfl : ad875 = ad881:=(by injection e881);replace p881:=eq_true p881;replace q881:=eq_true q881));try go_wp2_with (first|(go_at_call 41;(with_reducible refine (impl_TokText.calls k2 ((rd_T60 t866 x9_2).f0) ((rd_T60 t866 x9_2).f1) ((rd_T60 t866 x9_2).f2) ((rd_T60 t866 x9_2).f3) t876 _ A18.out).mono ?_);rintro e w37 ⟨rfl,hb⟩;have n0_:=Aside0.mk (Kd.R_below (by (with_reducible repeat (first|apply Kd.R_alloc|apply Kd.R_drewN|apply Kd.R_drew));exact HO_4.out) hb);have n1_:=Aside0.mk (below_step (by repeat (first|(with_reducible first|exact HB.out|apply below_alloc|apply pw_below_drewN|apply below_drew1)|exact HB.out)) hb);clear HO_4;clear HB;have HO_4:=n0_;have HB:=n1_;clear n0_ n1_;(try clear hb);(try clear hb2);(try clear hk);(try clear hi);have p877 : 0 ≤ (x9_2 : Int):=of_decide_eq_true (by first|(with_reducible assumption)|assumption);have q877 : x9_2 < (t866.length : Int):=of_decide_eq_true (by first|(with_reducible assumption)|assumption);obtain ⟨ad877,e877,hx877_0,hx877_1,hx877_2,hx877_3⟩:=at_T60 (Kd.R_reads' HO_4.out).2.2 x9_2 p877 q877;obtain rfl : ad875 = ad877:=(by injection e877);replace p877:=eq_true p877;replace q877:=eq_true q877;have p880 : 0 ≤ (x9_2 : Int):=of_decide_eq_true (by first|(with_reducible assumption)|assumption);have q880 : x9_2 < (t866.length : Int):=of_decide_eq_true (by first|(with_reducible assumption)|assumption);obtain ⟨ad880,e880,hx880_0,hx880_1,hx880_2,hx880_3⟩:=at_T60 (Kd.R_reads' HO_4.out).2.2 x9_2 p880 q880;obtain rfl : ad875 = ad880:=(by injection e880);replace p880:=eq_true p880;replace q880:=eq_true q880;have p881 : 0 ≤ ((ji32) : Int):=of_decide_eq_true (by first|(with_reducible assumption)|assumption);have q881 : (ji32) < (t866.length : Int):=of_decide_eq_true (by first|(with_reducible assumption)|assumption);obtain ⟨ad881,e881,hx881_0,hx881_1,hx881_2,hx881_3⟩:=at_T60 (Kd.R_reads' HO_4.out).2.2 (ji32) p881 q881;obtain rfl : ad875 = ad881:=(by injection e881);replace p881:=eq_true p881;replace q881:=eq_true q881)))
               go_roundg k2
               case measure=>have:=HJ4.out;have:=HK2.out;omega
               case rel=>exact ⟨((x8_2 ++ t876) ++ (⟨#[32]⟩ : ByteArray)),(wrap64 (x9_2 + 1)),(by first|rfl|(simp;done)|(simp [*];done)),(by first|rfl|(simp;done)|(simp [*];done)),H',⟨by have:=HJ4.out;have:=HK2.out;omega⟩,⟨by (with_reducible repeat (first|apply Kd.R_alloc|apply Kd.R_drewN|apply Kd.R_drew));exact HO_4.out⟩,⟨by repeat (first|(with_reducible first|exact HB.out|apply below_alloc|apply pw_below_drewN|apply below_drew1)|exact HB.out)⟩⟩
             ·rw [if_neg c34] at H
              exact absurd H (by simp)
            ·rw [if_neg c33] at H
             exact absurd H (by simp)
           ·rw [if_neg c31] at H
            have c31b0 : decide (0 < x9_2) = false:=decide_eq_false c31
            clear c31
            have H':=Aside0.mk H
            clear H
            obtain ⟨Ao38,co38,eo38⟩:=Kd.R_slice HO_4.out
            subst eo38
            have p875 : 0 ≤ (x9_2 : Int):=of_decide_eq_true (by first|(with_reducible assumption)|assumption)
            have q875 : x9_2 < (t866.length : Int):=of_decide_eq_true (by first|(with_reducible assumption)|assumption)
            obtain ⟨ad875,e875,hx875_0,hx875_1,hx875_2,hx875_3⟩:=at_T60 (Kd.R_reads' HO_4.out).2.2 x9_2 p875 q875
            cases e875
            replace p875:=eq_true p875
            replace q875:=eq_true q875
            go_wp2_with (first|(go_at_call 41;(with_reducible refine (impl_TokText.calls k2 ((rd_T60 t866 x9_2).f0) ((rd_T60 t866 x9_2).f1) ((rd_T60 t866 x9_2).f2) ((rd_T60 t866 x9_2).f3) t876 _ A18.out).mono ?_);rintro e w39 ⟨rfl,hb⟩;have n0_:=Aside0.mk (Kd.R_below (by (with_reducible repeat (first|apply Kd.R_alloc|apply Kd.R_drewN|apply Kd.R_drew));exact HO_4.out) hb);have n1_:=Aside0.mk (below_step (by repeat (first|(with_reducible first|exact HB.out|apply below_alloc|apply pw_below_drewN|apply below_drew1)|exact HB.out)) hb);clear HO_4;clear HB;have HO_4:=n0_;have HB:=n1_;clear n0_ n1_;(try clear hb);(try clear hb2);(try clear hk);(try clear hi);have p877 : 0 ≤ (x9_2 : Int):=of_decide_eq_true (by first|(with_reducible assumption)|assumption);have q877 : x9_2 < (t866.length : Int):=of_decide_eq_true (by first|(with_reducible assumption)|assumption);obtain ⟨ad877,e877,hx877_0,hx877_1,hx877_2,hx877_3⟩:=at_T60 (Kd.R_reads' HO_4.out).2.2 x9_2 p877 q877;obtain rfl : ad875 = ad877:=(by injection e877);replace p877:=eq_true p877;replace q877:=eq_true q877))
            repeat (go_quiet (first|(go_at_call 41;(with_reducible refine (impl_TokText.calls k2 ((rd_T60 t866 x9_2).f0) ((rd_T60 t866 x9_2).f1) ((rd_T60 t866 x9_2).f2) ((rd_T60 t866 x9_2).f3) t876 _ A18.out).mono ?_);rintro e w39 ⟨rfl,hb⟩;have n0_:=Aside0.mk (Kd.R_below (by (with_reducible repeat (first|apply Kd.R_alloc|apply Kd.R_drewN|apply Kd.R_drew));exact HO_4.out) hb);have n1_:=Aside0.mk (below_step (by repeat (first|(with_reducible first|exact HB.out|apply below_alloc|apply pw_below_drewN|apply below_drew1)|exact HB.out)) hb);clear HO_4;clear HB;have HO_4:=n0_;have HB:=n1_;clear n0_ n1_;(try clear hb);(try clear hb2);(try clear hk);(try clear hi);have p877 : 0 ≤ (x9_2 : Int):=of_decide_eq_true (by first|(with_reducible assumption)|assumption);have q877 : x9_2 < (t866.length : Int):=of_decide_eq_true (by first|(with_reducible assumption)|assumption);obtain ⟨ad877,e877,hx877_0,hx877_1,hx877_2,hx877_3⟩:=at_T60 (Kd.R_reads' HO_4.out).2.2 x9_2 p877 q877;obtain rfl : ad875 = ad877:=(by injection e877);replace p877:=eq_true p877;replace q877:=eq_true q877));try go_wp2_with (first|(go_at_call 41;(with_reducible refine (impl_TokText.calls k2 ((rd_T60 t866 x9_2).f0) ((rd_T60 t866 x9_2).f1) ((rd_T60 t866 x9_2).f2) ((rd_T60 t866 x9_2).f3) t876 _ A18.out).mono ?_);rintro e w39 ⟨rfl,hb⟩;have n0_:=Aside0.mk (Kd.R_below (by (with_reducible repeat (first|apply Kd.R_alloc|apply Kd.R_drewN|apply Kd.R_drew));exact HO_4.out) hb);have n1_:=Aside0.mk (below_step (by repeat (first|(with_reducible first|exact HB.out|apply below_alloc|apply pw_below_drewN|apply below_drew1)|exact HB.out)) hb);clear HO_4;clear HB;have HO_4:=n0_;have HB:=n1_;clear n0_ n1_;(try clear hb);(try clear hb2);(try clear hk);(try clear hi);have p877 : 0 ≤ (x9_2 : Int):=of_decide_eq_true (by first|(with_reducible assumption)|assumption);have q877 : x9_2 < (t866.length : Int):=of_decide_eq_true (by first|(with_reducible assumption)|assumption);obtain ⟨ad877,e877,hx877_0,hx877_1,hx877_2,hx877_3⟩:=at_T60 (Kd.R_reads' HO_4.out).2.2 x9_2 p877 q877;obtain rfl : ad875 = ad877:=(by injection e877);replace p877:=eq_true p877;replace q877:=eq_true q877)))
            go_roundg k2
            case measure=>have:=HJ4.out;have:=HK2.out;omega
            case rel=>exact ⟨((x8_2 ++ t876) ++ (⟨#[32]⟩ : ByteArray)),(wrap64 (x9_2 + 1)),(by first|rfl|(simp;done)|(simp [*];done)),(by first|rfl|(simp;done)|(simp [*];done)),H',⟨by have:=HJ4.out;have:=HK2.out;omega⟩,⟨by (with_reducible repeat (first|apply Kd.R_alloc|apply Kd.R_drewN|apply Kd.R_drew));exact HO_4.out⟩,⟨by repeat (first|(with_reducible first|exact HB.out|apply below_alloc|apply pw_below_drewN|apply below_drew1)|exact HB.out)⟩⟩
          ·rw [if_neg c30] at H
           exact absurd H (by simp)
        ·rw [if_neg c19] at H
         exact absurd H (by simp)
       ·rw [if_neg c17] at H
        exact absurd H (by simp)
      ·rw [if_neg c16] at H
       have c16b0 : decide (x9_2 < (t866.length : Int)) = false:=decide_eq_false c16
       clear c16
       replace H:=Option.bind_eq_some_iff.mp H
       obtain ⟨⟨t882,t883⟩,A400,H⟩:=H
       replace H : (if (x8_2.size : Int) > 4000 then ((laws_words.f k2).bind fun t886=>(some t886)) else (if t883 = (-1) then (laws_FnWords.j2 k2 t866 t882 ((t882.length : Int) != (t866.length : Int))) else (laws_FnWords.j2 k2 t866 t882 true))) = some true:=H
       have A40:=Aside0.mk A400
       clear A400
       by_cases c41 : (x8_2.size : Int) > 4000
       ·rw [if_pos c41] at H
        have c41b0 : decide (4000 < (x8_2.size : Int)) = true:=decide_eq_true c41
        have c41b1 : decide (4000 < x8_2.size) = true:=decide_eq_true (by omega)
        clear c41
        replace H:=Option.bind_eq_some_iff.mp H
        obtain ⟨t886,A420,H⟩:=H
        replace H : (some t886) = some true:=H
        have A42:=Aside0.mk A420
        clear A420
        have HOR_:=Aside0.mk (Option.some.inj H)
        clear H
        obtain ⟨Ao43,co43,eo43⟩:=Kd.R_slice HO_4.out
        subst eo43
        go_wp2_with (first|(go_at_call 39;(with_reducible refine (impl_Lex.calls k2 x8_2 t882 t883 _ A40.out).mono ?_);rintro e w44 ⟨v884,rfl,ho0,hb⟩;have n0_:=Aside0.mk (Kd.R_elder' (by (with_reducible repeat (first|apply Kd.R_alloc|apply Kd.R_drewN|apply Kd.R_drew));exact HO_4.out) (Kd.R_base ho0) hb);have n1_:=Aside0.mk (Kd.R_lower (Kd.R_new' ho0 (Kd.R_lt (by (with_reducible repeat (first|apply Kd.R_alloc|apply Kd.R_drewN|apply Kd.R_drew));exact HO_4.out))) (below_size (by repeat (first|(with_reducible first|exact HB.out|apply below_alloc|apply pw_below_drewN|apply below_drew1)|exact HB.out))));have n2_:=Aside0.mk (below_step (by repeat (first|(with_reducible first|exact HB.out|apply below_alloc|apply pw_below_drewN|apply below_drew1)|exact HB.out)) hb);clear HO_4;clear HB;have HO_4:=n0_;have HO885:=n1_;have HB:=n2_;clear n0_ n1_ n2_;(try clear hb);(try clear hb2);(try clear hk);(try clear hi);(try clear ho0))|(go_at_call 37;(with_reducible refine (laws_words.calls k2  t886 _ A42.out).mono ?_);rintro e w45 ⟨rfl,hb⟩;have n0_:=Aside0.mk (Kd.R_below (by (with_reducible repeat (first|apply Kd.R_alloc|apply Kd.R_drewN|apply Kd.R_drew));exact HO_4.out) hb);have n1_:=Aside0.mk (Kd.R_below (by (with_reducible repeat (first|apply Kd.R_alloc|apply Kd.R_drewN|apply Kd.R_drew));exact HO885.out) hb);have n2_:=Aside0.mk (below_step (by repeat (first|(with_reducible first|exact HB.out|apply below_alloc|apply pw_below_drewN|apply below_drew1)|exact HB.out)) hb);clear HO_4;clear HO885;clear HB;have HO_4:=n0_;have HO885:=n1_;have HB:=n2_;clear n0_ n1_ n2_;(try clear hb);(try clear hb2);(try clear hk);(try clear hi)))
        repeat (go_quiet (first|(go_at_call 39;(with_reducible refine (impl_Lex.calls k2 x8_2 t882 t883 _ A40.out).mono ?_);rintro e w44 ⟨v884,rfl,ho0,hb⟩;have n0_:=Aside0.mk (Kd.R_elder' (by (with_reducible repeat (first|apply Kd.R_alloc|apply Kd.R_drewN|apply Kd.R_drew));exact HO_4.out) (Kd.R_base ho0) hb);have n1_:=Aside0.mk (Kd.R_lower (Kd.R_new' ho0 (Kd.R_lt (by (with_reducible repeat (first|apply Kd.R_alloc|apply Kd.R_drewN|apply Kd.R_drew));exact HO_4.out))) (below_size (by repeat (first|(with_reducible first|exact HB.out|apply below_alloc|apply pw_below_drewN|apply below_drew1)|exact HB.out))));have n2_:=Aside0.mk (below_step (by repeat (first|(with_reducible first|exact HB.out|apply below_alloc|apply pw_below_drewN|apply below_drew1)|exact HB.out)) hb);clear HO_4;clear HB;have HO_4:=n0_;have HO885:=n1_;have HB:=n2_;clear n0_ n1_ n2_;(try clear hb);(try clear hb2);(try clear hk);(try clear hi);(try clear ho0))|(go_at_call 37;(with_reducible refine (laws_words.calls k2  t886 _ A42.out).mono ?_);rintro e w45 ⟨rfl,hb⟩;have n0_:=Aside0.mk (Kd.R_below (by (with_reducible repeat (first|apply Kd.R_alloc|apply Kd.R_drewN|apply Kd.R_drew));exact HO_4.out) hb);have n1_:=Aside0.mk (Kd.R_below (by (with_reducible repeat (first|apply Kd.R_alloc|apply Kd.R_drewN|apply Kd.R_drew));exact HO885.out) hb);have n2_:=Aside0.mk (below_step (by repeat (first|(with_reducible first|exact HB.out|apply below_alloc|apply pw_below_drewN|apply below_drew1)|exact HB.out)) hb);clear HO_4;clear HO885;clear HB;have HO_4:=n0_;have HO885:=n1_;have HB:=n2_;clear n0_ n1_ n2_;(try clear hb);(try clear hb2);(try clear hk);(try clear hi)));try go_wp2_with (first|(go_at_call 39;(with_reducible refine (impl_Lex.calls k2 x8_2 t882 t883 _ A40.out).mono ?_);rintro e w44 ⟨v884,rfl,ho0,hb⟩;have n0_:=Aside0.mk (Kd.R_elder' (by (with_reducible repeat (first|apply Kd.R_alloc|apply Kd.R_drewN|apply Kd.R_drew));exact HO_4.out) (Kd.R_base ho0) hb);have n1_:=Aside0.mk (Kd.R_lower (Kd.R_new' ho0 (Kd.R_lt (by (with_reducible repeat (first|apply Kd.R_alloc|apply Kd.R_drewN|apply Kd.R_drew));exact HO_4.out))) (below_size (by repeat (first|(with_reducible first|exact HB.out|apply below_alloc|apply pw_below_drewN|apply below_drew1)|exact HB.out))));have n2_:=Aside0.mk (below_step (by repeat (first|(with_reducible first|exact HB.out|apply below_alloc|apply pw_below_drewN|apply below_drew1)|exact HB.out)) hb);clear HO_4;clear HB;have HO_4:=n0_;have HO885:=n1_;have HB:=n2_;clear n0_ n1_ n2_;(try clear hb);(try clear hb2);(try clear hk);(try clear hi);(try clear ho0))|(go_at_call 37;(with_reducible refine (laws_words.calls k2  t886 _ A42.out).mono ?_);rintro e w45 ⟨rfl,hb⟩;have n0_:=Aside0.mk (Kd.R_below (by (with_reducible repeat (first|apply Kd.R_alloc|apply Kd.R_drewN|apply Kd.R_drew));exact HO_4.out) hb);have n1_:=Aside0.mk (Kd.R_below (by (with_reducible repeat (first|apply Kd.R_alloc|apply Kd.R_drewN|apply Kd.R_drew));exact HO885.out) hb);have n2_:=Aside0.mk (below_step (by repeat (first|(with_reducible first|exact HB.out|apply below_alloc|apply pw_below_drewN|apply below_drew1)|exact HB.out)) hb);clear HO_4;clear HO885;clear HB;have HO_4:=n0_;have HO885:=n1_;have HB:=n2_;clear n0_ n1_ n2_;(try clear hb);(try clear hb2);(try clear hk);(try clear hi))))
        go_ret
        exact ⟨by first|rfl|(rw [HOR_.out];done)|(rw [HOR_.out];rfl)|(simp [HOR_.out];done)|(have h_:=HOR_.out;simp at h_;subst h_;first|rfl|(simp;done))|(have h_:=HOR_.out;simp at h_ ⊢;exact h_)|(simp [errW_none,errW_some] <;> rfl)|(simp [*,errW_none,errW_some] <;> rfl),by repeat (first|(with_reducible first|exact HB.out|apply below_alloc|apply pw_below_drewN|apply below_drew1)|exact HB.out)⟩
       ·rw [if_neg c41] at H
        have c41b0 : decide (4000 < (x8_2.size : Int)) = false:=decide_eq_false c41
        have c41b1 : decide (4000 < x8_2.size) = false:=decide_eq_false (by omega)
        clear c41
        have HC46:=Aside0.mk H
        clear H
        obtain ⟨Ao47,co47,eo47⟩:=Kd.R_slice HO_4.out
        subst eo47
        go_upto_region 18 with (first|(go_at_call 39;(with_reducible refine (impl_Lex.calls k2 x8_2 t882 t883 _ A40.out).mono ?_);rintro e w48 ⟨v884,rfl,ho0,hb⟩;have n0_:=Aside0.mk (Kd.R_elder' (by (with_reducible repeat (first|apply Kd.R_alloc|apply Kd.R_drewN|apply Kd.R_drew));exact HO_4.out) (Kd.R_base ho0) hb);have n1_:=Aside0.mk (Kd.R_lower (Kd.R_new' ho0 (Kd.R_lt (by (with_reducible repeat (first|apply Kd.R_alloc|apply Kd.R_drewN|apply Kd.R_drew));exact HO_4.out))) (below_size (by repeat (first|(with_reducible first|exact HB.out|apply below_alloc|apply pw_below_drewN|apply below_drew1)|exact HB.out))));have n2_:=Aside0.mk (below_step (by repeat (first|(with_reducible first|exact HB.out|apply below_alloc|apply pw_below_drewN|apply below_drew1)|exact HB.out)) hb);clear HO_4;clear HB;have HO_4:=n0_;have HO885:=n1_;have HB:=n2_;clear n0_ n1_ n2_;(try clear hb);(try clear hb2);(try clear hk);(try clear hi);(try clear ho0)))
        repeat (go_quiet (first|(go_at_call 39;(with_reducible refine (impl_Lex.calls k2 x8_2 t882 t883 _ A40.out).mono ?_);rintro e w48 ⟨v884,rfl,ho0,hb⟩;have n0_:=Aside0.mk (Kd.R_elder' (by (with_reducible repeat (first|apply Kd.R_alloc|apply Kd.R_drewN|apply Kd.R_drew));exact HO_4.out) (Kd.R_base ho0) hb);have n1_:=Aside0.mk (Kd.R_lower (Kd.R_new' ho0 (Kd.R_lt (by (with_reducible repeat (first|apply Kd.R_alloc|apply Kd.R_drewN|apply Kd.R_drew));exact HO_4.out))) (below_size (by repeat (first|(with_reducible first|exact HB.out|apply below_alloc|apply pw_below_drewN|apply below_drew1)|exact HB.out))));have n2_:=Aside0.mk (below_step (by repeat (first|(with_reducible first|exact HB.out|apply below_alloc|apply pw_below_drewN|apply below_drew1)|exact HB.out)) hb);clear HO_4;clear HB;have HO_4:=n0_;have HO885:=n1_;have HB:=n2_;clear n0_ n1_ n2_;(try clear hb);(try clear hb2);(try clear hk);(try clear hi);(try clear ho0)));go_upto_region 18 with (first|(go_at_call 39;(with_reducible refine (impl_Lex.calls k2 x8_2 t882 t883 _ A40.out).mono ?_);rintro e w48 ⟨v884,rfl,ho0,hb⟩;have n0_:=Aside0.mk (Kd.R_elder' (by (with_reducible repeat (first|apply Kd.R_alloc|apply Kd.R_drewN|apply Kd.R_drew));exact HO_4.out) (Kd.R_base ho0) hb);have n1_:=Aside0.mk (Kd.R_lower (Kd.R_new' ho0 (Kd.R_lt (by (with_reducible repeat (first|apply Kd.R_alloc|apply Kd.R_drewN|apply Kd.R_drew));exact HO_4.out))) (below_size (by repeat (first|(with_reducible first|exact HB.out|apply below_alloc|apply pw_below_drewN|apply below_drew1)|exact HB.out))));have n2_:=Aside0.mk (below_step (by repeat (first|(with_reducible first|exact HB.out|apply below_alloc|apply pw_below_drewN|apply below_drew1)|exact HB.out)) hb);clear HO_4;clear HB;have HO_4:=n0_;have HO885:=n1_;have HB:=n2_;clear n0_ n1_ n2_;(try clear hb);(try clear hb2);(try clear hk);(try clear hi);(try clear ho0))))
        (try simp only [Act.put,List.setIfInBounds_toArray,List.set_cons_zero,List.set_cons_succ])
        go_cut [97] (fun v97 wc=>∃ (kq : Nat) (x97_45 : Bool),v97 = .bool x97_45 ∧ Aside0 (laws_FnWords.j2 kq t866 t882 x97_45 = some true) ∧ Aside0 (kq ≤ k2) ∧ Aside0 (Kd.R k60 60 wc w.heap.size (fun k_=>some k_ ≠ (v884 : Value).ownBlock) (.slice Ao47 t866.length co47) t866) ∧ Aside0 (Kd.R k60 60 wc w.heap.size (fun k_=>some k_ ≠ ((.slice Ao47 t866.length co47) : Value).ownBlock) v884 t882) ∧ Aside0 (Below w.heap.size w wc))
        case first =>
         have H:=HC46.out
         clear HC46
         by_cases c49 : t883 = (-1)
         ·rw [if_pos c49] at H
          have c49b0 : (t883 == (-1)) = true:=beq_iff_eq.mpr c49
          have c49b1 : (t883 != (-1)) = false:=bne_eq_false_iff_eq.mpr c49
          clear c49
          (first|rw [c49b0]|(simp only [i64_w,i32_w];rw [c49b0])|skip)
          have H':=Aside0.mk H
          clear H
          obtain ⟨Ao50,co50,eo50⟩:=Kd.R_slice HO885.out
          subst eo50
          go_wp2
          repeat (go_quiet (fail);try go_wp2)
          go_meet
          case rel=>exact ⟨_,(((t882.length : Int) != (t866.length : Int))),(by first|rfl|(simp;done)|(simp [*];done)),H',⟨by have:=HJ4.out;have:=HK2.out;first|omega|exact Nat.le_refl _⟩,⟨by (with_reducible repeat (first|apply Kd.R_alloc|apply Kd.R_drewN|apply Kd.R_drew));exact Kd.R_mono HO_4.out (fun _ hk=>hk.2)⟩,⟨by (with_reducible repeat (first|apply Kd.R_alloc|apply Kd.R_drewN|apply Kd.R_drew));exact Kd.R_mono HO885.out (fun _ hk=>hk.2)⟩,⟨by repeat (first|(with_reducible first|exact HB.out|apply below_alloc|apply pw_below_drewN|apply below_drew1)|exact HB.out)⟩⟩
         ·rw [if_neg c49] at H
          have c49b0 : (t883 == (-1)) = false:=beq_eq_false_iff_ne.mpr c49
          have c49b1 : (t883 != (-1)) = true:=bne_iff_ne.mpr c49
          (first|rw [c49b0]|(simp only [i64_w,i32_w];rw [c49b0])|skip)
          have H':=Aside0.mk H
          clear H
          go_wp2
          repeat (go_quiet (fail);try go_wp2)
          go_meet
          case rel=>exact ⟨_,(true),(by first|rfl|(simp;done)|(simp [*];done)),H',⟨by have:=HJ4.out;have:=HK2.out;first|omega|exact Nat.le_refl _⟩,⟨by (with_reducible repeat (first|apply Kd.R_alloc|apply Kd.R_drewN|apply Kd.R_drew));exact Kd.R_mono HO_4.out (fun _ hk=>hk.2)⟩,⟨by (with_reducible repeat (first|apply Kd.R_alloc|apply Kd.R_drewN|apply Kd.R_drew));exact Kd.R_mono HO885.out (fun _ hk=>hk.2)⟩,⟨by repeat (first|(with_reducible first|exact HB.out|apply below_alloc|apply pw_below_drewN|apply below_drew1)|exact HB.out)⟩⟩
        case rest =>
         clear HC46
         try clear c1
         try clear c2
         try clear p2
         try clear c3
         try clear c4
         try clear p6
         try clear p8
         try clear q8
         try clear hx8
         try clear c9
         try clear c9b0
         try clear c9b1
         try clear c10
         try clear c11
         try clear c11b0
         try clear c11b1
         try clear c12
         try clear c12b0
         try clear c12b1
         try clear c12b2
         try clear c16
         try clear c16b0
         try clear c17
         try clear c17b0
         try clear c19
         try clear c19b0
         try clear c19b1
         try clear c19b2
         try clear c20
         try clear c20b0
         try clear c20b1
         try clear c21
         try clear c21b0
         try clear c23
         try clear c23b0
         try clear c24
         try clear c24b0
         try clear c25
         try clear c25b0
         try clear c30
         try clear c30b0
         try clear c30b1
         try clear c30b2
         try clear c31
         try clear c31b0
         try clear c33
         try clear c33b0
         try clear c34
         try clear c34b0
         try clear c35
         try clear c35b0
         try clear c41
         try clear c41b0
         try clear c41b1
         try clear c49
         try clear c49b0
         try clear c49b1
         try clear hx875_0
         try clear hx875_1
         try clear hx875_2
         try clear hx875_3
         try clear hx877_0
         try clear hx877_1
         try clear hx877_2
         try clear hx877_3
         try clear hx878_0
         try clear hx878_1
         try clear hx878_2
         try clear hx878_3
         try clear hx879_0
         try clear hx879_1
         try clear hx879_2
         try clear hx879_3
         try clear hx880_0
         try clear hx880_1
         try clear hx880_2
         try clear hx880_3
         try clear hx881_0
         try clear hx881_1
         try clear hx881_2
         try clear hx881_3
         try clear p2
         try clear p875
         try clear p877
         try clear p878
         try clear p879
         try clear p880
         try clear p881
         try clear q875
         try clear q877
         try clear q878
         try clear q879
         try clear q880
         try clear q881
         obtain ⟨kq,x97_45,rfl,HA,HJ45,HO_4,HO_10,HB⟩:=hcut
         cases kq with
         | zero=>exact absurd HA.out (by simp [laws_FnWords.j2])
         | succ kj45 =>
          have H:=HA.out
          clear HA
          simp only [laws_FnWords.j2] at H
          by_cases c51 : x97_45 = true
          ·subst c51
           have H1 : (some false) = some true:=by rw [if_pos rfl] at H;exact H
           clear H
           have H:=H1
           clear H1
           exact absurd H (by simp)
          ·replace c51:=Bool.eq_false_iff.mpr c51
           subst c51
           have H1 : (laws_FnWords.l1 kj45 t866 t882 0) = some true:=by rw [if_neg (show ¬ (false = true) by decide)] at H;exact H
           clear H
           have H:=H1
           clear H1
           have H':=Aside0.mk H
           clear H
           go_wp2
           repeat (go_quiet (fail);try go_wp2)
           go_loopg [12] kj45 (fun kq v12 w'=>∃ (x12_4 : Int),v12 = .int .i64 x12_4 ∧ Aside0 (laws_FnWords.l1 kq t866 t882 x12_4 = some true) ∧ Aside0 (kq ≤ kj45) ∧ Aside0 (Kd.R k60 60 w' w.heap.size (fun k_=>some k_ ≠ (v884 : Value).ownBlock) (.slice Ao47 t866.length co47) t866) ∧ Aside0 (Kd.R k60 60 w' w.heap.size (fun k_=>some k_ ≠ ((.slice Ao47 t866.length co47) : Value).ownBlock) v884 t882) ∧ Aside0 (Below w.heap.size w w'))
           case atStart=>exact ⟨(0),(by first|rfl|(simp;done)|(simp [*];done)),H',⟨Nat.le_refl _⟩,⟨by (with_reducible repeat (first|apply Kd.R_alloc|apply Kd.R_drewN|apply Kd.R_drew));exact HO_4.out⟩,⟨by (with_reducible repeat (first|apply Kd.R_alloc|apply Kd.R_drewN|apply Kd.R_drew));exact HO_10.out⟩,⟨by repeat (first|(with_reducible first|exact HB.out|apply below_alloc|apply pw_below_drewN|apply below_drew1)|exact HB.out)⟩⟩
           case round =>
            clear H'
            try clear c1
            try clear c2
            try clear p2
            try clear c3
            try clear c4
            try clear c5
            try clear p6
            try clear p8
            try clear q8
            try clear hx8
            try clear c9
            try clear c9b0
            try clear c9b1
            try clear c10
            try clear c11
            try clear c11b0
            try clear c11b1
            try clear c12
            try clear c12b0
            try clear c12b1
            try clear c12b2
            try clear c16
            try clear c16b0
            try clear c17
            try clear c17b0
            try clear c19
            try clear c19b0
            try clear c19b1
            try clear c19b2
            try clear c20
            try clear c20b0
            try clear c20b1
            try clear c21
            try clear c21b0
            try clear c23
            try clear c23b0
            try clear c24
            try clear c24b0
            try clear c25
            try clear c25b0
            try clear c30
            try clear c30b0
            try clear c30b1
            try clear c30b2
            try clear c31
            try clear c31b0
            try clear c33
            try clear c33b0
            try clear c34
            try clear c34b0
            try clear c35
            try clear c35b0
            try clear c41
            try clear c41b0
            try clear c41b1
            try clear c49
            try clear c49b0
            try clear c49b1
            try clear c51
            try clear hx875_0
            try clear hx875_1
            try clear hx875_2
            try clear hx875_3
            try clear hx877_0
            try clear hx877_1
            try clear hx877_2
            try clear hx877_3
            try clear hx878_0
            try clear hx878_1
            try clear hx878_2
            try clear hx878_3
            try clear hx879_0
            try clear hx879_1
            try clear hx879_2
            try clear hx879_3
            try clear hx880_0
            try clear hx880_1
            try clear hx880_2
            try clear hx880_3
            try clear hx881_0
            try clear hx881_1
            try clear hx881_2
            try clear hx881_3
            try clear p2
            try clear p6
            try clear p8
            try clear p875
            try clear p877
            try clear p878
            try clear p879
            try clear p880
            try clear p881
            try clear q8
            try clear q875
            try clear q877
            try clear q878
            try clear q879
            try clear q880
            try clear q881
            obtain ⟨x12_4,rfl,HA,HK4,HO_4,HO_10,HB⟩:=hrel
            cases gk with
            | zero=>exact absurd HA.out (by simp [laws_FnWords.l1])
            | succ k4 =>
             have H:=HA.out
             clear HA
             simp only [laws_FnWords.l1] at H
             by_cases c52 : x12_4 < (t866.length : Int)
             ·rw [if_pos c52] at H
              have c52b0 : decide (x12_4 < (t866.length : Int)) = true:=decide_eq_true c52
              clear c52
              by_cases c53 : 0 ≤ x12_4
              ·rw [if_pos c53] at H
               have c53b0 : decide (0 ≤ x12_4) = true:=decide_eq_true c53
               clear c53
               by_cases c54 : x12_4 < (t882.length : Int)
               ·rw [if_pos c54] at H
                have c54b0 : decide (x12_4 < (t882.length : Int)) = true:=decide_eq_true c54
                clear c54
                by_cases c55 : ((rd_T60 t882 x12_4).f0) = ((rd_T60 t866 x12_4).f0)
                ·rw [if_pos c55] at H
                 have c55b0 : (((rd_T60 t882 x12_4).f0) == ((rd_T60 t866 x12_4).f0)) = true:=beq_iff_eq.mpr c55
                 have c55b1 : (((rd_T60 t882 x12_4).f0) != ((rd_T60 t866 x12_4).f0)) = false:=bne_eq_false_iff_eq.mpr c55
                 clear c55
                 by_cases c56 : ((rd_T60 t882 x12_4).f1).toList = ((rd_T60 t866 x12_4).f1).toList
                 ·rw [if_pos c56] at H
                  have c56b0 : (((rd_T60 t882 x12_4).f1).toList == ((rd_T60 t866 x12_4).f1).toList) = true:=beq_iff_eq.mpr c56
                  have c56b1 : (((rd_T60 t882 x12_4).f1).toList != ((rd_T60 t866 x12_4).f1).toList) = false:=bne_eq_false_iff_eq.mpr c56
                  clear c56
                  by_cases c57 : ((rd_T60 t882 x12_4).f2) = ((rd_T60 t866 x12_4).f2)
                  ·rw [if_pos c57] at H
                   have c57b0 : (((rd_T60 t882 x12_4).f2) == ((rd_T60 t866 x12_4).f2)) = true:=beq_iff_eq.mpr c57
                   have c57b1 : (((rd_T60 t882 x12_4).f2) != ((rd_T60 t866 x12_4).f2)) = false:=bne_eq_false_iff_eq.mpr c57
                   clear c57
                   have H':=Aside0.mk H
                   clear H
                   obtain ⟨Ao58,co58,eo58⟩:=Kd.R_slice HO_10.out
                   subst eo58
                   have p887 : 0 ≤ (x12_4 : Int):=of_decide_eq_true (by first|(with_reducible assumption)|assumption)
                   have q887 : x12_4 < (t882.length : Int):=of_decide_eq_true (by first|(with_reducible assumption)|assumption)
                   obtain ⟨ad887,e887,hx887_0,hx887_1,hx887_2,hx887_3⟩:=at_T60 (Kd.R_reads' HO_10.out).2.2 x12_4 p887 q887
                   cases e887
                   replace p887:=eq_true p887
                   replace q887:=eq_true q887
                   have p888 : 0 ≤ (x12_4 : Int):=of_decide_eq_true (by first|(with_reducible assumption)|assumption)
                   have q888 : x12_4 < (t866.length : Int):=of_decide_eq_true (by first|(with_reducible assumption)|assumption)
                   obtain ⟨ad888,e888,hx888_0,hx888_1,hx888_2,hx888_3⟩:=at_T60 (Kd.R_reads' HO_4.out).2.2 x12_4 p888 q888
                   cases e888
                   replace p888:=eq_true p888
                   replace q888:=eq_true q888
                   have p889 : 0 ≤ (x12_4 : Int):=of_decide_eq_true (by first|(with_reducible assumption)|assumption)
                   have q889 : x12_4 < (t882.length : Int):=of_decide_eq_true (by first|(with_reducible assumption)|assumption)
                   obtain ⟨ad889,e889,hx889_0,hx889_1,hx889_2,hx889_3⟩:=at_T60 (Kd.R_reads' HO_10.out).2.2 x12_4 p889 q889
                   obtain rfl : ad887 = ad889:=(by injection e889)
                   replace p889:=eq_true p889
                   replace q889:=eq_true q889
                   have p890 : 0 ≤ (x12_4 : Int):=of_decide_eq_true (by first|(with_reducible assumption)|assumption)
                   have q890 : x12_4 < (t866.length : Int):=of_decide_eq_true (by first|(with_reducible assumption)|assumption)
                   obtain ⟨ad890,e890,hx890_0,hx890_1,hx890_2,hx890_3⟩:=at_T60 (Kd.R_reads' HO_4.out).2.2 x12_4 p890 q890
                   obtain rfl : ad888 = ad890:=(by injection e890)
                   replace p890:=eq_true p890
                   replace q890:=eq_true q890
                   have p891 : 0 ≤ (x12_4 : Int):=of_decide_eq_true (by first|(with_reducible assumption)|assumption)
                   have q891 : x12_4 < (t882.length : Int):=of_decide_eq_true (by first|(with_reducible assumption)|assumption)
                   obtain ⟨ad891,e891,hx891_0,hx891_1,hx891_2,hx891_3⟩:=at_T60 (Kd.R_reads' HO_10.out).2.2 x12_4 p891 q891
                   obtain rfl : ad887 = ad891:=(by injection e891)
                   replace p891:=eq_true p891
                   replace q891:=eq_true q891
                   have p892 : 0 ≤ (x12_4 : Int):=of_decide_eq_true (by first|(with_reducible assumption)|assumption)
                   have q892 : x12_4 < (t866.length : Int):=of_decide_eq_true (by first|(with_reducible assumption)|assumption)
                   obtain ⟨ad892,e892,hx892_0,hx892_1,hx892_2,hx892_3⟩:=at_T60 (Kd.R_reads' HO_4.out).2.2 x12_4 p892 q892
                   obtain rfl : ad888 = ad892:=(by injection e892)
                   replace p892:=eq_true p892
                   replace q892:=eq_true q892
                   go_wp2
                   repeat (go_quiet (fail);try go_wp2)
                   go_roundg k4
                   case measure=>have:=HJ4.out;have:=HK2.out;have:=HJ45.out;have:=HK4.out;omega
                   case rel=>exact ⟨(wrap64 (x12_4 + 1)),(by first|rfl|(simp;done)|(simp [*];done)),H',⟨by have:=HJ4.out;have:=HK2.out;have:=HJ45.out;have:=HK4.out;omega⟩,⟨by (with_reducible repeat (first|apply Kd.R_alloc|apply Kd.R_drewN|apply Kd.R_drew));exact HO_4.out⟩,⟨by (with_reducible repeat (first|apply Kd.R_alloc|apply Kd.R_drewN|apply Kd.R_drew));exact HO_10.out⟩,⟨by repeat (first|(with_reducible first|exact HB.out|apply below_alloc|apply pw_below_drewN|apply below_drew1)|exact HB.out)⟩⟩
                  ·rw [if_neg c57] at H
                   have c57b0 : (((rd_T60 t882 x12_4).f2) == ((rd_T60 t866 x12_4).f2)) = false:=beq_eq_false_iff_ne.mpr c57
                   have c57b1 : (((rd_T60 t882 x12_4).f2) != ((rd_T60 t866 x12_4).f2)) = true:=bne_iff_ne.mpr c57
                   exact absurd H (by simp)
                 ·rw [if_neg c56] at H
                  have c56b0 : (((rd_T60 t882 x12_4).f1).toList == ((rd_T60 t866 x12_4).f1).toList) = false:=beq_eq_false_iff_ne.mpr c56
                  have c56b1 : (((rd_T60 t882 x12_4).f1).toList != ((rd_T60 t866 x12_4).f1).toList) = true:=bne_iff_ne.mpr c56
                  exact absurd H (by simp)
                ·rw [if_neg c55] at H
                 have c55b0 : (((rd_T60 t882 x12_4).f0) == ((rd_T60 t866 x12_4).f0)) = false:=beq_eq_false_iff_ne.mpr c55
                 have c55b1 : (((rd_T60 t882 x12_4).f0) != ((rd_T60 t866 x12_4).f0)) = true:=bne_iff_ne.mpr c55
                 exact absurd H (by simp)
               ·rw [if_neg c54] at H
                exact absurd H (by simp)
              ·rw [if_neg c53] at H
               exact absurd H (by simp)
             ·rw [if_neg c52] at H
              have c52b0 : decide (x12_4 < (t866.length : Int)) = false:=decide_eq_false c52
              clear c52
              replace H:=Option.bind_eq_some_iff.mp H
              obtain ⟨t893,A590,H⟩:=H
              replace H : (some t893) = some true:=H
              have A59:=Aside0.mk A590
              clear A590
              have HOR_:=Aside0.mk (Option.some.inj H)
              clear H
              go_wp2_with (first|(go_at_call 37;(with_reducible refine (laws_words.calls k4  t893 _ A59.out).mono ?_);rintro e w60 ⟨rfl,hb⟩;have n0_:=Aside0.mk (Kd.R_below (by (with_reducible repeat (first|apply Kd.R_alloc|apply Kd.R_drewN|apply Kd.R_drew));exact HO_4.out) hb);have n1_:=Aside0.mk (Kd.R_below (by (with_reducible repeat (first|apply Kd.R_alloc|apply Kd.R_drewN|apply Kd.R_drew));exact HO_10.out) hb);have n2_:=Aside0.mk (below_step (by repeat (first|(with_reducible first|exact HB.out|apply below_alloc|apply pw_below_drewN|apply below_drew1)|exact HB.out)) hb);clear HO_4;clear HO_10;clear HB;have HO_4:=n0_;have HO_10:=n1_;have HB:=n2_;clear n0_ n1_ n2_;(try clear hb);(try clear hb2);(try clear hk);(try clear hi)))
              repeat (go_quiet (first|(go_at_call 37;(with_reducible refine (laws_words.calls k4  t893 _ A59.out).mono ?_);rintro e w60 ⟨rfl,hb⟩;have n0_:=Aside0.mk (Kd.R_below (by (with_reducible repeat (first|apply Kd.R_alloc|apply Kd.R_drewN|apply Kd.R_drew));exact HO_4.out) hb);have n1_:=Aside0.mk (Kd.R_below (by (with_reducible repeat (first|apply Kd.R_alloc|apply Kd.R_drewN|apply Kd.R_drew));exact HO_10.out) hb);have n2_:=Aside0.mk (below_step (by repeat (first|(with_reducible first|exact HB.out|apply below_alloc|apply pw_below_drewN|apply below_drew1)|exact HB.out)) hb);clear HO_4;clear HO_10;clear HB;have HO_4:=n0_;have HO_10:=n1_;have HB:=n2_;clear n0_ n1_ n2_;(try clear hb);(try clear hb2);(try clear hk);(try clear hi)));try go_wp2_with (first|(go_at_call 37;(with_reducible refine (laws_words.calls k4  t893 _ A59.out).mono ?_);rintro e w60 ⟨rfl,hb⟩;have n0_:=Aside0.mk (Kd.R_below (by (with_reducible repeat (first|apply Kd.R_alloc|apply Kd.R_drewN|apply Kd.R_drew));exact HO_4.out) hb);have n1_:=Aside0.mk (Kd.R_below (by (with_reducible repeat (first|apply Kd.R_alloc|apply Kd.R_drewN|apply Kd.R_drew));exact HO_10.out) hb);have n2_:=Aside0.mk (below_step (by repeat (first|(with_reducible first|exact HB.out|apply below_alloc|apply pw_below_drewN|apply below_drew1)|exact HB.out)) hb);clear HO_4;clear HO_10;clear HB;have HO_4:=n0_;have HO_10:=n1_;have HB:=n2_;clear n0_ n1_ n2_;(try clear hb);(try clear hb2);(try clear hk);(try clear hi))))
              go_ret
              exact ⟨by first|rfl|(rw [HOR_.out];done)|(rw [HOR_.out];rfl)|(simp [HOR_.out];done)|(have h_:=HOR_.out;simp at h_;subst h_;first|rfl|(simp;done))|(have h_:=HOR_.out;simp at h_ ⊢;exact h_)|(simp [errW_none,errW_some] <;> rfl)|(simp [*,errW_none,errW_some] <;> rfl),by repeat (first|(with_reducible first|exact HB.out|apply below_alloc|apply pw_below_drewN|apply below_drew1)|exact HB.out)⟩
def laws_FnWords.Pure : Prop:=∀ (l0 : List Int),l0.length ≤ maxLen → l0.length * 1 ≤ 140737488351232 → (∀ x ∈ l0,(Lit.int .u8 x).wf = true) → ∃ k,laws_FnWords.f k l0 = some true
end Go.Proofs.YtnfiljnncpieoaaDoor.Q
namespace Go.Proofs.YtnfiljnncpieoaaDoor.Pure
open Go Go.RowKit Go.Proofs.YtnfiljnncpieoaaDoor.Q Go.Proofs.YtnfiljnncpieoaaDoorW.PrintWords Go.Proofs.YtnfiljnncpieoaaDoorW.PrintLast Go.Proofs.YtnfiljnncpieoaaDoorW.PrintMore
def valFrom (n : Int) (l : List Int) : Int := l.foldl (fun n c => n * 10 + (c - 48) % 256) n
theorem valFrom_nonneg (l : List Int) : ∀ n : Int, 0 ≤ n → 0 ≤ valFrom n l := by
  induction l with
  | nil => intro n h; exact h
  | cons c l ih => intro n h; exact ih _ (show 0 ≤ n * 10 + (c - 48) % 256 by omega)
theorem numFold (l : List Int) : ∀ n : Int, 0 ≤ n → l.foldl numStep (mn n 9000000000001) = mn (valFrom n l) 9000000000001 := by
  induction l with
  | nil => intro n _; rfl
  | cons c l ih =>
    intro n h
    have e : numStep (mn n 9000000000001) c = mn (n * 10 + (c - 48) % 256) 9000000000001 := by
      unfold numStep mn; omega
    show l.foldl numStep (numStep (mn n 9000000000001) c) = _
    rw [e]
    exact ih _ (by omega)
def wholeStep (n : Int) (c : Int) : Int := if n * 10 + (c - 48) % 256 * 1000000 > 9000000000000 then 9000000000001 else n * 10 + (c - 48) % 256 * 1000000
theorem wholeFold (l : List Int) : ∀ n : Int, 0 ≤ n → l.foldl wholeStep (mn (n * 1000000) 9000000000001) = mn (valFrom n l * 1000000) 9000000000001 := by
  induction l with
  | nil => intro n _; rfl
  | cons c l ih =>
    intro n h
    have e : wholeStep (mn (n * 1000000) 9000000000001) c = mn ((n * 10 + (c - 48) % 256) * 1000000) 9000000000001 := by
      unfold wholeStep mn; omega
    show l.foldl wholeStep (wholeStep (mn (n * 1000000) 9000000000001) c) = _
    rw [e]
    exact ih _ (by omega)
def partSum : Int → List Int → Int
  | _, [] => 0
  | u, c :: l => (c - 48) % 256 * u + partSum (u / 10) l
theorem partSum_zero (l : List Int) : partSum 0 l = 0 := by
  induction l with
  | nil => rfl
  | cons c l ih => show (c - 48) % 256 * 0 + partSum (0 / 10) l = 0; rw [show (0 : Int) / 10 = 0 from rfl, ih]; omega
theorem partSum_six (l : List Int) : partSum 100000 l = valFrom 0 ((l ++ [48, 48, 48, 48, 48, 48]).take 6) := by
  match l with
  | [] => decide
  | [a] => simp [partSum, valFrom]; omega
  | [a, b] => simp [partSum, valFrom]; omega
  | [a, b, c] => simp [partSum, valFrom]; omega
  | [a, b, c, d] => simp [partSum, valFrom]; omega
  | [a, b, c, d, e] => simp [partSum, valFrom]; omega
  | a :: b :: c :: d :: e :: f :: l =>
    have z := partSum_zero l
    simp [partSum, valFrom, z]; omega
theorem valFrom_append (n : Int) (l m : List Int) : valFrom n (l ++ m) = valFrom (valFrom n l) m := List.foldl_append ..
theorem valFrom_shift (m : List Int) : ∀ n : Int, valFrom n m = n * 10 ^ m.length + valFrom 0 m := by
  induction m with
  | nil => intro n; simp [valFrom]
  | cons c m ih =>
    intro n
    show valFrom (n * 10 + (c - 48) % 256) m = n * 10 ^ (m.length + 1) + valFrom (0 * 10 + (c - 48) % 256) m
    rw [ih, ih (0 * 10 + (c - 48) % 256)]
    rw [show (10 : Int) ^ (m.length + 1) = 10 ^ m.length * 10 from Int.pow_succ ..]
    grind
theorem both_ways (w p : List Int) : mn (mn (valFrom 0 w * 1000000) 9000000000001 + partSum 100000 p) 9000000000000 = mn (mn (valFrom 0 (w ++ (p ++ [48, 48, 48, 48, 48, 48]).take 6)) 9000000000001) 9000000000000 := by
  have hl : ((p ++ [48, 48, 48, 48, 48, 48]).take 6).length = 6 := by simp
  have e1 := valFrom_shift (List.take 6 (p ++ [48, 48, 48, 48, 48, 48])) (valFrom 0 w)
  rw [valFrom_append, e1, hl, ← partSum_six]
  have h0 : 0 ≤ partSum 100000 p := by rw [partSum_six]; exact valFrom_nonneg _ 0 (by omega)
  have e6 : (10 : Int) ^ 6 = 1000000 := by decide
  rw [e6]
  generalize valFrom 0 w * 1000000 = x
  unfold mn; omega
theorem white_eq (c : Int) : spec_l1white.f c = some (isSp c) := by
  unfold spec_l1white.f isSp
  by_cases h1 : c = 32
  · subst h1; rfl
  · rw [if_neg h1]
    by_cases h2 : c = 9
    · subst h2; rfl
    · rw [if_neg h2, beq_eq_false_iff_ne.mpr h1, beq_eq_false_iff_ne.mpr h2]; rfl
theorem digit_eq (c : Int) : spec_l1digit.f c = some (isDg c) := by
  unfold spec_l1digit.f isDg
  by_cases h1 : c ≥ 48
  · rw [if_pos h1, decide_eq_true h1]; rfl
  · rw [if_neg h1, decide_eq_false h1]; rfl
theorem w64 {x : Int} (h0 : -9223372036854775808 ≤ x) (h1 : x ≤ 9223372036854775807) : wrap64 x = x := by unfold wrap64; omega
theorem skip_l0 (s : ByteArray) (hs : s.size ≤ 9223372036854775806) (i : Nat) : ∀ k, i ≤ s.size → s.size - i < k → spec_l1skip.l0 k s i = some ((i + Q.runN isSp s i : Nat) : Int) := by
  fun_induction Q.runN isSp s i with
  | case1 i h1 h2 ih =>
    intro k hi hk
    obtain ⟨k, rfl⟩ : ∃ m, k = m + 1 := ⟨k - 1, by omega⟩
    simp only [spec_l1skip.l0]
    rw [if_pos (by omega), if_pos (by omega), white_eq, Option.bind_some, if_pos h2, w64 (by omega) (by omega)]
    have := ih k (by omega) (by omega)
    rw [show (i : Int) + 1 = ((i + 1 : Nat) : Int) by omega, this]
    congr 1; omega
  | case2 i h1 h2 =>
    intro k hi hk
    obtain ⟨k, rfl⟩ : ∃ m, k = m + 1 := ⟨k - 1, by omega⟩
    simp only [spec_l1skip.l0]
    rw [if_pos (by omega), if_pos (by omega), white_eq, Option.bind_some, if_neg h2]; rfl
  | case3 i h1 =>
    intro k hi hk
    obtain ⟨k, rfl⟩ : ∃ m, k = m + 1 := ⟨k - 1, by omega⟩
    simp only [spec_l1skip.l0]
    rw [if_neg (by omega)]; rfl
theorem skip_eq (s : ByteArray) (hs : s.size ≤ 9223372036854775806) (i : Nat) (hi : i ≤ s.size) (k : Nat) (hk : s.size < k) : spec_l1skip.f k s i = some ((i + Q.runN isSp s i : Nat) : Int) := by
  unfold spec_l1skip.f
  exact skip_l0 s hs i k hi (by omega)
def seg (s : ByteArray) (i : Nat) : Nat → List Int
  | 0 => []
  | m + 1 => bt s (i : Int) :: seg s (i + 1) m
theorem seg_length (s : ByteArray) (m : Nat) : ∀ i, (seg s i m).length = m := by
  induction m with
  | zero => intro i; rfl
  | succ m ih => intro i; simp [seg, ih]
theorem bytes_extract (s : ByteArray) (i m : Nat) (h : i + m ≤ s.size) : (s.extract i (i + m)).data.toList.map (fun b => (b.toNat : Int)) = seg s i m := by
  apply List.ext_getElem
  · rw [seg_length, List.length_map, Array.length_toList]
    have : (s.extract i (i + m)).size = m := by rw [ByteArray.size_extract]; omega
    exact this
  · intro j h1 h2
    rw [seg_length] at h2
    have e : ∀ (m i j : Nat) (h : j < (seg s i m).length), (seg s i m)[j] = bt s ((i + j : Nat) : Int) := by
      intro m
      induction m with
      | zero => intro i j h; simp [seg] at h
      | succ m ih =>
        intro i j h
        cases j with
        | zero => simp [seg]
        | succ j =>
          have h' : j < (seg s (i + 1) m).length := by simpa [seg] using h
          simp only [seg, List.getElem_cons_succ]
          rw [ih (i + 1) j h']
          congr 2; omega
    rw [e m i j (by rw [seg_length]; exact h2), bt_nat (by omega)]
    simp [ByteArray.data_extract]
    rfl
theorem digB (c : Int) (h : isDg c = true) : 48 ≤ c ∧ c ≤ 57 := by
  unfold isDg at h
  simpa using h
theorem mn_range {x : Int} (h : 0 ≤ x) : 0 ≤ mn x 9000000000001 ∧ mn x 9000000000001 ≤ 9000000000001 := by unfold mn; omega
theorem wholeStep_range (n c : Int) (h0 : 0 ≤ n) : 0 ≤ wholeStep n c ∧ wholeStep n c ≤ 9000000000001 := by unfold wholeStep; split <;> omega
theorem readDec_l0 (s : ByteArray) (hs : s.size ≤ 140737488355328) (neg : Bool) (i : Nat) : ∀ (k m : Nat) (n x7 : Int), Q.runN isDg s i = m → i ≤ s.size → 0 ≤ n → n ≤ 9000000000001 → 0 ≤ x7 → x7 ≤ i →
    spec_ReadDec.l0 (k + 2 + 2 * m) s i neg n x7 = spec_ReadDec.j3 (k + 1) s ((i + m : Nat) : Int) neg ((seg s i m).foldl wholeStep n) (x7 + m) false := by
  fun_induction Q.runN isDg s i with
  | case1 i h1 h2 ih =>
    intro k m n x7 hm hi hn0 hn1 hx0 hx1
    subst hm
    have hd := digB _ h2
    have hr := wholeStep_range n (bt s (i : Int)) hn0
    have key := ih k (Q.runN isDg s (i + 1)) (wholeStep n (bt s (i : Int))) (x7 + 1) rfl (by omega) hr.1 hr.2 (by omega) (by omega)
    have e1 : ((i + 1 + Q.runN isDg s (i + 1) : Nat) : Int) = ((i + (Q.runN isDg s (i + 1) + 1) : Nat) : Int) := by omega
    have e2 : x7 + 1 + ((Q.runN isDg s (i + 1) : Nat) : Int) = x7 + ((Q.runN isDg s (i + 1) + 1 : Nat) : Int) := by omega
    rw [seg, List.foldl_cons, ← e1, ← e2, ← key, show k + 2 + 2 * (Q.runN isDg s (i + 1) + 1) = (k + 2 + 2 * Q.runN isDg s (i + 1)) + 1 + 1 by omega]
    generalize k + 2 + 2 * Q.runN isDg s (i + 1) = K at *
    simp only [spec_ReadDec.l0]
    rw [if_pos (by omega), if_pos (by omega), digit_eq, Option.bind_some, h2]
    simp only [spec_ReadDec.j3]
    rw [if_pos trivial, if_pos (by omega), if_pos (by omega), w64 (x := n * 10) (by omega) (by omega), w64 (x := (i : Int) + 1) (by omega) (by omega), w64 (x := x7 + 1) (by omega) (by omega)]
    generalize hb : bt s (i : Int) = b at *
    rw [w64 (x := n * 10 + (b - 48) % 256 * 1000000) (by omega) (by omega), show (i : Int) + 1 = ((i + 1 : Nat) : Int) by omega]
    unfold wholeStep
    split <;> rfl
  | case2 i h1 h2 =>
    intro k m n x7 hm hi hn0 hn1 hx0 hx1
    subst hm
    show spec_ReadDec.l0 (k + 1 + 1) s i neg n x7 = _
    simp only [spec_ReadDec.l0]
    rw [if_pos (by omega), if_pos (by omega), digit_eq, Option.bind_some, Bool.eq_false_iff.mpr h2]
    simp [seg]
  | case3 i h1 =>
    intro k m n x7 hm hi hn0 hn1 hx0 hx1
    subst hm
    show spec_ReadDec.l0 (k + 1 + 1) s i neg n x7 = _
    simp only [spec_ReadDec.l0]
    rw [if_neg (by omega)]
    simp [seg]
theorem readDec_l1 (s : ByteArray) (hs : s.size ≤ 140737488355328) (neg : Bool) (i : Nat) : ∀ (k m : Nat) (n x7 u : Int), Q.runN isDg s i = m → i ≤ s.size → 0 ≤ n → 0 ≤ u → n + 10 * u ≤ 9000001000001 → 0 ≤ x7 → x7 ≤ i →
    spec_ReadDec.l1 (k + 1 + m) s i neg n x7 u = spec_ReadDec.j6 k ((i + m : Nat) : Int) neg (n + partSum u (seg s i m)) (x7 + m) := by
  fun_induction Q.runN isDg s i with
  | case1 i h1 h2 ih =>
    intro k m n x7 u hm hi hn0 hu hn1 hx0 hx1
    subst hm
    have hd := digB _ h2
    rw [show k + 1 + (Q.runN isDg s (i + 1) + 1) = (k + 1 + Q.runN isDg s (i + 1)) + 1 by omega]
    simp only [spec_ReadDec.l1]
    rw [if_pos (by omega), if_pos (by omega), digit_eq, Option.bind_some, h2, if_pos rfl, w64 (x := (i : Int) + 1) (by omega) (by omega), w64 (x := x7 + 1) (by omega) (by omega)]
    generalize hb : bt s (i : Int) = b at *
    have hp0 : 0 ≤ (b - 48) % 256 * u := Int.mul_nonneg (by omega) hu
    have hp1 : (b - 48) % 256 * u ≤ 9 * u := Int.mul_le_mul_of_nonneg_right (by omega) hu
    rw [w64 (x := (b - 48) % 256 * u) (by omega) (by omega), w64 (x := n + (b - 48) % 256 * u) (by omega) (by omega), Int.tdiv_eq_ediv_of_nonneg hu, w64 (x := u / 10) (by omega) (by omega)]
    rw [show (i : Int) + 1 = ((i + 1 : Nat) : Int) by omega, ih k _ _ _ _ rfl (by omega) (by omega) (by omega) (by omega) (by omega) (by omega), seg, hb]
    simp only [partSum]
    congr 1 <;> omega
  | case2 i h1 h2 =>
    intro k m n x7 u hm hi hn0 hu hn1 hx0 hx1
    subst hm
    show spec_ReadDec.l1 (k + 1) s i neg n x7 u = _
    simp only [spec_ReadDec.l1]
    rw [if_pos (by omega), if_pos (by omega), digit_eq, Option.bind_some, if_neg h2]
    simp [seg, partSum]
  | case3 i h1 =>
    intro k m n x7 u hm hi hn0 hu hn1 hx0 hx1
    subst hm
    show spec_ReadDec.l1 (k + 1) s i neg n x7 u = _
    simp only [spec_ReadDec.l1]
    rw [if_neg (by omega)]
    simp [seg, partSum]
theorem readDec_j6 (k : Nat) (x4 : Int) (neg : Bool) (n x7 : Int) (h0 : 0 ≤ n) (h1 : n ≤ 9000009000000) :
    spec_ReadDec.j6 (k + 1) x4 neg n x7 = some (if x7 = 0 then (0, 0) else (if neg = true then -(mn n 9000000000000) else mn n 9000000000000, x4)) := by
  simp only [spec_ReadDec.j6]
  by_cases c : x7 = 0
  · rw [if_pos c, if_pos c]
  · rw [if_neg c, if_neg c]
    by_cases d : n > 9000000000000
    · have e : mn n 9000000000000 = 9000000000000 := by unfold mn; omega
      rw [if_pos d, e]
      cases neg <;> rfl
    · have e : mn n 9000000000000 = n := by unfold mn; omega
      rw [if_neg d, e, w64 (x := -n) (by omega) (by omega)]
      cases neg <;> rfl
theorem bytesOf_append (a b : ByteArray) : bytesOf (a ++ b) = bytesOf a ++ bytesOf b := by
  unfold bytesOf
  rw [ByteArray.data_append, Array.toList_append, List.map_append]
theorem bytesOf_extract (a : ByteArray) (i j : Nat) : bytesOf (a.extract i j) = ((bytesOf a).drop i).take (j - i) := by
  unfold bytesOf
  rw [ByteArray.data_extract, Array.toList_extract]
  simp [List.map_take, List.map_drop]
theorem bytesOf_zeros : bytesOf ⟨#[48, 48, 48, 48, 48, 48]⟩ = [48, 48, 48, 48, 48, 48] := by decide
theorem bytes_seg (s : ByteArray) (i m : Nat) (h : i + m ≤ s.size) : bytesOf (s.extract i (i + m)) = seg s i m := bytes_extract s i m h
theorem at2_le (s : ByteArray) : at2 s ≤ s.size := by
  unfold at2 wholeN
  exact runN_le isDg s (atD s) (atD_le s)
theorem more_le (s : ByteArray) (h : tkB s = true) : at2 s + 1 + moreN s ≤ s.size := by
  unfold tkB at h
  rw [Bool.and_eq_true] at h
  have h1 := h.1
  unfold dotB at h1
  rw [Bool.and_eq_true, decide_eq_true_eq] at h1
  unfold moreN
  rw [if_pos h.1]
  exact runN_le isDg s (at2 s + 1) (by omega)
theorem dig_bytes (s : ByteArray) : bytesOf (digS s) = seg s (atD s) (wholeN s) := by
  unfold digS
  have := at2_le s
  exact bytes_seg s (atD s) (wholeN s) this
def partL (s : ByteArray) : List Int := if tkB s = true then seg s (at2 s + 1) (moreN s) else []
theorem part_bytes (s : ByteArray) : bytesOf (partS s) = partL s := by
  unfold partS partL
  by_cases h : tkB s = true
  · rw [if_pos h, if_pos h]
    exact bytes_seg s (at2 s + 1) (moreN s) (more_le s h)
  · rw [if_neg h, if_neg h]; rfl
theorem all_bytes (s : ByteArray) : bytesOf (allS s) = seg s (atD s) (wholeN s) ++ (partL s ++ [48, 48, 48, 48, 48, 48]).take 6 := by
  unfold allS
  rw [bytesOf_append, bytesOf_extract, bytesOf_append, dig_bytes, part_bytes, bytesOf_zeros]
  rfl
theorem foldl_bytes (s : ByteArray) : s.data.toList.foldl (fun n c => numStep n (c.toNat : Int)) 0 = (bytesOf s).foldl numStep 0 := by
  unfold bytesOf
  rw [List.foldl_map]
theorem mn_start : mn 0 9000000000001 = 0 := by decide
theorem mn_start2 : mn (0 * 1000000) 9000000000001 = 0 := by decide
theorem whole_val (l : List Int) : l.foldl wholeStep 0 = mn (valFrom 0 l * 1000000) 9000000000001 := by
  have := wholeFold l 0 (by omega)
  rw [mn_start2] at this
  exact this
theorem numOf_eq (s : ByteArray) : numOf s = mn ((seg s (atD s) (wholeN s)).foldl wholeStep 0 + partSum 100000 (partL s)) 9000000000000 := by
  unfold numOf
  rw [foldl_bytes, all_bytes, whole_val]
  have h := numFold (seg s (atD s) (wholeN s) ++ (partL s ++ [48, 48, 48, 48, 48, 48]).take 6) 0 (by omega)
  rw [mn_start] at h
  rw [h]
  exact (both_ways _ _).symm
theorem partSum_le (l : List Int) (hl : ∀ c ∈ l, 48 ≤ c ∧ c ≤ 57) : ∀ u : Int, 0 ≤ u → 0 ≤ partSum u l ∧ partSum u l ≤ 10 * u := by
  induction l with
  | nil => intro u hu; exact ⟨by simp [partSum], by simp only [partSum]; omega⟩
  | cons c l ih =>
    intro u hu
    have hc := hl c (List.mem_cons_self ..)
    have h := ih (fun d hd => hl d (List.mem_cons_of_mem _ hd)) (u / 10) (by omega)
    have hp0 : 0 ≤ (c - 48) % 256 * u := Int.mul_nonneg (by omega) hu
    have hp1 : (c - 48) % 256 * u ≤ 9 * u := Int.mul_le_mul_of_nonneg_right (by omega) hu
    simp only [partSum]
    omega
theorem seg_digits (s : ByteArray) (m : Nat) : ∀ i, m ≤ Q.runN isDg s i → ∀ c ∈ seg s i m, 48 ≤ c ∧ c ≤ 57 := by
  induction m with
  | zero => intro i _ c hc; simp [seg] at hc
  | succ m ih =>
    intro i hm c hc
    rw [Q.runN] at hm
    by_cases h1 : i < s.size
    · rw [if_pos h1] at hm
      by_cases h2 : isDg (bt s i) = true
      · rw [if_pos h2] at hm
        simp only [seg, List.mem_cons] at hc
        rcases hc with rfl | hc
        · exact digB _ h2
        · exact ih (i + 1) (by omega) c hc
      · rw [if_neg h2] at hm; omega
    · rw [if_neg h1] at hm; omega
theorem partL_digits (s : ByteArray) : ∀ c ∈ partL s, 48 ≤ c ∧ c ≤ 57 := by
  intro c hc
  unfold partL at hc
  by_cases h : tkB s = true
  · rw [if_pos h] at hc
    refine seg_digits s (moreN s) (at2 s + 1) ?_ c hc
    unfold tkB at h
    rw [Bool.and_eq_true] at h
    unfold moreN
    rw [if_pos h.1]
    exact Nat.le_refl _
  · rw [if_neg h] at hc; cases hc
theorem isEmpty_size (s : ByteArray) : s.toList.isEmpty = decide (s.size = 0) := by
  have h : s.toList.length = s.size := by simp [ByteArray.toList_eq, Array.length_toList]
  cases hl : s.toList with
  | nil => rw [hl] at h; simp at h; simp [← h]
  | cons a l => rw [hl] at h; simp at h; simp [← h]
theorem digS_size (s : ByteArray) : (digS s).size = wholeN s := by
  have h := congrArg List.length (dig_bytes s)
  rw [bytesOf_length, seg_length] at h
  exact h
theorem partS_size (s : ByteArray) : (partS s).size = if tkB s = true then moreN s else 0 := by
  have h := congrArg List.length (part_bytes s)
  rw [bytesOf_length] at h
  rw [h]
  unfold partL
  split
  · exact seg_length s _ _
  · rfl
theorem readV_eq (s : ByteArray) : readV s = if wholeN s + (if tkB s = true then moreN s else 0) = 0 then (0, 0) else (if negB s = true then - numOf s else numOf s, (at3 s : Int)) := by
  unfold readV
  rw [isEmpty_size, isEmpty_size, digS_size, partS_size]
  by_cases h : wholeN s + (if tkB s = true then moreN s else 0) = 0
  · rw [if_pos h, if_pos]
    simp only [Bool.and_eq_true, decide_eq_true_eq]
    omega
  · rw [if_neg h, if_neg]
    simp only [Bool.and_eq_true, decide_eq_true_eq]
    omega
theorem runN_pos (p : Int → Bool) (s : ByteArray) (i : Nat) : 0 < Q.runN p s i ↔ i < s.size ∧ p (bt s i) = true := by
  rw [Q.runN]
  by_cases h1 : i < s.size
  · rw [if_pos h1]
    by_cases h2 : p (bt s i) = true
    · rw [if_pos h2]; exact ⟨fun _ => ⟨h1, h2⟩, fun _ => by omega⟩
    · rw [if_neg h2]; exact ⟨fun h => by omega, fun h => absurd h.2 h2⟩
  · rw [if_neg h1]; exact ⟨fun h => by omega, fun h => absurd h.1 h1⟩
theorem tk_true (s : ByteArray) (h1 : at2 s < s.size) (h2 : bt s (at2 s) = 46) : tkB s = decide (0 < wholeN s + Q.runN isDg s (at2 s + 1)) := by
  have hd : dotB s (at2 s) = true := by simp [dotB, h1, h2]
  unfold tkB moreN
  rw [if_pos hd, hd, Bool.true_and]
theorem tk_false (s : ByteArray) (h : ¬ (at2 s < s.size ∧ bt s (at2 s) = 46)) : tkB s = false := by
  have hd : dotB s (at2 s) = false := by
    unfold dotB
    by_cases h1 : at2 s < s.size
    · by_cases h2 : bt s (at2 s) = 46
      · exact absurd ⟨h1, h2⟩ h
      · simp [h2]
    · simp [h1]
  unfold tkB
  rw [hd, Bool.false_and]
theorem readDec_body (s : ByteArray) (hs : s.size ≤ 140737488355328) (k : Nat) (hk : 3 * s.size + 8 ≤ k) : spec_ReadDec.l0 k s (atD s) (negB s) 0 0 = some (readV s) := by
  have ha := atD_le s
  have h2 := at2_le s
  have hw : Q.runN isDg s (atD s) = wholeN s := rfl
  have e2 : atD s + wholeN s = at2 s := rfl
  obtain ⟨k0, rfl⟩ : ∃ k0, k = k0 + 2 + 2 * wholeN s := ⟨k - 2 - 2 * wholeN s, by omega⟩
  rw [readDec_l0 s hs (negB s) (atD s) k0 (wholeN s) 0 0 hw ha (by omega) (by omega) (by omega) (by omega), e2]
  have hW : 0 ≤ (seg s (atD s) (wholeN s)).foldl wholeStep 0 ∧ (seg s (atD s) (wholeN s)).foldl wholeStep 0 ≤ 9000000000001 := by
    rw [whole_val]
    exact mn_range (Int.mul_nonneg (valFrom_nonneg _ 0 (by omega)) (by omega))
  have hN := numOf_eq s
  have hP := partSum_le (partL s) (partL_digits s) 100000 (by omega)
  generalize (seg s (atD s) (wholeN s)).foldl wholeStep 0 = W at *
  have key : spec_ReadDec.j3 (k0 + 1) s ((at2 s : Nat) : Int) (negB s) W (0 + (wholeN s : Int)) false = spec_ReadDec.j4 k0 s (at2 s) (negB s) W (0 + (wholeN s : Int)) (tkB s) := by
    simp only [spec_ReadDec.j3]
    rw [if_neg (by decide)]
    by_cases c1 : at2 s < s.size
    · rw [if_pos (by omega), if_pos (by omega)]
      by_cases c2 : bt s (at2 s) = 46
      · rw [if_pos c2, tk_true s c1 c2]
        by_cases c3 : 0 < wholeN s
        · rw [if_pos (by omega), decide_eq_true (by omega)]
        · rw [if_neg (by omega), w64 (x := (at2 s : Int) + 1) (by omega) (by omega)]
          have hp := runN_pos isDg s (at2 s + 1)
          rw [show ((at2 s + 1 : Nat) : Int) = (at2 s : Int) + 1 by omega] at hp
          by_cases c4 : at2 s + 1 < s.size
          · rw [if_pos (by omega), if_pos (by omega), digit_eq, Option.bind_some]
            congr 1
            by_cases c5 : isDg (bt s ((at2 s : Int) + 1)) = true
            · rw [c5, decide_eq_true]
              have := hp.2 ⟨c4, c5⟩
              omega
            · rw [Bool.eq_false_iff.mpr c5, decide_eq_false]
              intro h
              exact c5 (hp.1 (by omega)).2
          · rw [if_neg (by omega), decide_eq_false]
            intro h
            exact c4 (hp.1 (by omega)).1
      · rw [if_neg c2, tk_false s (fun h => c2 h.2)]
    · rw [if_neg (by omega), tk_false s (fun h => c1 h.1)]
  rw [key, readV_eq, hN]
  obtain ⟨k1, rfl⟩ : ∃ k1, k0 = k1 + 1 := ⟨k0 - 1, by omega⟩
  simp only [spec_ReadDec.j4]
  by_cases ht : tkB s = true
  · have hm := more_le s ht
    have hmr : Q.runN isDg s (at2 s + 1) = moreN s := by
      unfold tkB at ht
      rw [Bool.and_eq_true] at ht
      unfold moreN
      rw [if_pos ht.1]
    have hpl : partL s = seg s (at2 s + 1) (moreN s) := if_pos ht
    have h3 : at3 s = at2 s + 1 + moreN s := if_pos ht
    rw [if_pos ht, if_pos ht, w64 (x := (at2 s : Int) + 1) (by omega) (by omega), h3]
    obtain ⟨k2, rfl⟩ : ∃ k2, k1 = (k2 + 1) + 1 + moreN s := ⟨k1 - 2 - moreN s, by omega⟩
    have h1 := readDec_l1 s hs (negB s) (at2 s + 1) (k2 + 1) (moreN s) W (0 + (wholeN s : Int)) 100000 hmr (by omega) (by omega) (by omega) (by omega) (by omega) (by omega)
    rw [show ((at2 s + 1 : Nat) : Int) = (at2 s : Int) + 1 by omega, ← hpl] at h1
    rw [h1, readDec_j6 k2 _ _ _ _ (by omega) (by omega)]
    by_cases c : wholeN s + moreN s = 0
    · rw [if_pos c, if_pos (by omega)]
    · rw [if_neg c, if_neg (by omega)]
  · have hpl : partL s = [] := if_neg ht
    have h3 : at3 s = at2 s := if_neg ht
    rw [if_neg ht, if_neg ht, hpl, h3]
    have e0 : W + partSum 100000 [] = W := by simp [partSum]
    obtain ⟨k2, rfl⟩ : ∃ k2, k1 = k2 + 1 := ⟨k1 - 1, by omega⟩
    rw [e0, readDec_j6 k2 _ _ _ _ (by omega) (by omega)]
    by_cases c : wholeN s + 0 = 0
    · rw [if_pos c, if_pos (by omega)]
    · rw [if_neg c, if_neg (by omega)]
theorem specReadDec_eq (s : ByteArray) (hs : s.size ≤ 140737488355328) (k : Nat) (hk : 3 * s.size + 10 ≤ k) : spec_ReadDec.f k s = some (readV s) := by
  have h0 := skip_eq s (by omega) 0 (by omega) k (by omega)
  rw [Nat.zero_add] at h0
  unfold spec_ReadDec.f
  rw [show (0 : Int) = ((0 : Nat) : Int) from rfl, h0, Option.bind_some]
  have hl := runN_le isSp s 0 (by omega)
  rw [Nat.zero_add] at hl
  have eA : atD s = if sgnB s (Q.runN isSp s 0) = true then Q.runN isSp s 0 + 1 else Q.runN isSp s 0 := rfl
  have eN : negB s = if sgnB s (Q.runN isSp s 0) = true then bt s (Q.runN isSp s 0) == 45 else false := rfl
  have hb := readDec_body s hs
  generalize Q.runN isSp s 0 = a at *
  have key : (if (a : Int) < (s.size : Int) then (if 0 ≤ (a : Int) then (if (bt s a) = 43 then (spec_ReadDec.j0 k s a false true) else (spec_ReadDec.j0 k s a false ((bt s a) == 45))) else (none)) else (spec_ReadDec.j0 k s a false false)) = spec_ReadDec.j0 k s a false (sgnB s a) := by
    unfold sgnB
    by_cases c1 : a < s.size
    · rw [if_pos (by omega), if_pos (by omega), decide_eq_true c1, Bool.true_and]
      by_cases c2 : bt s a = 43
      · rw [if_pos c2, c2]; rfl
      · rw [if_neg c2, beq_eq_false_iff_ne.mpr c2, Bool.false_or]
    · rw [if_neg (by omega), decide_eq_false c1, Bool.false_and]
  refine key.trans ?_
  obtain ⟨k1, rfl⟩ : ∃ k1, k = k1 + 1 + 1 := ⟨k - 2, by omega⟩
  simp only [spec_ReadDec.j0]
  by_cases c : sgnB s a = true
  · rw [if_pos c] at eA eN
    have h1 : a < s.size := by
      unfold sgnB at c
      rw [Bool.and_eq_true, decide_eq_true_eq] at c
      exact c.1
    rw [if_pos c, if_pos (by omega), if_pos (by omega), w64 (x := (a : Int) + 1) (by omega) (by omega)]
    simp only [spec_ReadDec.j1]
    rw [show (a : Int) + 1 = ((a + 1 : Nat) : Int) by omega, ← eA, ← eN]
    exact hb k1 (by omega)
  · rw [if_neg c] at eA eN
    rw [if_neg c]
    simp only [spec_ReadDec.j1]
    rw [← eA, ← eN]
    exact hb k1 (by omega)
theorem implReadDec_eq (s : ByteArray) (hs : s.size ≤ 140737488355328) : impl_ReadDec.f s = some (readV s) := if_pos hs
theorem numOf_range (s : ByteArray) : 0 ≤ numOf s ∧ numOf s ≤ 9000000000000 := by
  rw [numOf_eq, whole_val]
  have h1 := mn_range (Int.mul_nonneg (valFrom_nonneg (seg s (atD s) (wholeN s)) 0 (by omega)) (show (0 : Int) ≤ 1000000 by omega))
  have h2 := partSum_le (partL s) (partL_digits s) 100000 (by omega)
  generalize mn (valFrom 0 (seg s (atD s) (wholeN s)) * 1000000) 9000000000001 = x at *
  generalize partSum 100000 (partL s) = y at *
  unfold mn
  omega
theorem readV_range (s : ByteArray) : -9000000000000 ≤ (readV s).1 ∧ (readV s).1 ≤ 9000000000000 := by
  have h := numOf_range s
  rw [readV_eq]
  by_cases c : wholeN s + (if tkB s = true then moreN s else 0) = 0
  · rw [if_pos c]; dsimp only; omega
  · rw [if_neg c]
    dsimp only
    split <;> omega
def isDec (n : Int) : Prop := -9000000000000 ≤ n ∧ n ≤ 9000000000000
instance (n : Int) : Decidable (isDec n) := inferInstanceAs (Decidable (_ ∧ _))
theorem decOk_eq (n : Int) : impl_DecOk.f n = some (decide (isDec n)) := by
  unfold impl_DecOk.f impl_between.f
  by_cases h : n ≥ -9000000000000
  · rw [if_pos h, Option.bind_some]
    by_cases h2 : n ≤ 9000000000000
    · rw [decide_eq_true h2, decide_eq_true (show isDec n from ⟨h, h2⟩)]
    · rw [decide_eq_false h2, decide_eq_false (show ¬ isDec n from fun h => h2 h.2)]
  · rw [if_neg h, Option.bind_some, decide_eq_false (show ¬ isDec n from fun h2 => h h2.1)]
def bmk (l : List UInt8) : ByteArray := ⟨⟨l⟩⟩
theorem bmk_size (l : List UInt8) : (bmk l).size = l.length := rfl
theorem bmk_list (l : List UInt8) : (bmk l).data.toList = l := rfl
theorem bmk_append (a b : List UInt8) : bmk a ++ bmk b = bmk (a ++ b) := by
  apply ByteArray.ext
  rw [ByteArray.data_append]
  apply Array.ext'
  rw [Array.toList_append]; rfl
theorem bmk_extract (l : List UInt8) (i j : Nat) : (bmk l).extract i j = bmk ((l.drop i).take (j - i)) := by
  apply ByteArray.ext
  rw [ByteArray.data_extract]
  apply Array.ext'
  rw [Array.toList_extract]; simp [bmk, List.extract_eq_take_drop]
theorem bmk_bt (l : List UInt8) (i : Nat) (h : i < l.length) : bt (bmk l) (i : Int) = (l[i].toNat : Int) := bt_nat (s := bmk l) h
def trimR : List UInt8 → List UInt8
  | [] => []
  | a :: l => if trimR l = [] then (if a = 48 then [] else [a]) else a :: trimR l
theorem trimR_length (l : List UInt8) : (trimR l).length ≤ l.length := by
  induction l with
  | nil => simp [trimR]
  | cons a l ih =>
    simp only [trimR]
    split
    · split <;> simp
    · simp; exact ih
theorem trimR_snoc (l : List UInt8) (c : UInt8) : trimR (l ++ [c]) = if c = 48 then trimR l else l ++ [c] := by
  induction l with
  | nil => simp [trimR]
  | cons a l ih =>
    rw [List.cons_append, trimR, ih]
    by_cases h : c = 48
    · rw [if_pos h, if_pos h]; rfl
    · rw [if_neg h, if_neg h, if_neg (by simp)]
theorem trimByte (n : Nat) : ∀ (l : List UInt8) (k : Nat), l.length = n → n < k → n ≤ 9223372036854775807 → strings_trimRightByte.l0 k (bmk l) 48 = some (bmk (trimR l)) := by
  induction n with
  | zero =>
    intro l k hl hk _
    obtain rfl := List.eq_nil_of_length_eq_zero hl
    obtain ⟨k, rfl⟩ : ∃ m, k = m + 1 := ⟨k - 1, by omega⟩
    simp only [strings_trimRightByte.l0]
    rw [if_neg (by decide)]; rfl
  | succ n ih =>
    intro l k hl hk hb
    have hne : l ≠ [] := fun e => by subst e; simp at hl
    obtain ⟨l', c, rfl⟩ : ∃ l' c, l = l' ++ [c] := ⟨l.dropLast, l.getLast hne, (List.dropLast_concat_getLast hne).symm⟩
    have hl' : l'.length = n := by simpa using hl
    obtain ⟨k, rfl⟩ : ∃ m, k = m + 1 := ⟨k - 1, by omega⟩
    have hsz : (bmk (l' ++ [c])).size = n + 1 := by rw [bmk_size]; exact hl
    simp only [strings_trimRightByte.l0]
    rw [hsz]
    have hw : wrap64 (((n + 1 : Nat) : Int) - 1) = (n : Int) := by rw [w64 (by omega) (by omega)]; omega
    have hbt : bt (bmk (l' ++ [c])) (n : Int) = (c.toNat : Int) := by
      rw [bmk_bt _ n (by rw [hl]; omega)]
      simp [← hl']
    rw [hw, if_pos (by omega), if_pos (by omega), if_pos (by omega), hbt, trimR_snoc]
    by_cases hc : c = 48
    · subst hc
      rw [if_pos (by decide), if_pos (by omega), if_pos rfl, Int.toNat_natCast, bmk_extract]
      have : List.take (n - 0) (List.drop 0 (l' ++ [48])) = l' := by simp [← hl']
      rw [this]
      exact ih l' k hl' (by omega) (by omega)
    · rw [if_neg, if_neg hc]
      intro h
      apply hc
      apply UInt8.toNat_inj.mp
      have : ((48 : UInt8).toNat : Int) = 48 := by decide
      omega
theorem trimRight (l : List UInt8) (k : Nat) (hk : l.length + 3 < k) (hb : l.length ≤ 9223372036854775807) : strings_TrimRight.f k (bmk l) ⟨#[48]⟩ = some (bmk (trimR l)) := by
  obtain ⟨k, rfl⟩ : ∃ m, k = m + 1 + 1 := ⟨k - 2, by omega⟩
  unfold strings_TrimRight.f
  by_cases h : (bmk l).toList = ([] : List UInt8)
  · rw [if_pos h]
    have : l = [] := by
      rw [ByteArray.toList_eq] at h
      simpa [bmk] using h
    subst this
    simp only [strings_TrimRight.j0]
    rw [if_pos trivial]; rfl
  · rw [if_neg h]
    have e : ((⟨#[48]⟩ : ByteArray).toList == ([] : List UInt8)) = false := by decide +kernel
    have e2 : ((⟨#[48]⟩ : ByteArray).size : Int) = 1 := by decide
    have e3 : bt (⟨#[48]⟩ : ByteArray) 0 = 48 := by decide
    rw [e]
    simp only [strings_TrimRight.j0]
    rw [if_neg (by decide), e2, if_pos rfl, if_pos (by omega), e3]
    simp only [strings_TrimRight.j1]
    rw [if_pos (by decide), e2, if_pos (by omega)]
    unfold strings_trimRightByte.f
    rw [e3, trimByte l.length l (k) rfl (by omega) hb, Option.bind_some]
def dl : Nat → Nat → List UInt8
  | 0, _ => []
  | j + 1, r => UInt8.ofNat (48 + r / 10 ^ j) :: dl j (r % 10 ^ j)
theorem dl_length (j : Nat) : ∀ r, (dl j r).length = j := by
  induction j with
  | zero => intro r; rfl
  | succ j ih => intro r; simp [dl, ih]
theorem dl_zero (j : Nat) : trimR (dl j 0) = [] := by
  induction j with
  | zero => rfl
  | succ j ih =>
    simp only [dl, Nat.zero_div, Nat.zero_mod, trimR, ih, if_pos]
    rfl
theorem digit_ne (d : Nat) (h0 : 0 < d) (h : d < 10) : UInt8.ofNat (48 + d) ≠ 48 := by
  intro e
  have := congrArg UInt8.toNat e
  rw [UInt8.toNat_ofNat'] at this
  have e2 : (48 : UInt8).toNat = 48 := by decide
  omega
theorem dl_pos (j : Nat) : ∀ r, 0 < r → r < 10 ^ j → trimR (dl j r) ≠ [] := by
  induction j with
  | zero => intro r h0 h1; simp at h1; omega
  | succ j ih =>
    intro r h0 h1
    have hp : 0 < 10 ^ j := Nat.pos_of_ne_zero (by simp)
    simp only [dl, trimR]
    by_cases h : r % 10 ^ j = 0
    · rw [h, dl_zero, if_pos rfl, if_neg]
      · simp
      · have hd : 0 < r / 10 ^ j := by
          have := Nat.div_add_mod r (10 ^ j)
          rcases Nat.eq_zero_or_pos (r / 10 ^ j) with e | e
          · rw [e] at this; omega
          · exact e
        exact digit_ne _ hd (Nat.div_lt_of_lt_mul (by rw [Nat.pow_succ] at h1; omega))
    · rw [if_neg (ih _ (by omega) (Nat.mod_lt _ hp))]
      simp
theorem trimR_cons (a : UInt8) (l : List UInt8) : trimR (a :: l) = if trimR l = [] then (if a = 48 then [] else [a]) else a :: trimR l := rfl
theorem dl_succ (j r : Nat) : dl (j + 1) r = UInt8.ofNat (48 + r / 10 ^ j) :: dl j (r % 10 ^ j) := rfl
theorem decDigits_le (k : Nat) : ∀ n : Nat, n < 10 ^ (k + 1) → (Lib.decDigits n).length ≤ k + 1 := by
  induction k with
  | zero => intro n h; rw [Lib.decDigits_one (by simpa using h)]; simp
  | succ k ih =>
    intro n h
    by_cases hn : n < 10
    · rw [Lib.decDigits_one hn]; simp
    · have := ih (n / 10) (by rw [Nat.pow_succ] at h; omega)
      rw [Lib.decDigits.eq_1 n, dif_neg hn, List.length_append]
      simp; omega
theorem digits_le (m : Nat) (h : m ≤ 9000000000000) : (Lib.decDigits m).length ≤ 21 := by
  have := decDigits_le 12 m (by omega)
  omega
theorem million (r : Nat) (h : r < 1000000) : Lib.decDigits (1000000 + r) = 49 :: dl 6 r := by
  have e : ∀ u, ¬ u < 10 → Lib.decDigits u = Lib.decDigits (u / 10) ++ [UInt8.ofNat (48 + u % 10)] := fun u hu => by rw [Lib.decDigits.eq_1 u, dif_neg hu]
  rw [e (1000000 + r) (by omega), e ((1000000 + r) / 10) (by omega), e ((1000000 + r) / 10 / 10) (by omega), e ((1000000 + r) / 10 / 10 / 10) (by omega), e ((1000000 + r) / 10 / 10 / 10 / 10) (by omega),
    e ((1000000 + r) / 10 / 10 / 10 / 10 / 10) (by omega), Lib.decDigits_one (i := (1000000 + r) / 10 / 10 / 10 / 10 / 10 / 10) (by omega)]
  have q : ∀ a b : Nat, a = b → UInt8.ofNat (48 + a) = UInt8.ofNat (48 + b) := fun a b h => by rw [h]
  simp only [dl, List.cons_append, List.nil_append]
  rw [q ((1000000 + r) / 10 / 10 / 10 / 10 / 10 / 10) 1 (by omega)]
  have p5 : (10 : Nat) ^ 5 = 100000 := by decide
  have p4 : (10 : Nat) ^ 4 = 10000 := by decide
  have p3 : (10 : Nat) ^ 3 = 1000 := by decide
  have p2 : (10 : Nat) ^ 2 = 100 := by decide
  have p1 : (10 : Nat) ^ 1 = 10 := by decide
  have p0 : (10 : Nat) ^ 0 = 1 := by decide
  rw [p5, p4, p3, p2, p1, p0]
  rw [q ((1000000 + r) / 10 / 10 / 10 / 10 / 10 % 10) (r / 100000) (by omega), q ((1000000 + r) / 10 / 10 / 10 / 10 % 10) (r % 100000 / 10000) (by omega), q ((1000000 + r) / 10 / 10 / 10 % 10) (r % 100000 % 10000 / 1000) (by omega),
    q ((1000000 + r) / 10 / 10 % 10) (r % 100000 % 10000 % 1000 / 100) (by omega), q ((1000000 + r) / 10 % 10) (r % 100000 % 10000 % 1000 % 100 / 10) (by omega), q ((1000000 + r) % 10) (r % 100000 % 10000 % 1000 % 100 % 10 / 1) (by omega)]
  rfl
def fracL (r : Nat) : List UInt8 := if r = 0 then [] else 46 :: trimR (dl 6 r)
def absL (m : Nat) : List UInt8 := Lib.decDigits (m / 1000000) ++ fracL (m % 1000000)
def decT (n : Int) : List UInt8 := if isDec n then (if n < 0 then 45 :: absL n.natAbs else absL n.natAbs) else []
theorem implDecText_j0 (k m : Nat) (x : List UInt8) (hm : m ≤ 9000000000000) (hx : x.length ≤ 10) (hk : 20 ≤ k) : impl_DecText.j0 (k + 1) (m : Int) (bmk x) = some (bmk (x ++ absL m)) := by
  simp only [impl_DecText.j0]
  have hl := digits_le (m / 1000000) (by omega)
  have e1 : wrap64 (Int.tdiv (m : Int) 1000000) = ((m / 1000000 : Nat) : Int) := by
    rw [Int.tdiv_eq_ediv_of_nonneg (by omega), w64 (by omega) (by omega)]; omega
  have e2 : Int.tmod (m : Int) 1000000 = ((m % 1000000 : Nat) : Int) := by
    rw [Int.tmod_eq_emod_of_nonneg (by omega)]; omega
  have e3 : strconv_Itoa.f ((m / 1000000 : Nat) : Int) = some (bmk (Lib.decDigits (m / 1000000))) := by
    unfold strconv_Itoa.f
    rw [if_pos (by omega), Lib.itoa_nonneg]; rfl
  rw [e1, e2, e3, Option.bind_some, if_pos (by simp [bmk_size]; omega), bmk_append]
  unfold absL fracL
  by_cases h : m % 1000000 = 0
  · rw [if_neg (by omega), if_pos h, List.append_nil]
  · have e4 : wrap64 (1000000 + ((m % 1000000 : Nat) : Int)) = ((1000000 + m % 1000000 : Nat) : Int) := by rw [w64 (by omega) (by omega)]; omega
    have e5 : strconv_Itoa.f ((1000000 + m % 1000000 : Nat) : Int) = some (bmk (49 :: dl 6 (m % 1000000))) := by
      unfold strconv_Itoa.f
      rw [if_pos (by omega), Lib.itoa_nonneg, million _ (by omega)]; rfl
    have hsz : (bmk (49 :: dl 6 (m % 1000000))).size = 7 := by rw [bmk_size, List.length_cons, dl_length]
    have hex : (bmk (49 :: dl 6 (m % 1000000))).extract 1 7 = bmk (dl 6 (m % 1000000)) := by
      rw [bmk_extract]
      rw [List.drop_one, List.tail_cons, List.take_of_length_le (by rw [dl_length]; omega)]
    have ht := trimR_length (dl 6 (m % 1000000))
    rw [dl_length] at ht
    have e6 : (⟨#[46]⟩ : ByteArray) = bmk [46] := rfl
    rw [if_pos (by omega), if_neg h, e4, e5, Option.bind_some, hsz, if_pos (by omega), hex, trimRight _ k (by rw [dl_length]; omega) (by rw [dl_length]; omega), Option.bind_some, if_pos (by simp [bmk_size]; omega), e6, bmk_append, if_pos (by simp [bmk_size]; omega), bmk_append, List.append_assoc]
    rfl
theorem implDecText_eq (n : Int) (k : Nat) (hk : 21 ≤ k) : impl_DecText.f k n = some (bmk (decT n)) := by
  obtain ⟨k, rfl⟩ : ∃ m, k = m + 1 := ⟨k - 1, by omega⟩
  unfold impl_DecText.f decT
  rw [decOk_eq, Option.bind_some]
  by_cases h : isDec n
  · have hd := h
    unfold isDec at hd
    have em : mx n (wrap64 (-n)) = (n.natAbs : Int) := by rw [w64 (by omega) (by omega)]; unfold mx; omega
    have e1 : (⟨#[45]⟩ : ByteArray) = bmk [45] := rfl
    have e2 : (⟨#[]⟩ : ByteArray) = bmk [] := rfl
    rw [if_pos (decide_eq_true h), if_pos h, em, e1, e2, implDecText_j0 k _ [45] (by omega) (by simp) (by omega), implDecText_j0 k _ [] (by omega) (by simp) (by omega)]
    by_cases c : n < 0
    · rw [if_pos c, if_pos c]; rfl
    · rw [if_neg c, if_neg c]; rfl
  · rw [if_neg (by simp [h]), if_neg h]; rfl
theorem runN_seg (p : Int → Bool) (d : List UInt8) : ∀ (a rest : List UInt8), (∀ c ∈ d, p (c.toNat : Int) = true) → (∀ c, rest.head? = some c → p (c.toNat : Int) = false) →
    Q.runN p (bmk (a ++ (d ++ rest))) a.length = d.length := by
  induction d with
  | nil =>
    intro a rest _ hr
    rw [List.nil_append]
    rcases rest with _ | ⟨c, rest⟩
    · exact runN_end (by rw [bmk_size]; simp)
    · refine runN_miss (by rw [bmk_size]; simp) ?_
      rw [bmk_bt _ a.length (by simp)]
      have := hr c rfl
      simpa using this
  | cons c d ih =>
    intro a rest hd hr
    have hc := hd c (List.mem_cons_self ..)
    rw [runN_hit (by rw [bmk_size]; simp) (by rw [bmk_bt _ a.length (by simp)]; simpa using hc)]
    have := ih (a ++ [c]) rest (fun x hx => hd x (List.mem_cons_of_mem _ hx)) hr
    rw [List.length_append] at this
    simp only [List.append_assoc, List.cons_append, List.nil_append, List.length_singleton] at this
    rw [List.cons_append, this, List.length_cons]
theorem digit_toNat (x : Nat) (h : x < 10) : (UInt8.ofNat (48 + x)).toNat = 48 + x := by
  rw [UInt8.toNat_ofNat']; omega
theorem decDigits_digits (k : Nat) : ∀ n, n < 10 ^ (k + 1) → ∀ c ∈ Lib.decDigits n, 48 ≤ c.toNat ∧ c.toNat ≤ 57 := by
  induction k with
  | zero =>
    intro n h c hc
    have hn : n < 10 := by simpa using h
    rw [Lib.decDigits_one hn] at hc
    simp only [List.mem_singleton] at hc
    rw [hc, digit_toNat n hn]; omega
  | succ k ih =>
    intro n h c hc
    by_cases hn : n < 10
    · rw [Lib.decDigits_one hn] at hc
      simp only [List.mem_singleton] at hc
      rw [hc, digit_toNat n hn]; omega
    · rw [Lib.decDigits.eq_1 n, dif_neg hn, List.mem_append] at hc
      rcases hc with hc | hc
      · exact ih (n / 10) (by rw [Nat.pow_succ] at h; omega) c hc
      · simp only [List.mem_singleton] at hc
        rw [hc, digit_toNat _ (Nat.mod_lt _ (by omega))]; omega
theorem dl_digits (j : Nat) : ∀ r, r < 10 ^ j → ∀ c ∈ dl j r, 48 ≤ c.toNat ∧ c.toNat ≤ 57 := by
  induction j with
  | zero => intro r _ c hc; cases hc
  | succ j ih =>
    intro r h c hc
    have hp : 0 < 10 ^ j := Nat.pos_of_ne_zero (by simp)
    rw [dl_succ, List.mem_cons] at hc
    rcases hc with rfl | hc
    · have hd : r / 10 ^ j < 10 := Nat.div_lt_of_lt_mul (by rw [Nat.pow_succ] at h; omega)
      generalize r / 10 ^ j = D at hd ⊢
      rw [digit_toNat _ hd]; omega
    · exact ih _ (Nat.mod_lt _ hp) c hc
theorem trimR_zeros (l : List UInt8) : l = trimR l ++ List.replicate (l.length - (trimR l).length) 48 := by
  induction l with
  | nil => rfl
  | cons a l ih =>
    have hle := trimR_length l
    rw [trimR_cons]
    by_cases h : trimR l = []
    · rw [if_pos h]
      rw [h, List.nil_append, List.length_nil, Nat.sub_zero] at ih
      by_cases h2 : a = 48
      · rw [if_pos h2, List.nil_append, List.length_nil, Nat.sub_zero, List.length_cons, List.replicate_succ, ← ih, h2]
      · rw [if_neg h2, List.length_cons, List.length_singleton, Nat.add_sub_cancel, ← ih]; rfl
    · rw [if_neg h, List.cons_append, List.length_cons, List.length_cons, Nat.add_sub_add_right, ← ih]
theorem trimR_sub (l : List UInt8) : ∀ c ∈ trimR l, c ∈ l := by
  intro c hc
  rw [trimR_zeros l]
  exact List.mem_append_left _ hc
theorem six_back (l : List UInt8) (h : l.length = 6) : (trimR l ++ [48, 48, 48, 48, 48, 48]).take 6 = l := by
  have hz := trimR_zeros l
  have hle := trimR_length l
  generalize trimR l = t at *
  rw [h] at hz hle
  have e6 : ([48, 48, 48, 48, 48, 48] : List UInt8) = List.replicate 6 48 := rfl
  rw [e6, List.take_append, List.take_of_length_le hle, List.take_replicate]
  rw [show min (6 - t.length) 6 = 6 - t.length by omega]
  exact hz.symm
def nums8 (l : List UInt8) : List Int := l.map fun c => (c.toNat : Int)
theorem valFrom_nat (x : Int) (c : UInt8) (h : 48 ≤ c.toNat ∧ c.toNat ≤ 57) : valFrom x (nums8 [c]) = x * 10 + ((c.toNat - 48 : Nat) : Int) := by
  show x * 10 + ((c.toNat : Int) - 48) % 256 = _
  omega
theorem val_dec (k : Nat) : ∀ n, n < 10 ^ (k + 1) → valFrom 0 (nums8 (Lib.decDigits n)) = (n : Int) := by
  induction k with
  | zero =>
    intro n h
    have hn : n < 10 := by simpa using h
    have e := digit_toNat n hn
    rw [Lib.decDigits_one hn, valFrom_nat 0 _ (by omega), e]; omega
  | succ k ih =>
    intro n h
    by_cases hn : n < 10
    · have e := digit_toNat n hn
      rw [Lib.decDigits_one hn, valFrom_nat 0 _ (by omega), e]; omega
    · have e := digit_toNat (n % 10) (Nat.mod_lt _ (by omega))
      rw [Lib.decDigits.eq_1 n, dif_neg hn]
      unfold nums8
      rw [List.map_append, valFrom_append]
      have := ih (n / 10) (by rw [Nat.pow_succ] at h; omega)
      unfold nums8 at this
      rw [this]
      refine (valFrom_nat _ _ (by omega)).trans ?_
      rw [e]; omega
theorem val_dl (j : Nat) : ∀ (r : Nat) (x : Int), r < 10 ^ j → valFrom x (nums8 (dl j r)) = x * 10 ^ j + (r : Int) := by
  induction j with
  | zero =>
    intro r x h
    have : r = 0 := by simpa using h
    subst this
    show x = _
    simp
  | succ j ih =>
    intro r x h
    have hp : 0 < 10 ^ j := Nat.pos_of_ne_zero (by simp)
    have hd : r / 10 ^ j < 10 := Nat.div_lt_of_lt_mul (by rw [Nat.pow_succ] at h; omega)
    have e := digit_toNat _ hd
    have hs := ih (r % 10 ^ j) (x * 10 + ((r / 10 ^ j : Nat) : Int)) (Nat.mod_lt _ hp)
    have hv : valFrom x (nums8 [UInt8.ofNat (48 + r / 10 ^ j)]) = x * 10 + ((r / 10 ^ j : Nat) : Int) := by
      generalize r / 10 ^ j = D at hd e ⊢
      rw [valFrom_nat x _ (by omega), e, show 48 + D - 48 = D by omega]
    have step : valFrom x (nums8 (dl (j + 1) r)) = valFrom (valFrom x (nums8 [UInt8.ofNat (48 + r / 10 ^ j)])) (nums8 (dl j (r % 10 ^ j))) := rfl
    rw [step, hv, hs]
    have hm := Nat.div_add_mod r (10 ^ j)
    have hmi : ((10 : Int) ^ j) * ((r / 10 ^ j : Nat) : Int) + ((r % 10 ^ j : Nat) : Int) = (r : Int) := by
      have := congrArg (fun q : Nat => (q : Int)) hm
      simp only [Int.natCast_add, Int.natCast_mul, Int.natCast_pow] at this
      exact this
    rw [Int.pow_succ]
    generalize ((r / 10 ^ j : Nat) : Int) = A at *
    generalize ((r % 10 ^ j : Nat) : Int) = B at *
    generalize (10 : Int) ^ j = P at *
    rw [← hmi]
    grind
theorem decDigits_ne (n : Nat) : Lib.decDigits n ≠ [] := by
  rw [Lib.decDigits.eq_1]
  split <;> simp
theorem bytesOf_bmk (l : List UInt8) : bytesOf (bmk l) = nums8 l := rfl
set_option maxHeartbeats 1000000 in
theorem readV_decT (n : Int) (h : isDec n) : readV (bmk (decT n)) = (n, ((decT n).length : Int)) := by
  have hd := h
  unfold isDec at hd
  obtain ⟨m, hm⟩ : ∃ m, m = n.natAbs := ⟨_, rfl⟩
  obtain ⟨D, hD⟩ : ∃ D, D = Lib.decDigits (m / 1000000) := ⟨_, rfl⟩
  obtain ⟨sg, hsg⟩ : ∃ sg : List UInt8, sg = if n < 0 then [45] else [] := ⟨_, rfl⟩
  have hT : decT n = sg ++ (D ++ fracL (m % 1000000)) := by
    unfold decT absL
    rw [if_pos h, hsg, hD, hm]
    split <;> rfl
  have hDd : ∀ c ∈ D, 48 ≤ c.toNat ∧ c.toNat ≤ 57 := by
    rw [hD]
    exact decDigits_digits 12 _ (by omega)
  have hDn : D ≠ [] := by rw [hD]; exact decDigits_ne _
  have hDv : valFrom 0 (nums8 D) = ((m / 1000000 : Nat) : Int) := by rw [hD]; exact val_dec 12 _ (by omega)
  have hdg : ∀ c : UInt8, 48 ≤ c.toNat ∧ c.toNat ≤ 57 → isDg (c.toNat : Int) = true := by
    intro c hc
    unfold isDg
    rw [decide_eq_true (by omega), decide_eq_true (by omega)]; rfl
  rw [hT]
  obtain ⟨d0, D', hD0⟩ : ∃ d0 D', D = d0 :: D' := by
    cases D with
    | nil => exact absurd rfl hDn
    | cons a l => exact ⟨a, l, rfl⟩
  have hd0 : 48 ≤ d0.toNat ∧ d0.toNat ≤ 57 := hDd d0 (by rw [hD0]; exact List.mem_cons_self ..)
  obtain ⟨F, hF⟩ : ∃ F, F = fracL (m % 1000000) := ⟨_, rfl⟩
  rw [← hF]
  obtain ⟨s, hs⟩ : ∃ s, s = bmk (sg ++ (D ++ F)) := ⟨_, rfl⟩
  have hsp : Q.runN isSp s 0 = 0 := by
    have := runN_seg isSp [] [] (sg ++ (D ++ F)) (by simp) (by
      intro c hc
      have hc2 : c.toNat = 45 ∨ (48 ≤ c.toNat ∧ c.toNat ≤ 57) := by
        rw [hsg] at hc
        by_cases hn : n < 0
        · rw [if_pos hn] at hc
          simp at hc
          left; rw [← hc]; decide
        · rw [if_neg hn, hD0] at hc
          simp at hc
          right; rw [← hc]; exact hd0
      unfold isSp
      rw [beq_eq_false_iff_ne.mpr (by omega), beq_eq_false_iff_ne.mpr (by omega), beq_eq_false_iff_ne.mpr (by omega)]; rfl)
    rw [hs]
    simpa using this
  have hat : atD s = sg.length ∧ negB s = decide (n < 0) := by
    unfold atD negB
    rw [hsp]
    by_cases hn : n < 0
    · have hb : bt s ((0 : Nat) : Int) = 45 := by
        rw [hs, bmk_bt _ 0 (by rw [hsg, if_pos hn]; simp)]
        simp [hsg, hn]
      have hz : sgnB s 0 = true := by
        unfold sgnB
        rw [hb, decide_eq_true (by rw [hs, bmk_size, hsg, if_pos hn]; simp)]; rfl
      rw [if_pos hz, if_pos hz, hb, decide_eq_true hn, hsg, if_pos hn]
      exact ⟨rfl, rfl⟩
    · have hb : bt s ((0 : Nat) : Int) = (d0.toNat : Int) := by
        rw [hs, bmk_bt _ 0 (by rw [hsg, if_neg hn, hD0]; simp)]
        simp [hsg, hn, hD0]
      have hz : sgnB s 0 = false := by
        unfold sgnB
        rw [hb, beq_eq_false_iff_ne.mpr (by omega), beq_eq_false_iff_ne.mpr (by omega)]; simp
      rw [hz, if_neg (by decide), if_neg (by decide), decide_eq_false hn, hsg, if_neg hn]
      exact ⟨rfl, rfl⟩
  have hFh : ∀ c, F.head? = some c → c = 46 := by
    intro c hc
    rw [hF] at hc
    unfold fracL at hc
    split at hc
    · simp at hc
    · simp at hc; exact hc.symm
  have hwh : wholeN s = D.length := by
    unfold wholeN
    rw [hat.1, hs]
    exact runN_seg isDg D sg F (fun c hc => hdg c (hDd c hc)) (fun c hc => by rw [hFh c hc]; decide)
  have hat2 : at2 s = sg.length + D.length := by unfold at2; rw [hat.1, hwh]
  have hDl : 0 < D.length := by rw [hD0]; simp
  have hdig : bytesOf (digS s) = nums8 D := by
    unfold digS
    rw [bytesOf_extract, hat.1, hat2, hs, bytesOf_bmk]
    unfold nums8
    simp
  rw [← hs]
  rw [readV_eq, hwh]
  have hnum : ∀ P : List UInt8, bytesOf (partS s) = nums8 P → (P ++ [48, 48, 48, 48, 48, 48]).take 6 = dl 6 (m % 1000000) → numOf s = (m : Int) := by
    intro P hP h6
    unfold numOf
    rw [foldl_bytes]
    have ea : bytesOf (allS s) = nums8 D ++ nums8 (dl 6 (m % 1000000)) := by
      unfold allS
      rw [bytesOf_append, bytesOf_extract, bytesOf_append, hdig, hP, bytesOf_zeros, ← h6]
      unfold nums8
      simp [List.map_take]
    have hf := numFold (nums8 D ++ nums8 (dl 6 (m % 1000000))) 0 (by omega)
    rw [mn_start] at hf
    rw [ea, hf, valFrom_append, hDv, val_dl 6 _ _ (by omega)]
    have p6 : (10 : Int) ^ 6 = 1000000 := by decide
    rw [p6]
    unfold mn
    omega
  have hfin : ∀ q : Nat, at3 s = q → numOf s = (m : Int) → (if negB s = true then - numOf s else numOf s, ((at3 s : Nat) : Int)) = (n, (q : Int)) := by
    intro q h1 h2
    rw [hat.2, h1, h2]
    by_cases hn : n < 0
    · rw [if_pos (decide_eq_true hn)]; congr 1; omega
    · rw [if_neg (by simpa using hn)]; congr 1; omega
  by_cases hr : m % 1000000 = 0
  · have hF0 : F = [] := by rw [hF]; unfold fracL; rw [if_pos hr]
    have htk : tkB s = false := tk_false s (fun hh => by
      have h1 := hh.1
      rw [hat2, hs, bmk_size, hF0] at h1
      simp at h1 <;> omega)
    have hp : bytesOf (partS s) = nums8 [] := by rw [part_bytes]; unfold partL; rw [htk]; rfl
    rw [htk, if_neg (show ¬ (false = true) by decide), if_neg (show ¬ (D.length + 0 = 0) by omega)]
    refine hfin _ ?_ (hnum [] hp ?_)
    · unfold at3
      rw [htk, if_neg (show ¬ (false = true) by decide), hat2, hF0]; simp
    · rw [hr]; decide
  · obtain ⟨t, ht⟩ : ∃ t, t = trimR (dl 6 (m % 1000000)) := ⟨_, rfl⟩
    have hFt : F = 46 :: t := by rw [hF, ht]; unfold fracL; rw [if_neg hr]
    have hd2 : bt s (at2 s : Int) = 46 := by
      rw [hat2, hs, bmk_bt _ _ (by rw [hFt]; simp <;> omega)]
      simp [hFt]
    have hlt : at2 s < s.size := by rw [hat2, hs, bmk_size, hFt]; simp <;> omega
    have htd : ∀ c ∈ t, 48 ≤ c.toNat ∧ c.toNat ≤ 57 := by
      intro c hc
      rw [ht] at hc
      exact dl_digits 6 _ (by omega) c (trimR_sub _ c hc)
    have hmr : Q.runN isDg s (at2 s + 1) = t.length := by
      have := runN_seg isDg t (sg ++ D ++ [46]) [] (fun c hc => hdg c (htd c hc)) (by simp)
      rw [hat2, hs, hFt]
      simpa [Nat.add_assoc] using this
    have htk : tkB s = true := by
      rw [tk_true s hlt hd2, hwh]
      exact decide_eq_true (by omega)
    have hmn : moreN s = t.length := by
      have h1 := htk
      unfold tkB at h1
      rw [Bool.and_eq_true] at h1
      unfold moreN
      rw [if_pos h1.1, hmr]
    have hp : bytesOf (partS s) = nums8 t := by
      unfold partS
      have e : nums8 (sg ++ (D ++ 46 :: t)) = nums8 (sg ++ D ++ [46]) ++ nums8 t := by unfold nums8; simp
      have el : (nums8 (sg ++ D ++ [46])).length = sg.length + D.length + 1 := by unfold nums8; simp [Nat.add_assoc]
      have et : (nums8 t).length = t.length := by unfold nums8; simp
      rw [if_pos htk, bytesOf_extract, hmn, hat2, hs, bytesOf_bmk, hFt, e, ← el, List.drop_left, List.take_of_length_le (by omega)]
    rw [if_pos htk, if_neg (show ¬ (D.length + moreN s = 0) by omega)]
    refine hfin _ ?_ (hnum t hp ?_)
    · unfold at3
      rw [if_pos htk, hat2, hmn, hFt]; simp; omega
    · rw [ht]
      exact six_back _ (dl_length 6 _)
def runL (p : Int → Bool) : List Int → Nat
  | [] => 0
  | c :: l => if p c = true then runL p l + 1 else 0
theorem runL_le (p : Int → Bool) (l : List Int) : runL p l ≤ l.length := by
  induction l with
  | nil => exact Nat.le_refl _
  | cons c l ih => simp only [runL]; split <;> simp <;> omega
theorem runL_append (p : Int → Bool) (z : List Int) (hz : ∀ c, z.head? = some c → p c = false) : ∀ d : List Int, (∀ c ∈ d, p c = true) → runL p (d ++ z) = d.length
  | [], _ => by
    cases z with
    | nil => rfl
    | cons c z => simp only [List.nil_append, runL]; rw [if_neg (by rw [hz c rfl]; decide)]; rfl
  | c :: d, h => by
    simp only [List.cons_append, runL]
    rw [if_pos (h c (by simp)), runL_append p z hz d (fun x hx => h x (by simp [hx]))]
    rfl
theorem runL_all (p : Int → Bool) : ∀ l : List Int, ∀ c ∈ l.take (runL p l), p c = true
  | [], c, h => by simp at h
  | a :: l, c, h => by
    simp only [runL] at h
    by_cases ha : p a = true
    · rw [if_pos ha, List.take_succ_cons] at h
      rcases List.mem_cons.1 h with rfl | h
      · exact ha
      · exact runL_all p l c h
    · rw [if_neg ha] at h; simp at h
def headDot : List Int → Bool
  | a :: b :: _ => a == 46 && isDg b
  | _ => false
def numL (r : List Int) : Nat := if headDot (r.drop (runL isDg r)) = true then runL isDg r + 1 + runL isDg (r.drop (runL isDg r + 1)) else runL isDg r
def escL (d : Int) : Option Int := if d = 110 then some 10 else if d = 116 then some 9 else if d = 34 then some 34 else if d = 92 then some 92 else none
def strL : Bool → List Int → Option (List Int × Nat)
  | _, [] => none
  | true, d :: l => (escL d).bind fun e => (strL false l).map fun x => (e :: x.1, x.2 + 1)
  | false, c :: l => if c = 34 then some ([], 1) else if c = 10 then none else if c = 92 then (strL true l).map (fun x => (x.1, x.2 + 1)) else (strL false l).map (fun x => (c :: x.1, x.2 + 1))
def reL : Bool → List Int → Option Nat
  | _, [] => none
  | true, d :: l => if d = 10 then none else (reL false l).map (· + 1)
  | false, c :: l => if c = 47 then some 1 else if c = 92 then (reL true l).map (· + 1) else if c = 10 then none else (reL false l).map (· + 1)
def skipN : Bool → List Int → Nat
  | _, [] => 0
  | true, c :: l => skipN (!(c == 10)) l + 1
  | false, c :: l => if c = 35 then skipN true l + 1 else if isSp c = true then skipN false l + 1 else 0
def kwL : List (List Int) := [[66, 69, 71, 73, 78], [69, 78, 68], [102, 117, 110, 99, 116, 105, 111, 110], [105, 102], [101, 108, 115, 101], [119, 104, 105, 108, 101], [102, 111, 114], [105, 110], [98, 114, 101, 97, 107], [99, 111, 110, 116, 105, 110, 117, 101], [110, 101, 120, 116], [101, 120, 105, 116], [114, 101, 116, 117, 114, 110], [100, 101, 108, 101, 116, 101], [112, 114, 105, 110, 116], [112, 114, 105, 110, 116, 102], [108, 101, 110, 103, 116, 104], [115, 117, 98, 115, 116, 114], [105, 110, 100, 101, 120], [115, 112, 108, 105, 116], [116, 111, 117, 112, 112, 101, 114], [105, 110, 116]]
def sgL : List (List Int) := [[38, 38], [124, 124], [61, 61], [33, 61], [33, 126], [60, 61], [43, 61], [123], [125], [40], [41], [91], [93], [59], [44], [61], [33], [60], [43], [45], [42], [47], [37], [126], [63], [58], [36]]
def isW (l : List Int) : Bool := kwL.contains l
def readL (l : List Int) : Int := (readV (strOfNums l)).1
def lexL (o : Bool) : List Int → Option (Int × List Int × Int × Nat)
  | [] => none
  | c :: l =>
    if isDg c = true then some (1, [], readL ((c :: l).take (numL (c :: l))), numL (c :: l))
    else if c = 34 then (strL false l).map fun x => (2, x.1, 0, x.2 + 1)
    else if c = 47 ∧ o = false then (reL false l).map fun m => (3, l.take (m - 1), 0, m + 1)
    else if isLt c = true then (if runL isNm (c :: l) > 40 then none else some ((if isW ((c :: l).take (runL isNm (c :: l))) = true then 6 else if ((c :: l).drop (runL isNm (c :: l))).head? = some 40 then 5 else 4), (c :: l).take (runL isNm (c :: l)), 0, runL isNm (c :: l)))
    else (sgL.find? (fun g => g.isPrefixOf (c :: l))).map fun g => (7, g, 0, g.length)
def opnd (k : Int) (S : List Int) : Bool := k == 1 || k == 2 || k == 3 || k == 4 || (k == 7 && (S == [41] || S == [93]))
def quoteL : List Int → List Int
  | [] => []
  | c :: l => (if c = 10 then [92, 110] else if c = 9 then [92, 116] else if c = 34 then [92, 34] else if c = 92 then [92, 92] else [c]) ++ quoteL l
def tokB (k : Int) (S : List Int) (N : Int) : List Int :=
  if k = 1 then nums8 (decT N) else if k = 2 then 34 :: (quoteL S ++ [34]) else if k = 3 then 47 :: (S ++ [47]) else S
theorem str_nums8 (l : List UInt8) : strOfNums (nums8 l) = bmk l := by
  apply ByteArray.ext
  apply Array.ext'
  rw [strOfNums_data]
  unfold nums8
  rw [List.map_map]
  conv => rhs; rw [bmk_list, ← List.map_id l]
  apply List.map_congr_left
  intro c _
  simp
theorem isDg_of (c : UInt8) (h : 48 ≤ c.toNat ∧ c.toNat ≤ 57) : isDg (c.toNat : Int) = true := by
  simp [isDg]; omega
theorem nums8_append (a b : List UInt8) : nums8 (a ++ b) = nums8 a ++ nums8 b := List.map_append ..
theorem drop_len (d z : List Int) : (d ++ z).drop d.length = z := by simp
theorem take_len (d z : List Int) : (d ++ z).take d.length = d := by simp
theorem numL_abs (m : Nat) (hm : m ≤ 9000000000000) (z : List Int) (hz : z.head? = some 32) : numL (nums8 (absL m) ++ z) = (nums8 (absL m)).length := by
  obtain ⟨z, rfl⟩ : ∃ z', z = 32 :: z' := by
    cases z with
    | nil => cases hz
    | cons a z => exact ⟨z, by simp at hz; rw [hz]⟩
  have hd : ∀ c ∈ nums8 (Lib.decDigits (m / 1000000)), isDg c = true := by
    intro c hc
    obtain ⟨b, hb, rfl⟩ := List.mem_map.1 hc
    exact isDg_of b (decDigits_digits 7 _ (by omega) b hb)
  unfold absL
  rw [nums8_append, List.append_assoc]
  generalize nums8 (Lib.decDigits (m / 1000000)) = d at *
  unfold fracL
  by_cases hr : m % 1000000 = 0
  · rw [if_pos hr]
    have e : runL isDg (d ++ (nums8 [] ++ 32 :: z)) = d.length := runL_append isDg _ (fun c hc => by simp [nums8] at hc; subst hc; decide) d hd
    unfold numL
    rw [e, drop_len]
    have : headDot (nums8 [] ++ 32 :: z) = false := by cases z <;> rfl
    rw [this, if_neg (by decide)]
    simp [nums8]
  · rw [if_neg hr]
    have hf : ∀ c ∈ nums8 (trimR (dl 6 (m % 1000000))), isDg c = true := by
      intro c hc
      obtain ⟨b, hb, rfl⟩ := List.mem_map.1 hc
      exact isDg_of b (dl_digits 6 _ (by omega) b (trimR_sub _ b hb))
    have hne : trimR (dl 6 (m % 1000000)) ≠ [] := dl_pos 6 _ (by omega) (by omega)
    have e0 : nums8 (46 :: trimR (dl 6 (m % 1000000))) = 46 :: nums8 (trimR (dl 6 (m % 1000000))) := rfl
    rw [e0]
    have hne2 : nums8 (trimR (dl 6 (m % 1000000))) ≠ [] := by
      unfold nums8; simpa using hne
    generalize nums8 (trimR (dl 6 (m % 1000000))) = f at *
    have e : runL isDg (d ++ (46 :: f ++ 32 :: z)) = d.length := runL_append isDg _ (fun c hc => by simp at hc; subst hc; decide) d hd
    unfold numL
    rw [e, drop_len]
    have h1 : headDot (46 :: f ++ 32 :: z) = true := by
      cases f with
      | nil => exact absurd rfl hne2
      | cons a f => simp only [List.cons_append, headDot]; rw [hf a (by simp)]; rfl
    rw [h1, if_pos rfl]
    have h2 : (d ++ (46 :: f ++ 32 :: z)).drop (d.length + 1) = f ++ 32 :: z := by
      rw [← List.drop_drop, drop_len]; rfl
    rw [h2, runL_append isDg (32 :: z) (fun c hc => by simp at hc; subst hc; decide) f hf]
    simp; omega
theorem absL_cons (m : Nat) (hm : m ≤ 9000000000000) : ∃ a l, nums8 (absL m) = a :: l ∧ isDg a = true := by
  unfold absL
  rw [nums8_append]
  cases h : Lib.decDigits (m / 1000000) with
  | nil => exact absurd h (decDigits_ne _)
  | cons b l => exact ⟨_, _, rfl, isDg_of b (decDigits_digits 7 (m / 1000000) (by omega) b (by rw [h]; simp))⟩
theorem readL_nonneg (c : Int) (l : List Int) (hc : isDg c = true) (h0 : 0 ≤ c ∧ c ≤ 255) : 0 ≤ readL (c :: l) ∧ readL (c :: l) ≤ 9000000000000 := by
  unfold readL
  generalize hs : strOfNums (c :: l) = s
  have hsz : 0 < s.size := by rw [← hs, strOfNums_size]; simp
  have hb : bt s (0 : Nat) = c := by
    rw [bt_nat hsz]
    have : s.data.toList[0]? = some (UInt8.ofNat c.toNat) := by rw [← hs, strOfNums_data]; rfl
    have h2 : s[0] = UInt8.ofNat c.toNat := by
      have e : s.data.toList[0]? = some s[0] := by
        rw [Array.getElem?_toList]
        exact Array.getElem?_eq_getElem hsz
      rw [e] at this; exact Option.some.inj this
    rw [h2, UInt8.toNat_ofNat']
    omega
  have hdg := digB c hc
  have hsp : Q.runN isSp s 0 = 0 := runN_miss hsz (by rw [hb]; simp [isSp]; omega)
  have hsg : sgnB s (Q.runN isSp s 0) = false := by
    rw [hsp]; unfold sgnB; rw [hb]; simp; omega
  have hn : negB s = false := by unfold negB; rw [hsg]; rfl
  have hr := numOf_range s
  unfold readV
  rw [hn]
  split
  · exact ⟨by decide, by decide⟩
  · exact hr
theorem quote_back (S z : List Int) : strL false (quoteL S ++ 34 :: z) = some (S, (quoteL S).length + 1) := by
  induction S with
  | nil => rfl
  | cons c S ih =>
    unfold quoteL
    by_cases c1 : c = 10
    · subst c1
      rw [if_pos rfl]
      simp only [List.cons_append, List.nil_append, strL, escL]
      rw [ih]; rfl
    rw [if_neg c1]
    by_cases c2 : c = 9
    · subst c2
      rw [if_pos rfl]
      simp only [List.cons_append, List.nil_append, strL, escL]
      rw [ih]; rfl
    rw [if_neg c2]
    by_cases c3 : c = 34
    · subst c3
      rw [if_pos rfl]
      simp only [List.cons_append, List.nil_append, strL, escL]
      rw [ih]; rfl
    rw [if_neg c3]
    by_cases c4 : c = 92
    · subst c4
      rw [if_pos rfl]
      simp only [List.cons_append, List.nil_append, strL, escL]
      rw [ih]; rfl
    rw [if_neg c4]
    simp only [List.cons_append, List.nil_append, strL]
    rw [if_neg c3, if_neg c1, if_neg c4, ih]; rfl
theorem re_back (z : List Int) : ∀ (l : List Int) (e : Bool) (m : Nat), reL e l = some m → 1 ≤ m ∧ m ≤ l.length ∧ reL e (l.take (m - 1) ++ 47 :: z) = some m
  | [], e, m, h => by cases e <;> cases h
  | c :: l, true, m, h => by
    simp only [reL] at h
    by_cases c1 : c = 10
    · rw [if_pos c1] at h; cases h
    · rw [if_neg c1] at h
      obtain ⟨q, hq, rfl⟩ := Option.map_eq_some_iff.1 h
      obtain ⟨a, b, d⟩ := re_back z l false q hq
      refine ⟨by omega, by simp; omega, ?_⟩
      obtain ⟨q, rfl⟩ : ∃ x, q = x + 1 := ⟨q - 1, by omega⟩
      simp only [Nat.add_sub_cancel, List.take_succ_cons, List.cons_append, reL] at d ⊢
      rw [if_neg c1, d]; rfl
  | c :: l, false, m, h => by
    simp only [reL] at h
    by_cases c0 : c = 47
    · rw [if_pos c0] at h
      cases h
      exact ⟨by omega, by simp, rfl⟩
    rw [if_neg c0] at h
    by_cases c1 : c = 92
    · rw [if_pos c1] at h
      obtain ⟨q, hq, rfl⟩ := Option.map_eq_some_iff.1 h
      obtain ⟨a, b, d⟩ := re_back z l true q hq
      refine ⟨by omega, by simp; omega, ?_⟩
      obtain ⟨q, rfl⟩ : ∃ x, q = x + 1 := ⟨q - 1, by omega⟩
      simp only [Nat.add_sub_cancel, List.take_succ_cons, List.cons_append, reL] at d ⊢
      rw [if_neg c0, if_pos c1, d]; rfl
    · rw [if_neg c1] at h
      by_cases c2 : c = 10
      · rw [if_pos c2] at h; cases h
      rw [if_neg c2] at h
      obtain ⟨q, hq, rfl⟩ := Option.map_eq_some_iff.1 h
      obtain ⟨a, b, d⟩ := re_back z l false q hq
      refine ⟨by omega, by simp; omega, ?_⟩
      obtain ⟨q, rfl⟩ : ∃ x, q = x + 1 := ⟨q - 1, by omega⟩
      simp only [Nat.add_sub_cancel, List.take_succ_cons, List.cons_append, reL] at d ⊢
      rw [if_neg c0, if_neg c1, if_neg c2, d]; rfl
theorem str_len : ∀ (l : List Int) (e : Bool) (x : List Int × Nat), strL e l = some x → 1 ≤ x.2 ∧ x.2 ≤ l.length ∧ x.1.length ≤ l.length
  | [], e, x, h => by cases e <;> cases h
  | c :: l, true, x, h => by
    simp only [strL] at h
    obtain ⟨e, _, h⟩ := Option.bind_eq_some_iff.1 h
    obtain ⟨y, hy, rfl⟩ := Option.map_eq_some_iff.1 h
    have := str_len l false y hy
    simp only [List.length_cons]; omega
  | c :: l, false, x, h => by
    simp only [strL] at h
    split at h
    · cases h; simp
    · split at h
      · cases h
      · split at h
        · obtain ⟨y, hy, rfl⟩ := Option.map_eq_some_iff.1 h
          have := str_len l true y hy
          simp only [List.length_cons]; omega
        · obtain ⟨y, hy, rfl⟩ := Option.map_eq_some_iff.1 h
          have := str_len l false y hy
          simp only [List.length_cons]; omega
theorem isDg_isNm (c : Int) (h : isLt c = true) : isNm c = true := by unfold isNm; rw [h]; rfl
theorem prefix_head (g : List Int) (hg : g ∈ sgL) (c : Int) (l : List Int) (h : g.isPrefixOf (c :: l) = true) : g.head? = some c := by
  cases g with
  | nil => exact absurd hg (by decide)
  | cons a g => simp only [List.isPrefixOf, Bool.and_eq_true, beq_iff_eq] at h; rw [h.1]; rfl
theorem sign_back (g : List Int) (hg : g ∈ sgL) (z : List Int) : sgL.find? (fun x => x.isPrefixOf (g ++ 32 :: z)) = some g := by
  unfold sgL at hg
  simp only [List.mem_cons, List.mem_nil_iff, or_false] at hg
  rcases hg with rfl | rfl | rfl | rfl | rfl | rfl | rfl | rfl | rfl | rfl | rfl | rfl | rfl | rfl | rfl | rfl | rfl | rfl | rfl | rfl | rfl | rfl | rfl | rfl | rfl | rfl | rfl <;> rfl
def follows (k : Int) (z : List Int) : Prop := if k = 5 then z.head? = some 40 else z.head? = some 32
theorem lex_len (o : Bool) (r : List Int) (k : Int) (S : List Int) (N : Int) (n : Nat) (h : lexL o r = some (k, S, N, n)) : 1 ≤ n ∧ n ≤ r.length := by
  cases r with
  | nil => cases h
  | cons c l =>
    simp only [lexL] at h
    split at h
    · rename_i hd
      simp only [Option.some.injEq, Prod.mk.injEq] at h
      obtain ⟨_, _, _, rfl⟩ := h
      have h1 : runL isDg (c :: l) = runL isDg l + 1 := by simp only [runL]; rw [if_pos hd]
      have h2 := runL_le isDg (c :: l)
      have h3 := runL_le isDg ((c :: l).drop (runL isDg (c :: l) + 1))
      unfold numL
      split
      · rename_i hh
        have : runL isDg (c :: l) + 1 ≤ (c :: l).length := by
          have : (c :: l).drop (runL isDg (c :: l)) ≠ [] := by intro e; rw [e] at hh; cases hh
          have := mt List.drop_eq_nil_iff.2 this
          omega
        rw [List.length_drop] at h3
        omega
      · omega
    · split at h
      · obtain ⟨x, hx, e⟩ := Option.map_eq_some_iff.1 h
        simp only [Prod.mk.injEq] at e
        have := str_len _ _ _ hx
        simp only [List.length_cons]; omega
      · split at h
        · obtain ⟨x, hx, e⟩ := Option.map_eq_some_iff.1 h
          simp only [Prod.mk.injEq] at e
          have := re_back [] _ _ _ hx
          simp only [List.length_cons]; omega
        · split at h
          · rename_i hl
            have h1 : runL isNm (c :: l) = runL isNm l + 1 := by simp only [runL]; rw [if_pos (isDg_isNm c hl)]
            have h2 := runL_le isNm (c :: l)
            split at h
            · cases h
            · simp only [Option.some.injEq, Prod.mk.injEq] at h
              omega
          · obtain ⟨g, hg, e⟩ := Option.map_eq_some_iff.1 h
            simp only [Prod.mk.injEq] at e
            have hp := List.find?_some hg
            have hm := List.mem_of_find?_eq_some hg
            have h1 : g.length ≤ (c :: l).length := (List.isPrefixOf_iff_prefix.1 hp).length_le
            have h2 : g ≠ [] := by intro e; subst e; exact absurd hm (by decide)
            have := List.length_pos_iff.2 h2
            omega
theorem lex_again (o : Bool) (r : List Int) (hr : ∀ c ∈ r, 0 ≤ c ∧ c ≤ 255) (k : Int) (S : List Int) (N : Int) (n : Nat) (h : lexL o r = some (k, S, N, n)) (z : List Int) (hz : follows k z) :
    lexL o (tokB k S N ++ z) = some (k, S, N, (tokB k S N).length) ∧ ∃ a l, tokB k S N = a :: l ∧ a ≠ 35 ∧ isSp a = false := by
  cases r with
  | nil => cases h
  | cons c l =>
    simp only [lexL] at h
    split at h
    · rename_i hd
      simp only [Option.some.injEq, Prod.mk.injEq] at h
      obtain ⟨rfl, rfl, hN, _⟩ := h
      have hz : z.head? = some 32 := hz
      have hn1 : 1 ≤ numL (c :: l) := by
        have h1 : runL isDg (c :: l) = runL isDg l + 1 := by simp only [runL]; rw [if_pos hd]
        unfold numL; split <;> omega
      obtain ⟨q, hq⟩ : ∃ q, numL (c :: l) = q + 1 := ⟨numL (c :: l) - 1, by omega⟩
      rw [hq, List.take_succ_cons] at hN
      have hN2 := readL_nonneg c (l.take q) hd (hr c (by simp))
      rw [hN] at hN2
      have e : tokB 1 [] N = nums8 (absL N.natAbs) := by
        unfold tokB decT
        rw [if_pos rfl, if_pos (by unfold isDec; omega), if_neg (by omega)]
      have hback := readV_decT N (by unfold isDec; omega)
      have hdec : decT N = absL N.natAbs := by unfold decT; rw [if_pos (by unfold isDec; omega), if_neg (by omega)]
      rw [hdec] at hback
      rw [e]
      have hm : N.natAbs ≤ 9000000000000 := by omega
      have hnum := numL_abs N.natAbs hm z hz
      obtain ⟨a, l2, hal, had⟩ := absL_cons N.natAbs hm
      refine ⟨?_, a, l2, hal, ?_, ?_⟩
      · have hread : readL (nums8 (absL N.natAbs)) = N := by unfold readL; rw [str_nums8, hback]
        rw [hal] at hnum hread ⊢
        simp only [List.cons_append] at hnum ⊢
        simp only [lexL]
        rw [if_pos had, hnum]
        have : (a :: (l2 ++ z)).take (a :: l2).length = a :: l2 := take_len (a :: l2) z
        rw [this, hread]
      · have := digB a had; omega
      · have := digB a had; simp [isSp]; omega
    · rename_i hd
      split at h
      · rename_i h34
        obtain ⟨x, hx, e⟩ := Option.map_eq_some_iff.1 h
        simp only [Prod.mk.injEq] at e
        obtain ⟨rfl, rfl, rfl, _⟩ := e
        refine ⟨?_, 34, _, rfl, by decide, by decide⟩
        have e : tokB 2 x.1 0 = 34 :: (quoteL x.1 ++ [34]) := rfl
        rw [e]
        have e2 : (34 :: (quoteL x.1 ++ [34])) ++ z = 34 :: (quoteL x.1 ++ 34 :: z) := by simp
        rw [e2]
        simp only [lexL]
        rw [if_neg (by decide), if_pos trivial, quote_back]
        simp
      · rename_i h34
        split at h
        · rename_i h47
          obtain ⟨m, hm, e⟩ := Option.map_eq_some_iff.1 h
          simp only [Prod.mk.injEq] at e
          obtain ⟨rfl, rfl, rfl, _⟩ := e
          obtain ⟨h1, h2, h3⟩ := re_back z _ _ _ hm
          refine ⟨?_, 47, _, rfl, by decide, by decide⟩
          have e : tokB 3 (l.take (m - 1)) 0 = 47 :: (l.take (m - 1) ++ [47]) := rfl
          rw [e]
          have e2 : (47 :: (l.take (m - 1) ++ [47])) ++ z = 47 :: (l.take (m - 1) ++ 47 :: z) := by simp
          rw [e2]
          simp only [lexL]
          rw [if_neg (by decide), if_neg (by decide), if_pos ⟨trivial, h47.2⟩, h3]
          have hl : (l.take (m - 1)).length = m - 1 := by rw [List.length_take]; omega
          have e3 : (l.take (m - 1) ++ 47 :: z).take (m - 1) = l.take (m - 1) := by
            have := take_len (l.take (m - 1)) (47 :: z)
            rw [hl] at this; exact this
          simp only [Option.map_some, e3, List.length_cons, List.length_append, hl, List.length_nil]
          congr 4; omega
        · rename_i h47
          split at h
          · rename_i hl
            have h1 : runL isNm (c :: l) = runL isNm l + 1 := by simp only [runL]; rw [if_pos (isDg_isNm c hl)]
            split at h
            · cases h
            · rename_i h40
              simp only [Option.some.injEq, Prod.mk.injEq] at h
              obtain ⟨hk, hS, rfl, _⟩ := h
              have hk3 : k = 6 ∨ k = 5 ∨ k = 4 := by
                rw [← hk]; split
                · exact .inl rfl
                · split
                  · exact .inr (.inl rfl)
                  · exact .inr (.inr rfl)
              have e : tokB k S 0 = S := by
                unfold tokB
                rw [if_neg (by omega), if_neg (by omega), if_neg (by omega)]
              rw [e]
              have hall : ∀ x ∈ S, isNm x = true := by rw [← hS]; exact runL_all isNm (c :: l)
              have hSl : S.length = runL isNm (c :: l) := by
                rw [← hS, List.length_take]
                have := runL_le isNm (c :: l); omega
              have hS1 : S = c :: l.take (runL isNm l) := by rw [← hS, h1, List.take_succ_cons]
              have hzn : ∀ x, z.head? = some x → isNm x = false := by
                intro x hx
                unfold follows at hz
                split at hz
                · rw [hz] at hx; cases hx; decide
                · rw [hz] at hx; cases hx; decide
              have hrun := runL_append isNm z hzn S hall
              refine ⟨?_, c, _, hS1, ?_, ?_⟩
              · rw [hS1] at hrun ⊢
                simp only [List.cons_append] at hrun ⊢
                simp only [lexL]
                rw [if_neg hd, if_neg h34, if_neg h47, if_pos hl, hrun]
                have t1 : (c :: (l.take (runL isNm l) ++ z)).take (c :: l.take (runL isNm l)).length = c :: l.take (runL isNm l) := take_len (c :: l.take (runL isNm l)) z
                have t2 : (c :: (l.take (runL isNm l) ++ z)).drop (c :: l.take (runL isNm l)).length = z := drop_len (c :: l.take (runL isNm l)) z
                rw [t1, t2, ← hS1, if_neg (by omega)]
                rw [hS] at hk
                congr 2
                by_cases hw : isW S = true
                · rw [if_pos hw] at hk ⊢; exact hk
                · rw [if_neg hw] at hk ⊢
                  split at hk
                  · subst hk
                    have hz : z.head? = some 40 := hz
                    rw [hz, if_pos rfl]
                  · subst hk
                    have hz : z.head? = some 32 := hz
                    rw [hz, if_neg (by decide)]
              · intro e; subst e; exact absurd hl (by decide)
              · unfold isLt at hl
                unfold isSp
                by_cases q1 : c = 32
                · subst q1; exact absurd hl (by decide)
                by_cases q2 : c = 9
                · subst q2; exact absurd hl (by decide)
                by_cases q3 : c = 10
                · subst q3; exact absurd hl (by decide)
                simp [q1, q2, q3]
          · rename_i hl
            obtain ⟨g, hg, e⟩ := Option.map_eq_some_iff.1 h
            simp only [Prod.mk.injEq] at e
            obtain ⟨rfl, rfl, rfl, _⟩ := e
            have hp := List.find?_some hg
            have hm := List.mem_of_find?_eq_some hg
            have hh := prefix_head g hm c l hp
            have hz : z.head? = some 32 := hz
            obtain ⟨z, rfl⟩ : ∃ z', z = 32 :: z' := by
              cases z with
              | nil => cases hz
              | cons a z => exact ⟨z, by simp at hz; rw [hz]⟩
            have hb := sign_back g hm z
            obtain ⟨g', rfl⟩ : ∃ g', g = c :: g' := by
              cases g with
              | nil => cases hh
              | cons a g => exact ⟨g, by simp at hh; rw [hh]⟩
            have e : tokB 7 (c :: g') 0 = c :: g' := rfl
            rw [e]
            refine ⟨?_, c, g', rfl, ?_, ?_⟩
            · simp only [List.cons_append] at hb ⊢
              simp only [lexL]
              rw [if_neg hd, if_neg h34, if_neg h47, if_neg hl, hb]
              rfl
            · intro e; subst e
              unfold sgL at hm; simp at hm
            · unfold isSp
              unfold sgL at hm
              by_cases q1 : c = 32
              · subst q1; simp at hm
              by_cases q2 : c = 9
              · subst q2; simp at hm
              by_cases q3 : c = 10
              · subst q3; simp at hm
              simp [q1, q2, q3]
def Good (l : List Int) : Prop := ∀ c ∈ l, 0 ≤ c ∧ c ≤ 255
theorem Good.drop {l : List Int} (h : Good l) (n : Nat) : Good (l.drop n) := fun c hc => h c (List.mem_of_mem_drop hc)
theorem Good.take {l : List Int} (h : Good l) (n : Nat) : Good (l.take n) := fun c hc => h c (List.mem_of_mem_take hc)
theorem skip_le : ∀ (b : Bool) (l : List Int), skipN b l ≤ l.length
  | true, [] => Nat.le_refl _
  | false, [] => Nat.le_refl _
  | true, c :: l => by simp only [skipN, List.length_cons]; have := skip_le (!(c == 10)) l; omega
  | false, c :: l => by
    simp only [skipN, List.length_cons]
    have h1 := skip_le true l
    have h2 := skip_le false l
    split
    · omega
    · split <;> omega
theorem skip_head : ∀ (b : Bool) (l : List Int) (c : Int) (t : List Int), l.drop (skipN b l) = c :: t → c ≠ 35 ∧ isSp c = false
  | true, [], c, t, h => by simp [skipN] at h
  | false, [], c, t, h => by simp [skipN] at h
  | true, a :: l, c, t, h => by
    simp only [skipN, List.drop_succ_cons] at h
    exact skip_head _ l c t h
  | false, a :: l, c, t, h => by
    simp only [skipN] at h
    by_cases h1 : a = 35
    · rw [if_pos h1, List.drop_succ_cons] at h; exact skip_head _ l c t h
    · rw [if_neg h1] at h
      by_cases h2 : isSp a = true
      · rw [if_pos h2, List.drop_succ_cons] at h; exact skip_head _ l c t h
      · rw [if_neg h2, List.drop_zero] at h
        cases h
        exact ⟨h1, Bool.eq_false_iff.mpr h2⟩
theorem skip_none (c : Int) (l : List Int) (h1 : c ≠ 35) (h2 : isSp c = false) : skipN false (c :: l) = 0 := by
  simp only [skipN]
  rw [if_neg h1, if_neg (by rw [h2]; decide)]
theorem skip_sp (c : Int) (l : List Int) (h2 : isSp c = true) : skipN false (c :: l) = skipN false l + 1 := by
  have h1 : c ≠ 35 := by intro e; subst e; exact absurd h2 (by decide)
  simp only [skipN]
  rw [if_neg h1, if_pos h2]
theorem skip_true : ∀ l : List Int, skipN true l = runL isNl l + skipN false (l.drop (runL isNl l))
  | [] => rfl
  | c :: l => by
    simp only [skipN, runL]
    by_cases h : c = 10
    · subst h
      rw [if_neg (by decide)]
      simp only [List.drop_zero, skipN]
      rw [if_neg (by decide), if_pos (by decide)]
      simp
    · have h1 : (c == 10) = false := by simpa using h
      have h2 : isNl c = true := by unfold isNl; rw [h1]; rfl
      rw [if_pos h2, h1, List.drop_succ_cons]
      have := skip_true l
      simp only [Bool.not_false]
      omega
theorem skip_remark (l : List Int) : skipN false (35 :: l) = runL isNl (35 :: l) + skipN false ((35 :: l).drop (runL isNl (35 :: l))) := by
  have e : runL isNl (35 :: l) = runL isNl l + 1 := by simp only [runL]; rw [if_pos (by decide)]
  rw [e, List.drop_succ_cons]
  have := skip_true l
  have e2 : skipN false (35 :: l) = skipN true l + 1 := by simp only [skipN]; rw [if_pos trivial]
  omega
def lexT : Nat → Nat → List Int → List S60 → Bool → List S60 × Int
  | 0, _, _, acc, _ => (acc, -1)
  | f + 1, a, r, acc, o =>
    match r.drop (skipN false r) with
    | [] => (acc, -1)
    | c :: l => match lexL o (c :: l) with
      | none => ([], ((a + skipN false r : Nat) : Int))
      | some (k, S, N, n) => lexT f (a + skipN false r + n) ((c :: l).drop n) (acc ++ [⟨k, strOfNums S, N, ((a + skipN false r : Nat) : Int)⟩]) (opnd k S)
theorem lexT_skip (f a : Nat) (r r2 : List Int) (m : Nat) (acc : List S60) (o : Bool) (h1 : skipN false r = m + skipN false r2) (h2 : r2 = r.drop m) : lexT (f + 1) a r acc o = lexT (f + 1) (a + m) r2 acc o := by
  have e : r.drop (skipN false r) = r2.drop (skipN false r2) := by rw [h1, h2, List.drop_drop]
  simp only [lexT]
  rw [e, h1]
  cases r2.drop (skipN false r2) with
  | nil => rfl
  | cons c l =>
    dsimp only
    cases lexL o (c :: l) with
    | none => dsimp only; rw [Nat.add_assoc]
    | some x =>
      obtain ⟨k, S, N, n⟩ := x
      dsimp only
      rw [Nat.add_assoc a m]
theorem lexT_err : ∀ (f a : Nat) (r : List Int) (acc : List S60) (o : Bool), (lexT f a r acc o).2 = -1 ∨ ((lexT f a r acc o).1 = [] ∧ 0 ≤ (lexT f a r acc o).2)
  | 0, a, r, acc, o => .inl rfl
  | f + 1, a, r, acc, o => by
    simp only [lexT]
    cases r.drop (skipN false r) with
    | nil => exact .inl rfl
    | cons c l =>
      dsimp only
      cases lexL o (c :: l) with
      | none => exact .inr ⟨rfl, by dsimp only; omega⟩
      | some x =>
        obtain ⟨k, S, N, n⟩ := x
        exact lexT_err f _ _ _ _
abbrev Tk := Int × List Int × Int
inductive Run : Bool → List Int → List Tk → Prop
  | nil (o : Bool) (r : List Int) : r.drop (skipN false r) = [] → Run o r []
  | cons (o : Bool) (r : List Int) (k : Int) (S : List Int) (N : Int) (n : Nat) (l : List Tk) : lexL o (r.drop (skipN false r)) = some (k, S, N, n) → Run (opnd k S) ((r.drop (skipN false r)).drop n) l → Run o r ((k, S, N) :: l)
def textL : List Tk → List Int
  | [] => []
  | (k, S, N) :: l => tokB k S N ++ ((if k = 5 then [] else [32]) ++ textL l)
theorem Run.blank {o : Bool} {x : List Int} {l : List Tk} (h : Run o x l) : Run o (32 :: x) l := by
  have e : skipN false (32 :: x) = skipN false x + 1 := skip_sp 32 x (by decide)
  cases h with
  | nil _ _ h => exact .nil _ _ (by rw [e, List.drop_succ_cons]; exact h)
  | cons _ _ k S N n l h1 h2 => exact .cons _ _ k S N n l (by rw [e, List.drop_succ_cons]; exact h1) (by rw [e, List.drop_succ_cons]; exact h2)
theorem lex_call (o : Bool) (r : List Int) (S : List Int) (N : Int) (n : Nat) (h : lexL o r = some (5, S, N, n)) : (r.drop n).head? = some 40 := by
  cases r with
  | nil => cases h
  | cons c l =>
    simp only [lexL] at h
    split at h
    · simp at h
    · split at h
      · obtain ⟨x, hx, e⟩ := Option.map_eq_some_iff.1 h; simp at e
      · split at h
        · obtain ⟨x, hx, e⟩ := Option.map_eq_some_iff.1 h; simp at e
        · split at h
          · split at h
            · cases h
            · simp only [Option.some.injEq, Prod.mk.injEq] at h
              obtain ⟨h1, _, _, rfl⟩ := h
              split at h1
              · exact absurd h1 (by decide)
              · split at h1
                · assumption
                · exact absurd h1 (by decide)
          · obtain ⟨x, hx, e⟩ := Option.map_eq_some_iff.1 h; simp at e
theorem lex_paren (o : Bool) (l : List Int) (k : Int) (S : List Int) (N : Int) (n : Nat) (h : lexL o (40 :: l) = some (k, S, N, n)) : (tokB k S N).head? = some 40 := by
  simp only [lexL] at h
  rw [if_neg (by decide), if_neg (by decide), if_neg (fun hh => absurd hh.1 (by decide)), if_neg (by decide)] at h
  obtain ⟨g, hg, e⟩ := Option.map_eq_some_iff.1 h
  simp only [Prod.mk.injEq] at e
  obtain ⟨rfl, rfl, rfl, _⟩ := e
  have hp := List.find?_some hg
  exact prefix_head g (List.mem_of_find?_eq_some hg) 40 l hp
theorem Run.again {o : Bool} {r : List Int} {l : List Tk} (h : Run o r l) : Good r → Run o (textL l) l ∧ (r.head? = some 40 → (textL l).head? = some 40) := by
  induction h with
  | nil o r h =>
    intro hg
    refine ⟨.nil _ _ rfl, fun hh => ?_⟩
    exfalso
    cases r with
    | nil => cases hh
    | cons c r =>
      simp at hh; subst hh
      rw [skip_none 40 r (by decide) (by decide)] at h
      cases h
  | cons o r k S N n l h1 h2 ih =>
    intro hg
    obtain ⟨i1, i2⟩ := ih ((hg.drop _).drop _)
    have hz : follows k ((if k = 5 then [] else [32]) ++ textL l) := by
      unfold follows
      by_cases hk : k = 5
      · rw [if_pos hk, if_pos hk]
        subst hk
        exact i2 (lex_call _ _ _ _ _ h1)
      · rw [if_neg hk, if_neg hk]; rfl
    obtain ⟨e1, a, t, e2, e3, e4⟩ := lex_again o _ (hg.drop _) k S N n h1 _ hz
    have hsk : skipN false (textL ((k, S, N) :: l)) = 0 := by
      show skipN false (tokB k S N ++ _) = 0
      rw [e2]; exact skip_none a _ e3 e4
    refine ⟨.cons _ _ k S N (tokB k S N).length l ?_ ?_, ?_⟩
    · rw [hsk]; exact e1
    · rw [hsk, List.drop_zero]
      show Run _ ((tokB k S N ++ _).drop (tokB k S N).length) l
      rw [drop_len]
      split
      · exact i1
      · exact i1.blank
    · intro hh
      cases r with
      | nil => cases hh
      | cons c r =>
        simp at hh; subst hh
        rw [skip_none 40 r (by decide) (by decide)] at h1
        have := lex_paren o r k S N n h1
        show (tokB k S N ++ _).head? = some 40
        rw [e2] at this ⊢
        exact this
theorem esc_good (d e : Int) (h : escL d = some e) : 0 ≤ e ∧ e ≤ 255 := by
  unfold escL at h
  repeat' split at h
  all_goals first | (cases h; omega) | cases h
theorem str_good : ∀ (l : List Int) (b : Bool) (x : List Int × Nat), Good l → strL b l = some x → Good x.1
  | [], b, x, hg, h => by cases b <;> cases h
  | c :: l, true, x, hg, h => by
    simp only [strL] at h
    obtain ⟨e, he, h⟩ := Option.bind_eq_some_iff.1 h
    obtain ⟨y, hy, rfl⟩ := Option.map_eq_some_iff.1 h
    have := str_good l false y (fun a ha => hg a (by simp [ha])) hy
    intro a ha
    rcases List.mem_cons.1 ha with rfl | ha
    · exact esc_good c _ he
    · exact this a ha
  | c :: l, false, x, hg, h => by
    have hg2 : Good l := fun a ha => hg a (by simp [ha])
    simp only [strL] at h
    split at h
    · cases h; intro a ha; simp at ha
    · split at h
      · cases h
      · split at h
        · obtain ⟨y, hy, rfl⟩ := Option.map_eq_some_iff.1 h
          exact str_good l true y hg2 hy
        · obtain ⟨y, hy, rfl⟩ := Option.map_eq_some_iff.1 h
          have := str_good l false y hg2 hy
          intro a ha
          rcases List.mem_cons.1 ha with rfl | ha
          · exact hg a (by simp)
          · exact this a ha
theorem lex_good (o : Bool) (r : List Int) (hr : Good r) (k : Int) (S : List Int) (N : Int) (n : Nat) (h : lexL o r = some (k, S, N, n)) : Good S ∧ S.length ≤ r.length ∧ (1 ≤ k ∧ k ≤ 7) ∧ -9000000000000 ≤ N ∧ N ≤ 9000000000000 := by
  cases r with
  | nil => cases h
  | cons c l =>
    have hg2 : Good l := fun a ha => hr a (by simp [ha])
    simp only [lexL] at h
    split at h
    · simp only [Option.some.injEq, Prod.mk.injEq] at h
      obtain ⟨rfl, rfl, rfl, _⟩ := h
      exact ⟨fun a ha => by simp at ha, by simp, by omega, readV_range _⟩
    · split at h
      · obtain ⟨x, hx, e⟩ := Option.map_eq_some_iff.1 h
        simp only [Prod.mk.injEq] at e
        obtain ⟨rfl, rfl, rfl, _⟩ := e
        have := str_len _ _ _ hx
        exact ⟨str_good _ _ _ hg2 hx, by simp only [List.length_cons]; omega, by omega, by omega, by omega⟩
      · split at h
        · obtain ⟨x, hx, e⟩ := Option.map_eq_some_iff.1 h
          simp only [Prod.mk.injEq] at e
          obtain ⟨rfl, rfl, rfl, _⟩ := e
          exact ⟨hg2.take _, by rw [List.length_take]; simp only [List.length_cons]; omega, by omega, by omega, by omega⟩
        · split at h
          · split at h
            · cases h
            · simp only [Option.some.injEq, Prod.mk.injEq] at h
              obtain ⟨h1, rfl, rfl, _⟩ := h
              refine ⟨hr.take _, by rw [List.length_take]; omega, ?_, by omega, by omega⟩
              split at h1
              · omega
              · split at h1 <;> omega
          · obtain ⟨g, hg, e⟩ := Option.map_eq_some_iff.1 h
            simp only [Prod.mk.injEq] at e
            obtain ⟨rfl, rfl, rfl, _⟩ := e
            have hp := List.find?_some hg
            have hp2 := List.isPrefixOf_iff_prefix.1 hp
            exact ⟨fun a ha => hr a (hp2.subset ha), hp2.length_le, by omega, by omega, by omega⟩
def Inc : Int → List S60 → Prop
  | _, [] => True
  | b, t :: l => b ≤ t.f3 ∧ Inc (t.f3 + 1) l
theorem Inc.le : ∀ {a b : Int} {l : List S60}, a ≤ b → Inc b l → Inc a l
  | _, _, [], _, _ => trivial
  | _, _, _ :: _, h, ⟨h1, h2⟩ => ⟨by omega, h2⟩
def key (t : S60) : Tk := (t.f0, bytesOf t.f1, t.f2)
theorem bytes_back (l : List Int) (h : Good l) : bytesOf (strOfNums l) = l := by
  unfold bytesOf
  rw [strOfNums_data, List.map_map]
  conv => rhs; rw [← List.map_id l]
  apply List.map_congr_left
  intro c hc
  have := h c hc
  show ((UInt8.ofNat c.toNat).toNat : Int) = c
  rw [UInt8.toNat_ofNat']; omega
theorem lexT_run : ∀ (f a : Nat) (r : List Int) (acc : List S60) (o : Bool) (out : List S60), Good r → r.length < f → lexT f a r acc o = (out, -1) → ∃ toks, Run o r (toks.map key) ∧ out = acc ++ toks ∧ Inc a toks
  | 0, a, r, acc, o, out, hg, hf, h => absurd hf (Nat.not_lt_zero _)
  | f + 1, a, r, acc, o, out, hg, hf, h => by
    simp only [lexT] at h
    have hsk := skip_le false r
    generalize hr : r.drop (skipN false r) = r' at h
    cases r' with
    | nil =>
      simp only [Prod.mk.injEq] at h
      exact ⟨[], .nil _ _ hr, by rw [h.1]; simp, trivial⟩
    | cons c l =>
      dsimp only at h
      generalize hx : lexL o (c :: l) = x at h
      cases x with
      | none => simp at h; omega
      | some x =>
        obtain ⟨k, S, N, n⟩ := x
        dsimp only at h
        have hl : (c :: l).length ≤ r.length := by rw [← hr, List.length_drop]; omega
        have hn := lex_len _ _ _ _ _ _ hx
        have hg2 : Good (c :: l) := by rw [← hr]; exact hg.drop _
        obtain ⟨toks, h1, h2, h3⟩ := lexT_run f _ _ _ _ out (hg2.drop n) (by rw [List.length_drop]; omega) h
        have hS := bytes_back S (lex_good _ _ hg2 _ _ _ _ hx).1
        refine ⟨⟨k, strOfNums S, N, ((a + skipN false r : Nat) : Int)⟩ :: toks, ?_, ?_, ?_⟩
        · show Run o r ((k, bytesOf (strOfNums S), N) :: toks.map key)
          rw [hS]
          exact .cons _ _ k S N n _ (by rw [hr]; exact hx) (by rw [hr]; exact h1)
        · rw [h2]; simp
        · refine ⟨by dsimp only; omega, h3.le ?_⟩
          dsimp only; omega
theorem run_lexT {o : Bool} {r : List Int} {l : List Tk} (h : Run o r l) : ∀ (f a : Nat) (acc : List S60), Good r → r.length < f → ∃ toks, lexT f a r acc o = (acc ++ toks, -1) ∧ toks.map key = l := by
  induction h with
  | nil o r h =>
    intro f a acc hg hf
    obtain ⟨f, rfl⟩ : ∃ m, f = m + 1 := ⟨f - 1, by omega⟩
    refine ⟨[], ?_, rfl⟩
    simp only [lexT]
    rw [h]; simp
  | cons o r k S N n l h1 h2 ih =>
    intro f a acc hg hf
    obtain ⟨f, rfl⟩ : ∃ m, f = m + 1 := ⟨f - 1, by omega⟩
    have hn := lex_len _ _ _ _ _ _ h1
    have hg2 := hg.drop (skipN false r)
    have hS := bytes_back S (lex_good _ _ hg2 _ _ _ _ h1).1
    rw [List.length_drop] at hn
    obtain ⟨toks, e1, e2⟩ := ih f (a + skipN false r + n) (acc ++ [⟨k, strOfNums S, N, ((a + skipN false r : Nat) : Int)⟩]) (hg2.drop n) (by rw [List.length_drop, List.length_drop]; omega)
    refine ⟨⟨k, strOfNums S, N, ((a + skipN false r : Nat) : Int)⟩ :: toks, ?_, ?_⟩
    · simp only [lexT]
      generalize r.drop (skipN false r) = r' at *
      cases r' with
      | nil => cases h1
      | cons c l =>
        dsimp only
        rw [h1]
        dsimp only
        rw [e1]; simp
    · simp only [List.map_cons, e2]
      show (k, bytesOf (strOfNums S), N) :: l = _
      rw [hS]
theorem nums_of_bytes (s : ByteArray) : strOfNums (bytesOf s) = s := by
  apply ByteArray.ext
  apply Array.ext'
  rw [strOfNums_data]
  unfold bytesOf
  rw [List.map_map]
  conv => rhs; rw [← List.map_id s.data.toList]
  apply List.map_congr_left
  intro c _
  simp
theorem bytes_inj {a b : ByteArray} (h : bytesOf a = bytesOf b) : a = b := by rw [← nums_of_bytes a, h, nums_of_bytes]
theorem toList_iff (a b : ByteArray) : a.toList = b.toList ↔ bytesOf a = bytesOf b := by
  constructor
  · intro h
    rw [ByteArray.toList_eq, ByteArray.toList_eq] at h
    unfold bytesOf; rw [h]
  · intro h; rw [bytes_inj h]
theorem bytes_good (s : ByteArray) : Good (bytesOf s) := by
  intro c hc
  unfold bytesOf at hc
  obtain ⟨b, _, rfl⟩ := List.mem_map.1 hc
  have := b.toNat_lt
  omega
theorem bytes_size (s : ByteArray) : (bytesOf s).length = s.size := by unfold bytesOf; rw [List.length_map]; exact Array.length_toList ..
theorem extract_nums (s : ByteArray) (i j : Nat) : s.extract i j = strOfNums (((bytesOf s).drop i).take (j - i)) := by rw [← bytesOf_extract, nums_of_bytes]
theorem bytes_drop (s : ByteArray) (i : Nat) (h : i < s.size) : (bytesOf s).drop i = bt s (i : Int) :: (bytesOf s).drop (i + 1) := by
  have hl : i < (bytesOf s).length := by rw [bytes_size]; exact h
  rw [List.drop_eq_getElem_cons hl]
  congr 1
  rw [bt_nat h]
  simp only [bytesOf, List.getElem_map, Array.getElem_toList]
  rfl
theorem bytes_end (s : ByteArray) (i : Nat) (h : s.size ≤ i) : (bytesOf s).drop i = [] := List.drop_eq_nil_iff.2 (by rw [bytes_size]; exact h)
theorem run_list (p : Int → Bool) (s : ByteArray) (d : Nat) : ∀ i, i ≤ s.size → s.size - i = d → Q.runN p s i = runL p ((bytesOf s).drop i) := by
  induction d with
  | zero =>
    intro i hi hd
    rw [runN_end (by omega), bytes_end s i (by omega)]; rfl
  | succ d ih =>
    intro i hi hd
    have hlt : i < s.size := by omega
    rw [bytes_drop s i hlt]
    simp only [runL]
    by_cases hp : p (bt s (i : Int)) = true
    · rw [if_pos hp, runN_hit hlt hp, ih (i + 1) (by omega) (by omega)]
    · rw [if_neg hp, runN_miss hlt (Bool.eq_false_iff.mpr hp)]
theorem run_dg (s : ByteArray) (hs : s.size ≤ 4000) (i : Nat) (hi : i ≤ s.size) : impl_run.f s (i : Int) 100 = some ((runL isDg ((bytesOf s).drop i) : Nat) : Int) := by
  unfold impl_run.f
  rw [if_pos ⟨by omega, by omega, by omega⟩, if_neg (by decide), if_pos rfl, Int.toNat_natCast, run_list isDg s _ i hi rfl]
theorem run_nm (s : ByteArray) (hs : s.size ≤ 4000) (i : Nat) (hi : i ≤ s.size) : impl_run.f s (i : Int) 110 = some ((runL isNm ((bytesOf s).drop i) : Nat) : Int) := by
  unfold impl_run.f
  rw [if_pos ⟨by omega, by omega, by omega⟩, if_neg (by decide), if_neg (by decide), if_pos rfl, Int.toNat_natCast, run_list isNm s _ i hi rfl]
theorem run_nl (s : ByteArray) (hs : s.size ≤ 4000) (i : Nat) (hi : i ≤ s.size) : impl_run.f s (i : Int) 77 = some ((runL isNl ((bytesOf s).drop i) : Nat) : Int) := by
  unfold impl_run.f
  rw [if_pos ⟨by omega, by omega, by omega⟩, if_neg (by decide), if_neg (by decide), if_neg (by decide), if_pos rfl, Int.toNat_natCast, run_list isNl s _ i hi rfl]
theorem impl_dg (c : Int) : impl_isDigit.f c = some (isDg c) := by
  unfold impl_isDigit.f isDg
  by_cases h : 48 ≤ c <;> simp [h]
theorem impl_sp (c : Int) : impl_isSpace.f c = some (isSp c) := by
  unfold impl_isSpace.f isSp
  by_cases h : c = 32
  · simp [h]
  · by_cases h2 : c = 9
    · simp [h2]
    · rw [if_neg h, if_neg h2]
      have e1 : (c == 32) = false := by simpa using h
      have e2 : (c == 9) = false := by simpa using h2
      rw [e1, e2]; rfl
theorem impl_lt (c : Int) : impl_isLetter.f c = some (isLt c) := by
  unfold impl_isLetter.f isLt
  by_cases h1 : 65 ≤ c <;> by_cases h2 : c ≤ 90 <;> by_cases h3 : 97 ≤ c <;> by_cases h4 : c ≤ 122 <;> simp [h1, h2, h3, h4]
theorem impl_opnd (k : Int) (S : ByteArray) (N a : Int) : impl_endsOperand.f k S N a = some (opnd k (bytesOf S)) := by
  unfold impl_endsOperand.f opnd
  by_cases h1 : k = 1
  · simp [h1]
  by_cases h2 : k = 2
  · simp [h2]
  by_cases h3 : k = 3
  · simp [h3]
  by_cases h4 : k = 4
  · simp [h4]
  rw [if_neg h1, if_neg h2, if_neg h3, if_neg h4]
  have e1 : (S.toList = ([41] : List UInt8)) ↔ bytesOf S = [41]   := by
    have h := toList_iff S ⟨#[41]⟩
    rw [show (⟨#[41]⟩ : ByteArray).toList = [41] by rw [ByteArray.toList_eq], show bytesOf ⟨#[41]⟩ = [41] from rfl] at h
    exact h
  have e2 : (S.toList = ([93] : List UInt8)) ↔ bytesOf S = [93] := by
    have h := toList_iff S ⟨#[93]⟩
    rw [show (⟨#[93]⟩ : ByteArray).toList = [93] by rw [ByteArray.toList_eq], show bytesOf ⟨#[93]⟩ = [93] from rfl] at h
    exact h
  by_cases h7 : k = 7
  · rw [if_pos h7]
    subst h7
    by_cases c : bytesOf S = [41]
    · rw [if_pos (e1.2 c), c]; rfl
    · rw [if_neg (fun h => c (e1.1 h))]
      have e3 : (S.toList == ([93] : List UInt8)) = (bytesOf S == [93]) := by
        rw [Bool.eq_iff_iff, beq_iff_eq, beq_iff_eq]; exact e2
      rw [e3]
      simp [c]
  · rw [if_neg h7]
    simp [h1, h2, h3, h4, h7]
theorem esc_at (x : Int) (h : 0 ≤ x ∧ x ≤ 255) : ∃ j, strings_IndexByte.f (⟨#[110, 116, 34, 92]⟩ : ByteArray) x = some j ∧ (escL x = none → j < 0) ∧ (∀ e, escL x = some e → 0 ≤ j ∧ j < 4 ∧ bt (⟨#[10, 9, 34, 92]⟩ : ByteArray) j = e) := by
  have key : ∀ n : Fin 256, (match escL (n.val : Int) with | none => decide (Lib.indexByte [110, 116, 34, 92] ((n.val : Int).toNat.toUInt8) < 0) | some e => decide (0 ≤ Lib.indexByte [110, 116, 34, 92] ((n.val : Int).toNat.toUInt8) ∧ Lib.indexByte [110, 116, 34, 92] ((n.val : Int).toNat.toUInt8) < 4 ∧ bt (⟨#[10, 9, 34, 92]⟩ : ByteArray) (Lib.indexByte [110, 116, 34, 92] ((n.val : Int).toNat.toUInt8)) = e)) = true := by decide +kernel
  have hx := key ⟨x.toNat, by omega⟩
  have e : (((⟨x.toNat, by omega⟩ : Fin 256)).val : Int) = x := by dsimp only; omega
  rw [e] at hx
  refine ⟨_, rfl, ?_, ?_⟩
  · intro hn; rw [hn] at hx; exact of_decide_eq_true hx
  · intro e he; rw [he] at hx; exact of_decide_eq_true hx
theorem bt_range (s : ByteArray) (i : Nat) (h : i < s.size) : 0 ≤ bt s (i : Int) ∧ bt s (i : Int) ≤ 255 := by
  rw [bt_nat h]
  have := (s[i]).toNat_lt
  omega
end Go.Proofs.YtnfiljnncpieoaaDoor.Pure
