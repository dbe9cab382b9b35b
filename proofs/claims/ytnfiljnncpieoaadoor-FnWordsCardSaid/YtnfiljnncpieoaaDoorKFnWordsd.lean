/- What the row of FnWords rests on, and the row: for every input that can be read the call returns true and the input reads as it did; condition: what the row lists of the library reads as the program lays it. -/
import Derived.Test.YtnfiljnncpieoaaDoorKFnWordsc
set_option linter.unusedVariables false
set_option linter.unusedSimpArgs false
namespace Go.Proofs.YtnfiljnncpieoaaDoor.Q
open Go.RowKit Go.Proofs.YtnfiljnncpieoaaDoorW.PrintWords Go.Proofs.YtnfiljnncpieoaaDoorW.PrintLast Go.Proofs.YtnfiljnncpieoaaDoorW.PrintMore
attribute [local go_sem] max2_int min2_int max_two min_two max_three min_three max_four min_four   -- for this text's walks alone
set_option linter.unusedVariables false
set_option linter.unusedSimpArgs false
set_option maxHeartbeats 8000000 in
set_option maxRecDepth 100000 in
theorem impl_Lex.calls (k : Nat) (a0 : ByteArray) (r1 : List (S60)) (r2 : Int) (w : World) (h : impl_Lex.f k a0 = some (r1,r2)) (hT : Tabs w:=by first|assumption|(refine Aside0.out (p:=Tabs _) ?_;assumption)|(refine Tabs.below (w:=?ww) (Aside0.out ?ha) ?hb;(case ha=>assumption);(case hb=>repeat (first|(with_reducible first|exact Below.refl _ _|(refine Aside0.out ?_;assumption)|apply below_alloc|apply pw_below_drewN|apply below_drew1|(refine below_set ?_ (Aside0.out ?_);(rotate_left;assumption)))|(refine Aside0.out ?_;assumption))))|(refine Tabs.drewN (w:=?ww) (Aside0.out ?ha) _;(case ha=>assumption))) :
  Calls Tryd.prog 39 #[.string a0] w fun e w'=>∃ v0_ : Value,e = .returned (.tuple #[v0_,.int .i64 r2]) ∧ Kd.R k60 60 w' w.heap.size (fun _=>True) v0_ r1 ∧ Below w.heap.size w w':=by
 have HT_:=Aside0.mk hT
 clear hT
 have hu60:=Tryd.underlying60
 have HB:=Aside0.mk (Below.refl w.heap.size w)
 have H : (if (a0.size : Int) > 4000 then (some (([] : List (S60)),0)) else (impl_Lex.l0 k a0 (([] : List (S60))) 0 0 (⟨#[]⟩ : ByteArray) 0 0)) = some (r1,r2):=h
 clear h
 by_cases c2 : (a0.size : Int) > 4000
 ·rw [if_pos c2] at H
  have c2b0 : decide (4000 < (a0.size : Int)) = true:=decide_eq_true c2
  have c2b1 : decide (4000 < a0.size) = true:=decide_eq_true (by omega)
  clear c2
  simp only [Option.some.injEq,Prod.mk.injEq] at H
  obtain ⟨rfl,rfl⟩:=H
  go_enter Tryd.func39,Tryd.ntmps39
  go_wp2
  go_ret2
  exact ⟨_,by first|rfl|(simp [errW_none,errW_some] <;> rfl)|(simp [*,errW_none,errW_some] <;> rfl),by first|exact Kd.R_nil _ _ _ _ _|exact Kd.N_nil _ _ _ _ _|exact Kd.V_nil _ _ _ _ _|exact Kd.Q_nil _ _ _ _ _|exact Kd.S_nil _ _ _ _ _,by repeat (first|(with_reducible first|exact HB.out|apply below_alloc|apply pw_below_drewN|apply below_drew1)|exact HB.out)⟩
 ·rw [if_neg c2] at H
  have c2b0 : decide (4000 < (a0.size : Int)) = false:=decide_eq_false c2
  have c2b1 : decide (4000 < a0.size) = false:=decide_eq_false (by omega)
  clear c2
  obtain ⟨y642,hy642⟩ : ∃ y_ : List (S60),y_ = (([] : List (S60))):=⟨_,rfl⟩
  replace H : (impl_Lex.l0 k a0 y642 0 0 (⟨#[]⟩ : ByteArray) 0 0) = some (r1,r2):=by first|(rw [hy642];with_reducible exact H)|(have H2_:=(Option.bind_some _ _).symm.trans H;rw [hy642];with_reducible exact H2_)|(have H2_:=(Option.bind_some _ _).symm.trans H;with_reducible exact H2_)|with_reducible exact H|(rw [hy642];exact H)|exact H
  have Ny642:=Aside0.mk hy642
  clear hy642
  have H':=Aside0.mk H
  clear H
  go_enter Tryd.func39,Tryd.ntmps39
  go_wp2_with (first|((with_reducible refine gate_dst (N:=12) rfl ?_);refine Kd.R_lit k60 _ 60 ?hg (N:=12) ?hd (xs:=([] : List (S60))) (inner:=[]) (ok:=fun _=>True) (okp:=fun _=>True) ?hr ?hp (fun _ hk=>hk) trivial (Below.refl _ _) (Nat.le_refl _) (by simp) ?_;(case hd=>rfl);(case hg=>rfl);(case hr=>first|(go_simp;done)|(go_simp;rfl));(case hp=>exact (Reps.none _ _));intro v643 w3 ho4 hb hg_ hnew_;clear hg_ hnew_;(first|rw [← Ny642.out] at ho4|(simp only [Int.reduceToNat] at ho4;rw [← Ny642.out] at ho4));have n0_:=Aside0.mk (Kd.R_lower ho4 (below_size (by repeat (first|(with_reducible first|exact HB.out|apply below_alloc|apply pw_below_drewN|apply below_drew1)|exact HB.out))));have n1_:=Aside0.mk (below_step (by repeat (first|(with_reducible first|exact HB.out|apply below_alloc|apply pw_below_drewN|apply below_drew1)|exact HB.out)) hb);clear HB;have HO644:=n0_;have HB:=n1_;clear n0_ n1_;clear hb ho4)|((with_reducible refine gate_dst (N:=5) rfl ?_);refine box_event ?hg (N:=5) ?hd (cs:=#[.int .i64 0,.string (⟨#[]⟩ : ByteArray),.int .i64 0,.int .i64 0]) (t:=60) ?hr ?_;(case hd=>rfl);(case hg=>rfl);(case hr=>first|(go_simp;done)|(go_simp;rfl));intro gb645 hg w5 hbox hb;have n0_:=Aside0.mk (Kd.R_below (Kd.R_elderB (by (with_reducible repeat (first|apply Kd.R_alloc|apply Kd.R_drewN|apply Kd.R_drew));exact HO644.out) gb645 (Nat.le_of_eq hg.symm)) hb);have n1_:=Aside0.mk (below_step (by repeat (first|(with_reducible first|exact HB.out|apply below_alloc|apply pw_below_drewN|apply below_drew1)|exact HB.out)) hb);have n2_:=Aside0.mk (hbox);have n3_:=Aside0.mk ((by rw [hg];exact (below_size (by repeat (first|(with_reducible first|exact HB.out|apply below_alloc|apply pw_below_drewN|apply below_drew1)|exact HB.out))) : w.heap.size ≤ gb645));have n4_:=Aside0.mk ((by rw [hg];exact (below_size (by repeat (first|(with_reducible first|exact HB.out|apply below_alloc|apply pw_below_drewN|apply below_drew1)|exact HB.out))) : w.heap.size ≤ gb645));clear HO644;clear HB;have HO644:=n0_;have HB:=n1_;have BK645:=n2_;have GW645:=n3_;have GE645:=n4_;clear n0_ n1_ n2_ n3_ n4_;clear hb hbox hg;have hcz6_0 : w5.cell? ⟨gb645,0,none⟩ = some (.int .i64 0):=(blk_cell BK645.out 0).trans rfl;have hcz6_1 : w5.cell? ⟨gb645,1,none⟩ = some (.string (⟨#[]⟩ : ByteArray)):=(blk_cell BK645.out 1).trans rfl;have hcz6_2 : w5.cell? ⟨gb645,2,none⟩ = some (.int .i64 0):=(blk_cell BK645.out 2).trans rfl;have hcz6_3 : w5.cell? ⟨gb645,3,none⟩ = some (.int .i64 0):=(blk_cell BK645.out 3).trans rfl;have hfz6_0:=blk_frozen BK645.out 0;have hfz6_1:=blk_frozen BK645.out 1;have hfz6_2:=blk_frozen BK645.out 2;have hfz6_3:=blk_frozen BK645.out 3))
  go_loopg [4,6] k (fun kq v4 v6 w'=>∃ (x4_1 : List (S60)) (x6_1 : Int) (x646000_1 : Int) (x646001_1 : ByteArray) (x646002_1 : Int) (x646003_1 : Int),v6 = .int .i64 x6_1 ∧ Aside0 (impl_Lex.l0 kq a0 x4_1 x6_1 x646000_1 x646001_1 x646002_1 x646003_1 = some (r1,r2)) ∧ Aside0 (kq ≤ k) ∧ Aside0 (Kd.R k60 60 w' w.heap.size (fun k_=>k_ ≠ gb645) v4 x4_1) ∧ Aside0 (w'.heap[gb645]? = some (.cells #[.int .i64 x646000_1,.string x646001_1,.int .i64 x646002_1,.int .i64 x646003_1] 60 (0,0))) ∧ Aside0 (Below w.heap.size w w'))
  case atStart=>exact ⟨(y642),(0),(0),((⟨#[]⟩ : ByteArray)),(0),(0),(by first|rfl|(simp;done)|(simp [*];done)),H',⟨Nat.le_refl _⟩,⟨by (with_reducible repeat (first|apply Kd.R_alloc|apply Kd.R_drewN|apply Kd.R_drew));exact Kd.R_mono (Kd.R_far (p:=⟨gb645,3,none⟩) (Kd.R_far (p:=⟨gb645,2,none⟩) (Kd.R_far (p:=⟨gb645,1,none⟩) (Kd.R_far (p:=⟨gb645,0,none⟩) (Kd.R_mono HO644.out (fun k_ hk=>(⟨hk,hk.2⟩ : _ ∧ k_ ≠ gb645))) (fun _ hk=>hk.2) (.int .i64 0)) (fun _ hk=>hk.2) (.string (⟨#[]⟩ : ByteArray))) (fun _ hk=>hk.2) (.int .i64 0)) (fun _ hk=>hk.2) (.int .i64 0)) (fun _ hk=>hk.1.2)⟩,⟨by (with_reducible repeat (first|refine blk_drewN ?_ _|refine blk_drew ?_|refine blk_alloc ?_ _));refine blk_put (cs:=#[.int .i64 0,.string (⟨#[]⟩ : ByteArray),.int .i64 0,.int .i64 0]) ?_ 3 _ rfl;(with_reducible repeat (first|refine blk_drewN ?_ _|refine blk_drew ?_|refine blk_alloc ?_ _));refine blk_put (cs:=#[.int .i64 0,.string (⟨#[]⟩ : ByteArray),.int .i64 0,.int .i64 0]) ?_ 2 _ rfl;(with_reducible repeat (first|refine blk_drewN ?_ _|refine blk_drew ?_|refine blk_alloc ?_ _));refine blk_put (cs:=#[.int .i64 0,.string (⟨#[]⟩ : ByteArray),.int .i64 0,.int .i64 0]) ?_ 1 _ rfl;(with_reducible repeat (first|refine blk_drewN ?_ _|refine blk_drew ?_|refine blk_alloc ?_ _));refine blk_put (cs:=#[.int .i64 0,.string (⟨#[]⟩ : ByteArray),.int .i64 0,.int .i64 0]) ?_ 0 _ rfl;(with_reducible repeat (first|refine blk_drewN ?_ _|refine blk_drew ?_|refine blk_alloc ?_ _));exact BK645.out⟩,⟨by repeat (first|(with_reducible first|exact HB.out|apply below_alloc|apply pw_below_drewN|apply below_drew1|refine below_set ?_ GE645.out)|exact HB.out)⟩⟩
  case round =>
   clear H'
   try clear c2
   try clear c2b0
   try clear c2b1
   try clear p2
   try clear c3
   try clear hcz6_0
   try clear hcz6_1
   try clear hcz6_2
   try clear hcz6_3
   try clear hfz6_0
   try clear hfz6_1
   try clear hfz6_2
   try clear hfz6_3
   obtain ⟨x4_1,x6_1,x646000_1,x646001_1,x646002_1,x646003_1,rfl,HA,HK1,HO_4,BK645,HB⟩:=hrel
   cases gk with
   | zero=>exact absurd HA.out (by simp [impl_Lex.l0])
   | succ k1 =>
    have H:=HA.out
    clear HA
    simp only [impl_Lex.l0] at H
    by_cases c7 : x6_1 < (a0.size : Int)
    ·rw [if_pos c7] at H
     have c7b0 : decide (x6_1 < (a0.size : Int)) = true:=decide_eq_true c7
     clear c7
     by_cases c8 : 0 ≤ x6_1
     ·rw [if_pos c8] at H
      have c8b0 : decide (0 ≤ x6_1) = true:=decide_eq_true c8
      clear c8
      replace H:=Option.bind_eq_some_iff.mp H
      obtain ⟨t646,A100,H⟩:=H
      replace H : (if t646 = true then (impl_Lex.l0 k1 a0 x4_1 (wrap64 (x6_1 + 1)) x646000_1 x646001_1 x646002_1 x646003_1) else (if (bt a0 x6_1) = 35 then ((impl_run.f a0 x6_1 77).bind fun t647=>(impl_Lex.l0 k1 a0 x4_1 (wrap64 (x6_1 + t647)) x646000_1 x646001_1 x646002_1 x646003_1)) else (if x6_1 ≤ (a0.size : Int) then ((impl_lexOne.f k1 (a0.extract (x6_1 : Int).toNat a0.size) x646000_1 x646001_1 x646002_1 x646003_1).bind fun bt648=>(if bt648.2.2.2.2 = 0 then (some (([] : List (S60)),x6_1)) else (if x4_1.length < 3518437208883 then (impl_Lex.l0 k1 a0 (x4_1 ++ [(⟨bt648.1,bt648.2.1,bt648.2.2.1,x6_1⟩ : S60)]) (wrap64 (x6_1 + bt648.2.2.2.2)) bt648.1 bt648.2.1 bt648.2.2.1 x6_1) else (none)))) else (none)))) = some (r1,r2):=H
      have A10:=Aside0.mk A100
      clear A100
      by_cases c11 : t646 = true
      ·subst c11
       have H1 : (impl_Lex.l0 k1 a0 x4_1 (wrap64 (x6_1 + 1)) x646000_1 x646001_1 x646002_1 x646003_1) = some (r1,r2):=by rw [if_pos rfl] at H;exact H
       clear H
       have H:=H1
       clear H1
       have H':=Aside0.mk H
       clear H
       have p9 : 0 ≤ (x6_1 : Int):=of_decide_eq_true (by first|(with_reducible assumption)|assumption)
       have q9 : x6_1 < (a0.size : Int):=of_decide_eq_true (by first|(with_reducible assumption)|assumption)
       have hx9:=bt_at a0 x6_1
       replace p9:=eq_true p9
       replace q9:=eq_true q9
       go_wp2_with (first|((with_reducible refine gate_callee (f:=75) rfl ?_);refine goesL_ (some 22) rfl rfl Tryd.func75 (by kernel_rfl) rfl #[.int .u8 (bt a0 x6_1)] rfl (by (try simp only [List.map_toArray,List.map_cons,List.map_nil]);first|done|rfl|(simp only [List.length_drop,List.length_take];rfl)) ?_;(with_reducible refine (impl_isSpace.calls (bt a0 x6_1) true _ A10.out).mono ?_);rintro e w' ⟨rfl,⟨nd,rfl⟩⟩;refine ⟨_,rfl,?_⟩))
       go_roundg k1
       case measure=>have:=HK1.out;omega
       case rel=>exact ⟨(x4_1),(wrap64 (x6_1 + 1)),(x646000_1),(x646001_1),(x646002_1),(x646003_1),(by first|rfl|(simp;done)|(simp [*];done)),H',⟨by have:=HK1.out;omega⟩,⟨by (with_reducible repeat (first|apply Kd.R_alloc|apply Kd.R_drewN|apply Kd.R_drew));exact HO_4.out⟩,⟨by (with_reducible repeat (first|refine blk_drewN ?_ _|refine blk_drew ?_|refine blk_alloc ?_ _));exact BK645.out⟩,⟨by repeat (first|(with_reducible first|exact HB.out|apply below_alloc|apply pw_below_drewN|apply below_drew1|refine below_set ?_ GE645.out)|exact HB.out)⟩⟩
      ·replace c11:=Bool.eq_false_iff.mpr c11
       subst c11
       have H1 : (if (bt a0 x6_1) = 35 then ((impl_run.f a0 x6_1 77).bind fun t647=>(impl_Lex.l0 k1 a0 x4_1 (wrap64 (x6_1 + t647)) x646000_1 x646001_1 x646002_1 x646003_1)) else (if x6_1 ≤ (a0.size : Int) then ((impl_lexOne.f k1 (a0.extract (x6_1 : Int).toNat a0.size) x646000_1 x646001_1 x646002_1 x646003_1).bind fun bt648=>(if bt648.2.2.2.2 = 0 then (some (([] : List (S60)),x6_1)) else (if x4_1.length < 3518437208883 then (impl_Lex.l0 k1 a0 (x4_1 ++ [(⟨bt648.1,bt648.2.1,bt648.2.2.1,x6_1⟩ : S60)]) (wrap64 (x6_1 + bt648.2.2.2.2)) bt648.1 bt648.2.1 bt648.2.2.1 x6_1) else (none)))) else (none))) = some (r1,r2):=by rw [if_neg (show ¬ (false = true) by decide)] at H;exact H
       clear H
       have H:=H1
       clear H1
       by_cases c13 : (bt a0 x6_1) = 35
       ·rw [if_pos c13] at H
        have c13b0 : ((bt a0 x6_1) == 35) = true:=beq_iff_eq.mpr c13
        have c13b1 : ((bt a0 x6_1) != 35) = false:=bne_eq_false_iff_eq.mpr c13
        clear c13
        replace H:=Option.bind_eq_some_iff.mp H
        obtain ⟨t647,A140,H⟩:=H
        replace H : (impl_Lex.l0 k1 a0 x4_1 (wrap64 (x6_1 + t647)) x646000_1 x646001_1 x646002_1 x646003_1) = some (r1,r2):=H
        have A14:=Aside0.mk A140
        clear A140
        have H':=Aside0.mk H
        clear H
        have p9 : 0 ≤ (x6_1 : Int):=of_decide_eq_true (by first|(with_reducible assumption)|assumption)
        have q9 : x6_1 < (a0.size : Int):=of_decide_eq_true (by first|(with_reducible assumption)|assumption)
        have hx9:=bt_at a0 x6_1
        replace p9:=eq_true p9
        replace q9:=eq_true q9
        go_wp2_with (first|((with_reducible refine gate_callee (f:=75) rfl ?_);refine goesL_ (some 22) rfl rfl Tryd.func75 (by kernel_rfl) rfl #[.int .u8 (bt a0 x6_1)] rfl (by (try simp only [List.map_toArray,List.map_cons,List.map_nil]);first|done|rfl|(simp only [List.length_drop,List.length_take];rfl)) ?_;(with_reducible refine (impl_isSpace.calls (bt a0 x6_1) false _ A10.out).mono ?_);rintro e w' ⟨rfl,⟨nd,rfl⟩⟩;refine ⟨_,rfl,?_⟩;have p12 : 0 ≤ (x6_1 : Int):=of_decide_eq_true (by first|(with_reducible assumption)|assumption);have q12 : x6_1 < (a0.size : Int):=of_decide_eq_true (by first|(with_reducible assumption)|assumption);have hx12:=bt_at a0 x6_1;replace p12:=eq_true p12;replace q12:=eq_true q12)|((with_reducible refine gate_callee (f:=76) rfl ?_);refine goesL_ (some 33) rfl rfl Tryd.func76 (by kernel_rfl) rfl #[.string a0,.int .i64 x6_1,.func (.func 77) #[] #[]] rfl (by (try simp only [List.map_toArray,List.map_cons,List.map_nil]);first|done|rfl|(simp only [List.length_drop,List.length_take];rfl)) ?_;(with_reducible refine (impl_run.calls a0 x6_1 77 t647 _ A14.out).mono ?_);rintro e w' ⟨rfl,⟨nd,rfl⟩⟩;refine ⟨_,rfl,?_⟩))
        go_roundg k1
        case measure=>have:=HK1.out;omega
        case rel=>exact ⟨(x4_1),(wrap64 (x6_1 + t647)),(x646000_1),(x646001_1),(x646002_1),(x646003_1),(by first|rfl|(simp;done)|(simp [*];done)),H',⟨by have:=HK1.out;omega⟩,⟨by (with_reducible repeat (first|apply Kd.R_alloc|apply Kd.R_drewN|apply Kd.R_drew));exact HO_4.out⟩,⟨by (with_reducible repeat (first|refine blk_drewN ?_ _|refine blk_drew ?_|refine blk_alloc ?_ _));exact BK645.out⟩,⟨by repeat (first|(with_reducible first|exact HB.out|apply below_alloc|apply pw_below_drewN|apply below_drew1|refine below_set ?_ GE645.out)|exact HB.out)⟩⟩
       ·rw [if_neg c13] at H
        have c13b0 : ((bt a0 x6_1) == 35) = false:=beq_eq_false_iff_ne.mpr c13
        have c13b1 : ((bt a0 x6_1) != 35) = true:=bne_iff_ne.mpr c13
        have c15b0:=eq_true (of_decide_eq_true (by first|(with_reducible assumption)|assumption) : 0 ≤ x6_1)
        by_cases c16 : x6_1 ≤ (a0.size : Int)
        ·rw [if_pos c16] at H
         have c16b0:=eq_true c16
         have c16b1 : decide (x6_1 ≤ (a0.size : Int)) = true:=decide_eq_true c16
         clear c16
         replace H:=Option.bind_eq_some_iff.mp H
         obtain ⟨⟨t648,t649,t650,t651,t652⟩,A170,H⟩:=H
         replace H : (if t652 = 0 then (some (([] : List (S60)),x6_1)) else (if x4_1.length < 3518437208883 then (impl_Lex.l0 k1 a0 (x4_1 ++ [(⟨t648,t649,t650,x6_1⟩ : S60)]) (wrap64 (x6_1 + t652)) t648 t649 t650 x6_1) else (none))) = some (r1,r2):=H
         have A17:=Aside0.mk A170
         clear A170
         by_cases c18 : t652 = 0
         ·rw [if_pos c18] at H
          have c18b0 : (t652 == 0) = true:=beq_iff_eq.mpr c18
          have c18b1 : (t652 != 0) = false:=bne_eq_false_iff_eq.mpr c18
          clear c18
          simp only [Option.some.injEq,Prod.mk.injEq] at H
          obtain ⟨rfl,rfl⟩:=H
          have p9 : 0 ≤ (x6_1 : Int):=of_decide_eq_true (by first|(with_reducible assumption)|assumption)
          have q9 : x6_1 < (a0.size : Int):=of_decide_eq_true (by first|(with_reducible assumption)|assumption)
          have hx9:=bt_at a0 x6_1
          replace p9:=eq_true p9
          replace q9:=eq_true q9
          try go_wp2_with (first|((with_reducible refine gate_callee (f:=75) rfl ?_);refine goesL_ (some 22) rfl rfl Tryd.func75 (by kernel_rfl) rfl #[.int .u8 (bt a0 x6_1)] rfl (by (try simp only [List.map_toArray,List.map_cons,List.map_nil]);first|done|rfl|(simp only [List.length_drop,List.length_take];rfl)) ?_;(with_reducible refine (impl_isSpace.calls (bt a0 x6_1) false _ A10.out).mono ?_);rintro e w' ⟨rfl,⟨nd,rfl⟩⟩;refine ⟨_,rfl,?_⟩;(try (rw [drewN_self wr];generalize hq_ : World.drewN wr _ = wr;have n0_ : Aside0 (Kd.R k60 60 wr w.heap.size (fun k_=>k_ ≠ gb645) u4 x4_1):=⟨by rw [← hq_];exact (by (with_reducible repeat (first|apply Kd.R_alloc|apply Kd.R_drewN|apply Kd.R_drew));exact HO_4.out)⟩;have n1_ : Aside0 (wr.heap[gb645]? = some (.cells #[.int .i64 x646000_1,.string x646001_1,.int .i64 x646002_1,.int .i64 x646003_1] 60 (0,0))):=⟨by rw [← hq_];exact (by (with_reducible repeat (first|refine blk_drewN ?_ _|refine blk_drew ?_|refine blk_alloc ?_ _));exact BK645.out)⟩;have n2_ : Aside0 (Below w.heap.size w wr):=⟨by rw [← hq_];exact (by repeat (first|(with_reducible first|exact HB.out|apply below_alloc|apply pw_below_drewN|apply below_drew1|refine below_set ?_ GE645.out)|exact HB.out))⟩;clear HO_4 BK645 HB hq_;have HO_4:=n0_;have BK645:=n1_;have HB:=n2_;clear n0_ n1_ n2_));have p12 : 0 ≤ (x6_1 : Int):=of_decide_eq_true (by first|(with_reducible assumption)|assumption);have q12 : x6_1 < (a0.size : Int):=of_decide_eq_true (by first|(with_reducible assumption)|assumption);have hx12:=bt_at a0 x6_1;replace p12:=eq_true p12;replace q12:=eq_true q12))
          have n0_:=Aside0.mk (Kd.R_drew HO_4.out)
          have n1_:=Aside0.mk (blk_drew BK645.out)
          have n2_:=Aside0.mk (below_drew1 HB.out)
          clear HO_4
          clear BK645
          clear HB
          have HO_4:=n0_
          have BK645:=n1_
          have HB:=n2_
          clear n0_ n1_ n2_
          refine start_ (n:=11) (S:=fun w'=>w'.cell? ⟨gb645,0,none⟩ = some (.int .i64 x646000_1) ∧ w'.cell? ⟨gb645,1,none⟩ = some (.string x646001_1) ∧ w'.cell? ⟨gb645,2,none⟩ = some (.int .i64 x646002_1) ∧ w'.cell? ⟨gb645,3,none⟩ = some (.int .i64 x646003_1)) (ds:=[]) #[false,false,false,false,false,false,false,false,false,false,false] (by kernel_rfl) rfl rfl ⟨(blk_cell BK645.out 0).trans rfl,(blk_cell BK645.out 1).trans rfl,(blk_cell BK645.out 2).trans rfl,(blk_cell BK645.out 3).trans rfl⟩ (fun hHeld=>?_);refine with_tabW impl_Lex.tab10 impl_Lex.bits10 (fun HT_ HW_=>?_)
          generalize wr.drew = w19 at HO_4 BK645 HB hHeld ⊢
          refine pure_ (i:=0) (N:=some 36) (v:=?_) (a':=?_) #[true,false,false,false,false,false,false,false,false,false,false] rfl rfl (any_of HT_.out (by kernel_rfl)) (fun _ _ _ h=>h) (Or.inl ⟨by rfl,?_⟩) ?_ ?_
          rotate_left
          ·intro w'
           go_simp
           first|with_reducible rfl|(rw [if_neg (by simp only [ByteArray.size_append,ByteArray.size_extract,eq_iff_iff,iff_true,iff_false] at *;omega)];try with_reducible rfl)
          rotate_left
          ·simp only [Act.put,List.setIfInBounds_toArray,List.set_cons_zero,List.set_cons_succ,i64_w,i32_w]
           rfl
          refine pure_ (i:=1) (N:=some 37) (v:=?_) (a':=?_) #[true,true,false,false,false,false,false,false,false,false,false] rfl rfl (any_of HT_.out (by kernel_rfl)) (fun _ _ _ h=>h) (Or.inl ⟨by rfl,?_⟩) ?_ ?_
          rotate_left
          ·intro w'
           go_simp
           first|with_reducible rfl|(rw [if_neg (by simp only [ByteArray.size_append,ByteArray.size_extract,eq_iff_iff,iff_true,iff_false] at *;omega)];try with_reducible rfl)
          rotate_left
          ·simp only [Act.put,List.setIfInBounds_toArray,List.set_cons_zero,List.set_cons_succ,i64_w,i32_w]
           rfl
          refine pure_ (i:=2) (N:=some 38) (v:=?_) (a':=?_) #[true,true,true,false,false,false,false,false,false,false,false] rfl rfl (any_of HT_.out (by kernel_rfl)) (fun _ _ _ h=>h) (Or.inl ⟨by rfl,?_⟩) ?_ ?_
          rotate_left
          ·intro w'
           go_simp
           first|with_reducible rfl|(rw [if_neg (by simp only [ByteArray.size_append,ByteArray.size_extract,eq_iff_iff,iff_true,iff_false] at *;omega)];try with_reducible rfl)
          rotate_left
          ·simp only [Act.put,List.setIfInBounds_toArray,List.set_cons_zero,List.set_cons_succ,i64_w,i32_w]
           rfl
          refine take_ (i:=3) (N:=some 39) (v:=?_) (a':=?_) #[true,true,true,true,false,false,false,false,false,false,false] rfl rfl (take_ofW HT_.out HW_.out (by kernel_rfl)) (fun _ _ _ h=>h) (Or.inl ⟨by rfl,?_⟩) hHeld ?_ ?_
          rotate_left
          ·rintro w' ⟨s0,s1,s2,s3⟩
           go_simp
           first|with_reducible rfl|(rw [if_neg (by simp only [ByteArray.size_append,ByteArray.size_extract,eq_iff_iff,iff_true,iff_false] at *;omega)];try with_reducible rfl)
          rotate_left
          ·simp only [Act.put,List.setIfInBounds_toArray,List.set_cons_zero,List.set_cons_succ,i64_w,i32_w]
           rfl
          refine join_ (σ:=Nat) 2 #[true,true,true,true,true,true,true,true,true,false,false] (fun s_=>[(40,.tuple #[.agg #[.int .i64 t648,.string t649,.int .i64 t650,.int .i64 t651],.int .i64 t652]),(7,.pointer (some ⟨s_,0,none⟩)),(35,.tuple #[.agg #[.int .i64 t648,.string t649,.int .i64 t650,.int .i64 t651],.int .i64 t652]),(41,.agg #[.int .i64 t648,.string t649,.int .i64 t650,.int .i64 t651]),(42,.int .i64 t652)]) (fun s_ w'=>(w'.cell? ⟨gb645,0,none⟩ = some (.int .i64 x646000_1) ∧ w'.cell? ⟨gb645,1,none⟩ = some (.string x646001_1) ∧ w'.cell? ⟨gb645,2,none⟩ = some (.int .i64 x646002_1) ∧ w'.cell? ⟨gb645,3,none⟩ = some (.int .i64 x646003_1)) ∧ (Kd.R k60 60 w' w.heap.size (fun k_=>k_ ≠ gb645 ∧ k_ ≠ s_) u4 x4_1) ∧ (w'.heap[gb645]? = some (.cells #[.int .i64 x646000_1,.string x646001_1,.int .i64 x646002_1,.int .i64 x646003_1] 60 (0,0))) ∧ (w'.heap[s_]? = some (.cells #[.int .i64 0,.string (⟨#[]⟩ : ByteArray),.int .i64 0,.int .i64 0] 60 (0,0))) ∧ (w.heap.size ≤ s_) ∧ (w.heap.size ≤ s_) ∧ (gb645 ≠ s_) ∧ (s_ ≠ gb645) ∧ (Below w.heap.size w w')) ?_ ?_
          rotate_left
          ·intro hCont
           refine two_ (i:=4) (j:=8) (Ni:=some 40) (Nj:=some 7) #[true,true,true,true,true,false,false,false,false,false,false] #[true,true,true,true,false,false,false,false,true,false,false] rfl rfl rfl rfl (two_of HT_.out (by kernel_rfl)) (by decide) (by decide) (fun K hK=>?_) (fun K hK=>?_)
           ·skip
            refine goes_ Tryd.func78 (by kernel_rfl) rfl #[.string (a0.extract (x6_1 : Int).toNat a0.size),.agg #[.int .i64 x646000_1,.string x646001_1,.int .i64 x646002_1,.int .i64 x646003_1]] (by rfl) rfl rfl (by (try simp only [List.map_toArray,List.map_cons,List.map_nil]);first|done|rfl|(simp only [List.length_drop,List.length_take];rfl)) ?_
            with_reducible refine (impl_lexOne.calls k1 (a0.extract (x6_1 : Int).toNat a0.size) x646000_1 x646001_1 x646002_1 x646003_1 t648 t649 t650 t651 t652 _ A17.out).mono ?_
            rintro e w20 ⟨rfl,hb⟩
            refine ⟨_,rfl,?_⟩
            have n0_:=Aside0.mk (Kd.R_below (by (with_reducible repeat (first|apply Kd.R_alloc|apply Kd.R_drewN|apply Kd.R_drew));exact HO_4.out) hb)
            have n1_:=Aside0.mk (blk_below (g:=gb645) (o:=.cells #[.int .i64 x646000_1,.string x646001_1,.int .i64 x646002_1,.int .i64 x646003_1] 60 (0,0)) (by (with_reducible repeat (first|refine blk_drewN ?_ _|refine blk_drew ?_|refine blk_alloc ?_ _));exact BK645.out) hb)
            have n2_:=Aside0.mk (below_step (by repeat (first|(with_reducible first|exact HB.out|apply below_alloc|apply pw_below_drewN|apply below_drew1|refine below_set ?_ GE645.out)|exact HB.out)) hb)
            clear HO_4
            clear BK645
            clear HB
            have HO_4:=n0_
            have BK645:=n1_
            have HB:=n2_
            clear n0_ n1_ n2_
            (try clear hb)
            (try clear hb2)
            (try clear hk)
            (try clear hi)
            refine hK.out _ _ ⟨(blk_cell BK645.out 0).trans rfl,(blk_cell BK645.out 1).trans rfl,(blk_cell BK645.out 2).trans rfl,(blk_cell BK645.out 3).trans rfl⟩ (fun hHeld=>?_)
            clear hK K
            refine norm_ (a':=?_) ?_ ?_
            rotate_left
            ·show Act.put _ (some 40) _ = _
             simp only [Act.put,List.setIfInBounds_toArray,List.set_cons_zero,List.set_cons_succ,i64_w,i32_w]
             rfl
            refine pure_ (i:=5) (N:=some 35) (v:=?_) (a':=?_) #[true,true,true,true,true,true,false,false,false,false,false] rfl rfl (any_of HT_.out (by kernel_rfl)) (fun _ _ _ h=>h) (Or.inl ⟨by rfl,?_⟩) ?_ ?_
            rotate_left
            ·intro w'
             go_simp
             first|with_reducible rfl|(rw [if_neg (by simp only [ByteArray.size_append,ByteArray.size_extract,eq_iff_iff,iff_true,iff_false] at *;omega)];try with_reducible rfl)
            rotate_left
            ·simp only [Act.put,List.setIfInBounds_toArray,List.set_cons_zero,List.set_cons_succ,i64_w,i32_w]
             rfl
            refine pure_ (i:=6) (N:=some 41) (v:=?_) (a':=?_) #[true,true,true,true,true,true,true,false,false,false,false] rfl rfl (any_of HT_.out (by kernel_rfl)) (fun _ _ _ h=>h) (Or.inl ⟨by rfl,?_⟩) ?_ ?_
            rotate_left
            ·intro w'
             go_simp
             first|with_reducible rfl|(rw [if_neg (by simp only [ByteArray.size_append,ByteArray.size_extract,eq_iff_iff,iff_true,iff_false] at *;omega)];try with_reducible rfl)
            rotate_left
            ·simp only [Act.put,List.setIfInBounds_toArray,List.set_cons_zero,List.set_cons_succ,i64_w,i32_w]
             rfl
            refine pure_ (i:=7) (N:=some 42) (v:=?_) (a':=?_) #[true,true,true,true,true,true,true,true,false,false,false] rfl rfl (any_of HT_.out (by kernel_rfl)) (fun _ _ _ h=>h) (Or.inl ⟨by rfl,?_⟩) ?_ ?_
            rotate_left
            ·intro w'
             go_simp
             first|with_reducible rfl|(rw [if_neg (by simp only [ByteArray.size_append,ByteArray.size_extract,eq_iff_iff,iff_true,iff_false] at *;omega)];try with_reducible rfl)
            rotate_left
            ·simp only [Act.put,List.setIfInBounds_toArray,List.set_cons_zero,List.set_cons_succ,i64_w,i32_w]
             rfl
            refine one_ (i:=8) (N:=some 7) #[true,true,true,true,true,true,true,true,true,false,false] rfl rfl (one_of HT_.out (by kernel_rfl)) (by decide) (fun K hK=>?_)
            refine box_step ?hg (N:=7) ?hd (cs:=#[.int .i64 0,.string (⟨#[]⟩ : ByteArray),.int .i64 0,.int .i64 0]) (t:=60) ?hr ?_;(case hd=>rfl);(case hg=>rfl);(case hr=>first|(go_simp;done)|(go_simp;rfl))
            intro gb653 hg w21 hbox hb
            have n0_:=Aside0.mk (Kd.R_below (Kd.R_elderB (by (with_reducible repeat (first|apply Kd.R_alloc|apply Kd.R_drewN|apply Kd.R_drew));exact HO_4.out) gb653 (Nat.le_of_eq hg.symm)) hb)
            have n1_:=Aside0.mk (blk_below (g:=gb645) (o:=.cells #[.int .i64 x646000_1,.string x646001_1,.int .i64 x646002_1,.int .i64 x646003_1] 60 (0,0)) (by (with_reducible repeat (first|refine blk_drewN ?_ _|refine blk_drew ?_|refine blk_alloc ?_ _));exact BK645.out) hb)
            have n2_:=Aside0.mk (below_step (by repeat (first|(with_reducible first|exact HB.out|apply below_alloc|apply pw_below_drewN|apply below_drew1|refine below_set ?_ GE645.out)|exact HB.out)) hb)
            have n3_:=Aside0.mk (hbox)
            have n4_:=Aside0.mk ((by rw [hg];exact (below_size (by repeat (first|(with_reducible first|exact HB.out|apply below_alloc|apply pw_below_drewN|apply below_drew1|refine below_set ?_ GE645.out)|exact HB.out))) : w.heap.size ≤ gb653))
            have n5_:=Aside0.mk ((by rw [hg];exact (below_size (by repeat (first|(with_reducible first|exact HB.out|apply below_alloc|apply pw_below_drewN|apply below_drew1|refine below_set ?_ GE645.out)|exact HB.out))) : w.heap.size ≤ gb653))
            have n6_:=Aside0.mk ((by rw [hg];exact Nat.ne_of_lt (blk_lt (g:=gb645) (o:=.cells #[.int .i64 x646000_1,.string x646001_1,.int .i64 x646002_1,.int .i64 x646003_1] 60 (0,0)) (by (with_reducible repeat (first|refine blk_drewN ?_ _|refine blk_drew ?_|refine blk_alloc ?_ _));exact BK645.out)) : gb645 ≠ gb653))
            have n7_:=Aside0.mk ((by rw [hg];exact Nat.ne_of_gt (blk_lt (g:=gb645) (o:=.cells #[.int .i64 x646000_1,.string x646001_1,.int .i64 x646002_1,.int .i64 x646003_1] 60 (0,0)) (by (with_reducible repeat (first|refine blk_drewN ?_ _|refine blk_drew ?_|refine blk_alloc ?_ _));exact BK645.out)) : gb653 ≠ gb645))
            clear HO_4
            clear BK645
            clear HB
            have HO_4:=n0_
            have BK645:=n1_
            have HB:=n2_
            have BK653:=n3_
            have GW653:=n4_
            have GE653:=n5_
            have NB645_653:=n6_
            have NB653_645:=n7_
            clear n0_ n1_ n2_ n3_ n4_ n5_ n6_ n7_
            clear hb hbox hg
            refine hK.out _ _ ⟨(blk_cell BK645.out 0).trans rfl,(blk_cell BK645.out 1).trans rfl,(blk_cell BK645.out 2).trans rfl,(blk_cell BK645.out 3).trans rfl⟩ (fun hHeld=>?_)
            clear hK K
            refine norm_ (a':=?_) ?_ ?_
            rotate_left
            ·show Act.put _ (some 7) _ = _
             simp only [Act.put,List.setIfInBounds_toArray,List.set_cons_zero,List.set_cons_succ,i64_w,i32_w]
             rfl
            exact norm_ (by simp only [putAll,Act.put,List.setIfInBounds_toArray,List.set_cons_zero,List.set_cons_succ]) (hCont (gb653) _ ⟨hHeld,(by (with_reducible repeat (first|apply Kd.R_alloc|apply Kd.R_drewN|apply Kd.R_drew));exact HO_4.out),(by (with_reducible repeat (first|refine blk_drewN ?_ _|refine blk_drew ?_|refine blk_alloc ?_ _));exact BK645.out),(by (with_reducible repeat (first|refine blk_drewN ?_ _|refine blk_drew ?_|refine blk_alloc ?_ _));exact BK653.out),GW653.out,GE653.out,NB645_653.out,NB653_645.out,(by repeat (first|(with_reducible first|exact HB.out|apply below_alloc|apply pw_below_drewN|apply below_drew1|refine below_set ?_ GE645.out|refine below_set ?_ GE653.out)|exact HB.out))⟩)
           ·skip
            refine box_step ?hg (N:=7) ?hd (cs:=#[.int .i64 0,.string (⟨#[]⟩ : ByteArray),.int .i64 0,.int .i64 0]) (t:=60) ?hr ?_;(case hd=>rfl);(case hg=>rfl);(case hr=>first|(go_simp;done)|(go_simp;rfl))
            intro gb653 hg w20 hbox hb
            have n0_:=Aside0.mk (Kd.R_below (Kd.R_elderB (by (with_reducible repeat (first|apply Kd.R_alloc|apply Kd.R_drewN|apply Kd.R_drew));exact HO_4.out) gb653 (Nat.le_of_eq hg.symm)) hb)
            have n1_:=Aside0.mk (blk_below (g:=gb645) (o:=.cells #[.int .i64 x646000_1,.string x646001_1,.int .i64 x646002_1,.int .i64 x646003_1] 60 (0,0)) (by (with_reducible repeat (first|refine blk_drewN ?_ _|refine blk_drew ?_|refine blk_alloc ?_ _));exact BK645.out) hb)
            have n2_:=Aside0.mk (below_step (by repeat (first|(with_reducible first|exact HB.out|apply below_alloc|apply pw_below_drewN|apply below_drew1|refine below_set ?_ GE645.out)|exact HB.out)) hb)
            have n3_:=Aside0.mk (hbox)
            have n4_:=Aside0.mk ((by rw [hg];exact (below_size (by repeat (first|(with_reducible first|exact HB.out|apply below_alloc|apply pw_below_drewN|apply below_drew1|refine below_set ?_ GE645.out)|exact HB.out))) : w.heap.size ≤ gb653))
            have n5_:=Aside0.mk ((by rw [hg];exact (below_size (by repeat (first|(with_reducible first|exact HB.out|apply below_alloc|apply pw_below_drewN|apply below_drew1|refine below_set ?_ GE645.out)|exact HB.out))) : w.heap.size ≤ gb653))
            have n6_:=Aside0.mk ((by rw [hg];exact Nat.ne_of_lt (blk_lt (g:=gb645) (o:=.cells #[.int .i64 x646000_1,.string x646001_1,.int .i64 x646002_1,.int .i64 x646003_1] 60 (0,0)) (by (with_reducible repeat (first|refine blk_drewN ?_ _|refine blk_drew ?_|refine blk_alloc ?_ _));exact BK645.out)) : gb645 ≠ gb653))
            have n7_:=Aside0.mk ((by rw [hg];exact Nat.ne_of_gt (blk_lt (g:=gb645) (o:=.cells #[.int .i64 x646000_1,.string x646001_1,.int .i64 x646002_1,.int .i64 x646003_1] 60 (0,0)) (by (with_reducible repeat (first|refine blk_drewN ?_ _|refine blk_drew ?_|refine blk_alloc ?_ _));exact BK645.out)) : gb653 ≠ gb645))
            clear HO_4
            clear BK645
            clear HB
            have HO_4:=n0_
            have BK645:=n1_
            have HB:=n2_
            have BK653:=n3_
            have GW653:=n4_
            have GE653:=n5_
            have NB645_653:=n6_
            have NB653_645:=n7_
            clear n0_ n1_ n2_ n3_ n4_ n5_ n6_ n7_
            clear hb hbox hg
            refine hK.out _ _ ⟨(blk_cell BK645.out 0).trans rfl,(blk_cell BK645.out 1).trans rfl,(blk_cell BK645.out 2).trans rfl,(blk_cell BK645.out 3).trans rfl⟩ (fun hHeld=>?_)
            clear hK K
            refine norm_ (a':=?_) ?_ ?_
            rotate_left
            ·show Act.put _ (some 7) _ = _
             simp only [Act.put,List.setIfInBounds_toArray,List.set_cons_zero,List.set_cons_succ,i64_w,i32_w]
             rfl
            refine one_ (i:=4) (N:=some 40) #[true,true,true,true,true,false,false,false,true,false,false] rfl rfl (one_of HT_.out (by kernel_rfl)) (by decide) (fun K hK=>?_)
            refine goes_ Tryd.func78 (by kernel_rfl) rfl #[.string (a0.extract (x6_1 : Int).toNat a0.size),.agg #[.int .i64 x646000_1,.string x646001_1,.int .i64 x646002_1,.int .i64 x646003_1]] (by rfl) rfl rfl (by (try simp only [List.map_toArray,List.map_cons,List.map_nil]);first|done|rfl|(simp only [List.length_drop,List.length_take];rfl)) ?_
            with_reducible refine (impl_lexOne.calls k1 (a0.extract (x6_1 : Int).toNat a0.size) x646000_1 x646001_1 x646002_1 x646003_1 t648 t649 t650 t651 t652 _ A17.out).mono ?_
            rintro e w21 ⟨rfl,hb⟩
            refine ⟨_,rfl,?_⟩
            have n0_:=Aside0.mk (Kd.R_below (by (with_reducible repeat (first|apply Kd.R_alloc|apply Kd.R_drewN|apply Kd.R_drew));exact HO_4.out) hb)
            have n1_:=Aside0.mk (blk_below (g:=gb645) (o:=.cells #[.int .i64 x646000_1,.string x646001_1,.int .i64 x646002_1,.int .i64 x646003_1] 60 (0,0)) (by (with_reducible repeat (first|refine blk_drewN ?_ _|refine blk_drew ?_|refine blk_alloc ?_ _));exact BK645.out) hb)
            have n2_:=Aside0.mk (blk_below (g:=gb653) (o:=.cells #[.int .i64 0,.string (⟨#[]⟩ : ByteArray),.int .i64 0,.int .i64 0] 60 (0,0)) (by (with_reducible repeat (first|refine blk_drewN ?_ _|refine blk_drew ?_|refine blk_alloc ?_ _));exact BK653.out) hb)
            have n3_:=Aside0.mk (below_step (by repeat (first|(with_reducible first|exact HB.out|apply below_alloc|apply pw_below_drewN|apply below_drew1|refine below_set ?_ GE645.out|refine below_set ?_ GE653.out)|exact HB.out)) hb)
            clear HO_4
            clear BK645
            clear BK653
            clear HB
            have HO_4:=n0_
            have BK645:=n1_
            have BK653:=n2_
            have HB:=n3_
            clear n0_ n1_ n2_ n3_
            (try clear hb)
            (try clear hb2)
            (try clear hk)
            (try clear hi)
            refine hK.out _ _ ⟨(blk_cell BK645.out 0).trans rfl,(blk_cell BK645.out 1).trans rfl,(blk_cell BK645.out 2).trans rfl,(blk_cell BK645.out 3).trans rfl⟩ (fun hHeld=>?_)
            clear hK K
            refine norm_ (a':=?_) ?_ ?_
            rotate_left
            ·show Act.put _ (some 40) _ = _
             simp only [Act.put,List.setIfInBounds_toArray,List.set_cons_zero,List.set_cons_succ,i64_w,i32_w]
             rfl
            refine pure_ (i:=5) (N:=some 35) (v:=?_) (a':=?_) #[true,true,true,true,true,true,false,false,true,false,false] rfl rfl (any_of HT_.out (by kernel_rfl)) (fun _ _ _ h=>h) (Or.inl ⟨by rfl,?_⟩) ?_ ?_
            rotate_left
            ·intro w'
             go_simp
             first|with_reducible rfl|(rw [if_neg (by simp only [ByteArray.size_append,ByteArray.size_extract,eq_iff_iff,iff_true,iff_false] at *;omega)];try with_reducible rfl)
            rotate_left
            ·simp only [Act.put,List.setIfInBounds_toArray,List.set_cons_zero,List.set_cons_succ,i64_w,i32_w]
             rfl
            refine pure_ (i:=6) (N:=some 41) (v:=?_) (a':=?_) #[true,true,true,true,true,true,true,false,true,false,false] rfl rfl (any_of HT_.out (by kernel_rfl)) (fun _ _ _ h=>h) (Or.inl ⟨by rfl,?_⟩) ?_ ?_
            rotate_left
            ·intro w'
             go_simp
             first|with_reducible rfl|(rw [if_neg (by simp only [ByteArray.size_append,ByteArray.size_extract,eq_iff_iff,iff_true,iff_false] at *;omega)];try with_reducible rfl)
            rotate_left
            ·simp only [Act.put,List.setIfInBounds_toArray,List.set_cons_zero,List.set_cons_succ,i64_w,i32_w]
             rfl
            refine pure_ (i:=7) (N:=some 42) (v:=?_) (a':=?_) #[true,true,true,true,true,true,true,true,true,false,false] rfl rfl (any_of HT_.out (by kernel_rfl)) (fun _ _ _ h=>h) (Or.inl ⟨by rfl,?_⟩) ?_ ?_
            rotate_left
            ·intro w'
             go_simp
             first|with_reducible rfl|(rw [if_neg (by simp only [ByteArray.size_append,ByteArray.size_extract,eq_iff_iff,iff_true,iff_false] at *;omega)];try with_reducible rfl)
            rotate_left
            ·simp only [Act.put,List.setIfInBounds_toArray,List.set_cons_zero,List.set_cons_succ,i64_w,i32_w]
             rfl
            exact norm_ (by simp only [putAll,Act.put,List.setIfInBounds_toArray,List.set_cons_zero,List.set_cons_succ]) (hCont (gb653) _ ⟨hHeld,(by (with_reducible repeat (first|apply Kd.R_alloc|apply Kd.R_drewN|apply Kd.R_drew));exact HO_4.out),(by (with_reducible repeat (first|refine blk_drewN ?_ _|refine blk_drew ?_|refine blk_alloc ?_ _));exact BK645.out),(by (with_reducible repeat (first|refine blk_drewN ?_ _|refine blk_drew ?_|refine blk_alloc ?_ _));exact BK653.out),GW653.out,GE653.out,NB645_653.out,NB653_645.out,(by repeat (first|(with_reducible first|exact HB.out|apply below_alloc|apply pw_below_drewN|apply below_drew1|refine below_set ?_ GE645.out|refine below_set ?_ GE653.out)|exact HB.out))⟩)
          rintro gb653 w22 ⟨hS_,h0_,h1_,h2_,h3_,h4_,h5_,h6_,h7_⟩
          have n0_ : Aside0 (Kd.R k60 60 w22 w.heap.size (fun k_=>k_ ≠ gb645 ∧ k_ ≠ gb653) u4 x4_1):=⟨h0_⟩
          have n1_ : Aside0 (w22.heap[gb645]? = some (.cells #[.int .i64 x646000_1,.string x646001_1,.int .i64 x646002_1,.int .i64 x646003_1] 60 (0,0))):=⟨h1_⟩
          have n2_ : Aside0 (w22.heap[gb653]? = some (.cells #[.int .i64 0,.string (⟨#[]⟩ : ByteArray),.int .i64 0,.int .i64 0] 60 (0,0))):=⟨h2_⟩
          have n3_ : Aside0 (w.heap.size ≤ gb653):=⟨h3_⟩
          have n4_ : Aside0 (w.heap.size ≤ gb653):=⟨h4_⟩
          have n5_ : Aside0 (gb645 ≠ gb653):=⟨h5_⟩
          have n6_ : Aside0 (gb653 ≠ gb645):=⟨h6_⟩
          have n7_ : Aside0 (Below w.heap.size w w22):=⟨h7_⟩
          clear HO_4
          clear BK645
          clear HB
          clear h0_ h1_ h2_ h3_ h4_ h5_ h6_ h7_
          have HO_4:=n0_
          have BK645:=n1_
          have BK653:=n2_
          have GW653:=n3_
          have GE653:=n4_
          have NB645_653:=n5_
          have NB653_645:=n6_
          have HB:=n7_
          clear n0_ n1_ n2_ n3_ n4_ n5_ n6_ n7_
          have hHeld : w22.cell? ⟨gb645,0,none⟩ = some (.int .i64 x646000_1) ∧ w22.cell? ⟨gb645,1,none⟩ = some (.string x646001_1) ∧ w22.cell? ⟨gb645,2,none⟩ = some (.int .i64 x646002_1) ∧ w22.cell? ⟨gb645,3,none⟩ = some (.int .i64 x646003_1):=hS_
          refine norm_ (a':=?_) ?_ ?_
          rotate_left
          ·simp only [putAll,Act.put,List.setIfInBounds_toArray,List.set_cons_zero,List.set_cons_succ]
           rfl
          refine one_ (i:=9) (N:=none) #[true,true,true,true,true,true,true,true,true,true,false] rfl rfl (one_of HT_.out (by kernel_rfl)) (by decide) (fun K hK=>?_)
          have hs23 : w22.cell? ⟨gb653,0,none⟩ = some (.int .i64 0):=(blk_cell BK653.out 0).trans rfl
          have hfs23:=blk_frozen BK653.out 0
          have hns23_0:=NB645_653.out
          have hms23_0:=NB653_645.out
          have hs24 : w22.cell? ⟨gb653,1,none⟩ = some (.string (⟨#[]⟩ : ByteArray)):=(blk_cell BK653.out 1).trans rfl
          have hfs24:=blk_frozen BK653.out 1
          have hns24_0:=NB645_653.out
          have hms24_0:=NB653_645.out
          have hs25 : w22.cell? ⟨gb653,2,none⟩ = some (.int .i64 0):=(blk_cell BK653.out 2).trans rfl
          have hfs25:=blk_frozen BK653.out 2
          have hns25_0:=NB645_653.out
          have hms25_0:=NB653_645.out
          have hs26 : w22.cell? ⟨gb653,3,none⟩ = some (.int .i64 0):=(blk_cell BK653.out 3).trans rfl
          have hfs26:=blk_frozen BK653.out 3
          have hns26_0:=NB645_653.out
          have hms26_0:=NB653_645.out
          refine skip_ (w1:=?_) (by rfl) rfl ?_ ?_
          rotate_left
          ·go_simp
           rfl
          refine hK.out _ _ ⟨((cell_far (p:=⟨gb653,_,none⟩) NB645_653.out _).trans (((cell_far (p:=⟨gb653,_,none⟩) NB645_653.out _).trans (((cell_far (p:=⟨gb653,_,none⟩) NB645_653.out _).trans (((cell_far (p:=⟨gb653,_,none⟩) NB645_653.out _).trans (hHeld.1)))))))),((cell_far (p:=⟨gb653,_,none⟩) NB645_653.out _).trans (((cell_far (p:=⟨gb653,_,none⟩) NB645_653.out _).trans (((cell_far (p:=⟨gb653,_,none⟩) NB645_653.out _).trans (((cell_far (p:=⟨gb653,_,none⟩) NB645_653.out _).trans (hHeld.2.1)))))))),((cell_far (p:=⟨gb653,_,none⟩) NB645_653.out _).trans (((cell_far (p:=⟨gb653,_,none⟩) NB645_653.out _).trans (((cell_far (p:=⟨gb653,_,none⟩) NB645_653.out _).trans (((cell_far (p:=⟨gb653,_,none⟩) NB645_653.out _).trans (hHeld.2.2.1)))))))),((cell_far (p:=⟨gb653,_,none⟩) NB645_653.out _).trans (((cell_far (p:=⟨gb653,_,none⟩) NB645_653.out _).trans (((cell_far (p:=⟨gb653,_,none⟩) NB645_653.out _).trans (((cell_far (p:=⟨gb653,_,none⟩) NB645_653.out _).trans (hHeld.2.2.2))))))))⟩ (fun hHeld=>?_)
          clear hK K
          refine pure_ (i:=10) (N:=some 8) (v:=?_) (a':=?_) #[true,true,true,true,true,true,true,true,true,true,true] rfl rfl (any_of HT_.out (by kernel_rfl)) (fun _ _ _ h=>h) (Or.inl ⟨by rfl,?_⟩) ?_ ?_
          rotate_left
          ·intro w'
           go_simp
           first|with_reducible rfl|(rw [if_neg (by simp only [ByteArray.size_append,ByteArray.size_extract,eq_iff_iff,iff_true,iff_false] at *;omega)];try with_reducible rfl)
          rotate_left
          ·simp only [Act.put,List.setIfInBounds_toArray,List.set_cons_zero,List.set_cons_succ,i64_w,i32_w]
           rfl
          refine done_ (done_of HT_.out (by kernel_rfl)) ?_
          try go_wp2
          go_ret2
          exact ⟨_,by first|rfl|(simp [errW_none,errW_some] <;> rfl)|(simp [*,errW_none,errW_some] <;> rfl),by first|exact Kd.R_nil _ _ _ _ _|exact Kd.N_nil _ _ _ _ _|exact Kd.V_nil _ _ _ _ _|exact Kd.Q_nil _ _ _ _ _|exact Kd.S_nil _ _ _ _ _,by repeat (first|(with_reducible first|exact HB.out|apply below_alloc|apply pw_below_drewN|apply below_drew1|refine below_set ?_ GE645.out|refine below_set ?_ GE653.out)|exact HB.out)⟩
         ·rw [if_neg c18] at H
          have c18b0 : (t652 == 0) = false:=beq_eq_false_iff_ne.mpr c18
          have c18b1 : (t652 != 0) = true:=bne_iff_ne.mpr c18
          by_cases c27 : x4_1.length < 3518437208883
          ·rw [if_pos c27] at H
           have LMc27:=Aside0.mk c27
           clear c27
           obtain ⟨y654,hy654⟩ : ∃ y_ : List (S60),y_ = (x4_1 ++ [(⟨t648,t649,t650,x6_1⟩ : S60)]):=⟨_,rfl⟩
           replace H : (impl_Lex.l0 k1 a0 y654 (wrap64 (x6_1 + t652)) t648 t649 t650 x6_1) = some (r1,r2):=by first|(rw [hy654];with_reducible exact H)|(have H2_:=(Option.bind_some _ _).symm.trans H;rw [hy654];with_reducible exact H2_)|(have H2_:=(Option.bind_some _ _).symm.trans H;with_reducible exact H2_)|with_reducible exact H|(rw [hy654];exact H)|exact H
           have Ny654:=Aside0.mk hy654
           clear hy654
           have H':=Aside0.mk H
           clear H
           have p9 : 0 ≤ (x6_1 : Int):=of_decide_eq_true (by first|(with_reducible assumption)|assumption)
           have q9 : x6_1 < (a0.size : Int):=of_decide_eq_true (by first|(with_reducible assumption)|assumption)
           have hx9:=bt_at a0 x6_1
           replace p9:=eq_true p9
           replace q9:=eq_true q9
           try go_wp2_with (first|((with_reducible refine gate_callee (f:=75) rfl ?_);refine goesL_ (some 22) rfl rfl Tryd.func75 (by kernel_rfl) rfl #[.int .u8 (bt a0 x6_1)] rfl (by (try simp only [List.map_toArray,List.map_cons,List.map_nil]);first|done|rfl|(simp only [List.length_drop,List.length_take];rfl)) ?_;(with_reducible refine (impl_isSpace.calls (bt a0 x6_1) false _ A10.out).mono ?_);rintro e w' ⟨rfl,⟨nd,rfl⟩⟩;refine ⟨_,rfl,?_⟩;(try (rw [drewN_self wr];generalize hq_ : World.drewN wr _ = wr;have n0_ : Aside0 (Kd.R k60 60 wr w.heap.size (fun k_=>k_ ≠ gb645) u4 x4_1):=⟨by rw [← hq_];exact (by (with_reducible repeat (first|apply Kd.R_alloc|apply Kd.R_drewN|apply Kd.R_drew));exact HO_4.out)⟩;have n1_ : Aside0 (wr.heap[gb645]? = some (.cells #[.int .i64 x646000_1,.string x646001_1,.int .i64 x646002_1,.int .i64 x646003_1] 60 (0,0))):=⟨by rw [← hq_];exact (by (with_reducible repeat (first|refine blk_drewN ?_ _|refine blk_drew ?_|refine blk_alloc ?_ _));exact BK645.out)⟩;have n2_ : Aside0 (Below w.heap.size w wr):=⟨by rw [← hq_];exact (by repeat (first|(with_reducible first|exact HB.out|apply below_alloc|apply pw_below_drewN|apply below_drew1|refine below_set ?_ GE645.out)|exact HB.out))⟩;clear HO_4 BK645 HB hq_;have HO_4:=n0_;have BK645:=n1_;have HB:=n2_;clear n0_ n1_ n2_));have p12 : 0 ≤ (x6_1 : Int):=of_decide_eq_true (by first|(with_reducible assumption)|assumption);have q12 : x6_1 < (a0.size : Int):=of_decide_eq_true (by first|(with_reducible assumption)|assumption);have hx12:=bt_at a0 x6_1;replace p12:=eq_true p12;replace q12:=eq_true q12))
           have n0_:=Aside0.mk (Kd.R_drew HO_4.out)
           have n1_:=Aside0.mk (blk_drew BK645.out)
           have n2_:=Aside0.mk (below_drew1 HB.out)
           clear HO_4
           clear BK645
           clear HB
           have HO_4:=n0_
           have BK645:=n1_
           have HB:=n2_
           clear n0_ n1_ n2_
           refine start_ (n:=11) (S:=fun w'=>w'.cell? ⟨gb645,0,none⟩ = some (.int .i64 x646000_1) ∧ w'.cell? ⟨gb645,1,none⟩ = some (.string x646001_1) ∧ w'.cell? ⟨gb645,2,none⟩ = some (.int .i64 x646002_1) ∧ w'.cell? ⟨gb645,3,none⟩ = some (.int .i64 x646003_1)) (ds:=[]) #[false,false,false,false,false,false,false,false,false,false,false] (by kernel_rfl) rfl rfl ⟨(blk_cell BK645.out 0).trans rfl,(blk_cell BK645.out 1).trans rfl,(blk_cell BK645.out 2).trans rfl,(blk_cell BK645.out 3).trans rfl⟩ (fun hHeld=>?_);refine with_tabW impl_Lex.tab10 impl_Lex.bits10 (fun HT_ HW_=>?_)
           generalize wr.drew = w28 at HO_4 BK645 HB hHeld ⊢
           refine pure_ (i:=0) (N:=some 36) (v:=?_) (a':=?_) #[true,false,false,false,false,false,false,false,false,false,false] rfl rfl (any_of HT_.out (by kernel_rfl)) (fun _ _ _ h=>h) (Or.inl ⟨by rfl,?_⟩) ?_ ?_
           rotate_left
           ·intro w'
            go_simp
            first|with_reducible rfl|(rw [if_neg (by simp only [ByteArray.size_append,ByteArray.size_extract,eq_iff_iff,iff_true,iff_false] at *;omega)];try with_reducible rfl)
           rotate_left
           ·simp only [Act.put,List.setIfInBounds_toArray,List.set_cons_zero,List.set_cons_succ,i64_w,i32_w]
            rfl
           refine pure_ (i:=1) (N:=some 37) (v:=?_) (a':=?_) #[true,true,false,false,false,false,false,false,false,false,false] rfl rfl (any_of HT_.out (by kernel_rfl)) (fun _ _ _ h=>h) (Or.inl ⟨by rfl,?_⟩) ?_ ?_
           rotate_left
           ·intro w'
            go_simp
            first|with_reducible rfl|(rw [if_neg (by simp only [ByteArray.size_append,ByteArray.size_extract,eq_iff_iff,iff_true,iff_false] at *;omega)];try with_reducible rfl)
           rotate_left
           ·simp only [Act.put,List.setIfInBounds_toArray,List.set_cons_zero,List.set_cons_succ,i64_w,i32_w]
            rfl
           refine pure_ (i:=2) (N:=some 38) (v:=?_) (a':=?_) #[true,true,true,false,false,false,false,false,false,false,false] rfl rfl (any_of HT_.out (by kernel_rfl)) (fun _ _ _ h=>h) (Or.inl ⟨by rfl,?_⟩) ?_ ?_
           rotate_left
           ·intro w'
            go_simp
            first|with_reducible rfl|(rw [if_neg (by simp only [ByteArray.size_append,ByteArray.size_extract,eq_iff_iff,iff_true,iff_false] at *;omega)];try with_reducible rfl)
           rotate_left
           ·simp only [Act.put,List.setIfInBounds_toArray,List.set_cons_zero,List.set_cons_succ,i64_w,i32_w]
            rfl
           refine take_ (i:=3) (N:=some 39) (v:=?_) (a':=?_) #[true,true,true,true,false,false,false,false,false,false,false] rfl rfl (take_ofW HT_.out HW_.out (by kernel_rfl)) (fun _ _ _ h=>h) (Or.inl ⟨by rfl,?_⟩) hHeld ?_ ?_
           rotate_left
           ·rintro w' ⟨s0,s1,s2,s3⟩
            go_simp
            first|with_reducible rfl|(rw [if_neg (by simp only [ByteArray.size_append,ByteArray.size_extract,eq_iff_iff,iff_true,iff_false] at *;omega)];try with_reducible rfl)
           rotate_left
           ·simp only [Act.put,List.setIfInBounds_toArray,List.set_cons_zero,List.set_cons_succ,i64_w,i32_w]
            rfl
           refine join_ (σ:=Nat) 2 #[true,true,true,true,true,true,true,true,true,false,false] (fun s_=>[(40,.tuple #[.agg #[.int .i64 t648,.string t649,.int .i64 t650,.int .i64 t651],.int .i64 t652]),(7,.pointer (some ⟨s_,0,none⟩)),(35,.tuple #[.agg #[.int .i64 t648,.string t649,.int .i64 t650,.int .i64 t651],.int .i64 t652]),(41,.agg #[.int .i64 t648,.string t649,.int .i64 t650,.int .i64 t651]),(42,.int .i64 t652)]) (fun s_ w'=>(w'.cell? ⟨gb645,0,none⟩ = some (.int .i64 x646000_1) ∧ w'.cell? ⟨gb645,1,none⟩ = some (.string x646001_1) ∧ w'.cell? ⟨gb645,2,none⟩ = some (.int .i64 x646002_1) ∧ w'.cell? ⟨gb645,3,none⟩ = some (.int .i64 x646003_1)) ∧ (Kd.R k60 60 w' w.heap.size (fun k_=>k_ ≠ gb645 ∧ k_ ≠ s_) u4 x4_1) ∧ (w'.heap[gb645]? = some (.cells #[.int .i64 x646000_1,.string x646001_1,.int .i64 x646002_1,.int .i64 x646003_1] 60 (0,0))) ∧ (w'.heap[s_]? = some (.cells #[.int .i64 0,.string (⟨#[]⟩ : ByteArray),.int .i64 0,.int .i64 0] 60 (0,0))) ∧ (w.heap.size ≤ s_) ∧ (w.heap.size ≤ s_) ∧ (gb645 ≠ s_) ∧ (s_ ≠ gb645) ∧ (Below w.heap.size w w')) ?_ ?_
           rotate_left
           ·intro hCont
            refine two_ (i:=4) (j:=8) (Ni:=some 40) (Nj:=some 7) #[true,true,true,true,true,false,false,false,false,false,false] #[true,true,true,true,false,false,false,false,true,false,false] rfl rfl rfl rfl (two_of HT_.out (by kernel_rfl)) (by decide) (by decide) (fun K hK=>?_) (fun K hK=>?_)
            ·skip
             refine goes_ Tryd.func78 (by kernel_rfl) rfl #[.string (a0.extract (x6_1 : Int).toNat a0.size),.agg #[.int .i64 x646000_1,.string x646001_1,.int .i64 x646002_1,.int .i64 x646003_1]] (by rfl) rfl rfl (by (try simp only [List.map_toArray,List.map_cons,List.map_nil]);first|done|rfl|(simp only [List.length_drop,List.length_take];rfl)) ?_
             with_reducible refine (impl_lexOne.calls k1 (a0.extract (x6_1 : Int).toNat a0.size) x646000_1 x646001_1 x646002_1 x646003_1 t648 t649 t650 t651 t652 _ A17.out).mono ?_
             rintro e w29 ⟨rfl,hb⟩
             refine ⟨_,rfl,?_⟩
             have n0_:=Aside0.mk (Kd.R_below (by (with_reducible repeat (first|apply Kd.R_alloc|apply Kd.R_drewN|apply Kd.R_drew));exact HO_4.out) hb)
             have n1_:=Aside0.mk (blk_below (g:=gb645) (o:=.cells #[.int .i64 x646000_1,.string x646001_1,.int .i64 x646002_1,.int .i64 x646003_1] 60 (0,0)) (by (with_reducible repeat (first|refine blk_drewN ?_ _|refine blk_drew ?_|refine blk_alloc ?_ _));exact BK645.out) hb)
             have n2_:=Aside0.mk (below_step (by repeat (first|(with_reducible first|exact HB.out|apply below_alloc|apply pw_below_drewN|apply below_drew1|refine below_set ?_ GE645.out)|exact HB.out)) hb)
             clear HO_4
             clear BK645
             clear HB
             have HO_4:=n0_
             have BK645:=n1_
             have HB:=n2_
             clear n0_ n1_ n2_
             (try clear hb)
             (try clear hb2)
             (try clear hk)
             (try clear hi)
             refine hK.out _ _ ⟨(blk_cell BK645.out 0).trans rfl,(blk_cell BK645.out 1).trans rfl,(blk_cell BK645.out 2).trans rfl,(blk_cell BK645.out 3).trans rfl⟩ (fun hHeld=>?_)
             clear hK K
             refine norm_ (a':=?_) ?_ ?_
             rotate_left
             ·show Act.put _ (some 40) _ = _
              simp only [Act.put,List.setIfInBounds_toArray,List.set_cons_zero,List.set_cons_succ,i64_w,i32_w]
              rfl
             refine pure_ (i:=5) (N:=some 35) (v:=?_) (a':=?_) #[true,true,true,true,true,true,false,false,false,false,false] rfl rfl (any_of HT_.out (by kernel_rfl)) (fun _ _ _ h=>h) (Or.inl ⟨by rfl,?_⟩) ?_ ?_
             rotate_left
             ·intro w'
              go_simp
              first|with_reducible rfl|(rw [if_neg (by simp only [ByteArray.size_append,ByteArray.size_extract,eq_iff_iff,iff_true,iff_false] at *;omega)];try with_reducible rfl)
             rotate_left
             ·simp only [Act.put,List.setIfInBounds_toArray,List.set_cons_zero,List.set_cons_succ,i64_w,i32_w]
              rfl
             refine pure_ (i:=6) (N:=some 41) (v:=?_) (a':=?_) #[true,true,true,true,true,true,true,false,false,false,false] rfl rfl (any_of HT_.out (by kernel_rfl)) (fun _ _ _ h=>h) (Or.inl ⟨by rfl,?_⟩) ?_ ?_
             rotate_left
             ·intro w'
              go_simp
              first|with_reducible rfl|(rw [if_neg (by simp only [ByteArray.size_append,ByteArray.size_extract,eq_iff_iff,iff_true,iff_false] at *;omega)];try with_reducible rfl)
             rotate_left
             ·simp only [Act.put,List.setIfInBounds_toArray,List.set_cons_zero,List.set_cons_succ,i64_w,i32_w]
              rfl
             refine pure_ (i:=7) (N:=some 42) (v:=?_) (a':=?_) #[true,true,true,true,true,true,true,true,false,false,false] rfl rfl (any_of HT_.out (by kernel_rfl)) (fun _ _ _ h=>h) (Or.inl ⟨by rfl,?_⟩) ?_ ?_
             rotate_left
             ·intro w'
              go_simp
              first|with_reducible rfl|(rw [if_neg (by simp only [ByteArray.size_append,ByteArray.size_extract,eq_iff_iff,iff_true,iff_false] at *;omega)];try with_reducible rfl)
             rotate_left
             ·simp only [Act.put,List.setIfInBounds_toArray,List.set_cons_zero,List.set_cons_succ,i64_w,i32_w]
              rfl
             refine one_ (i:=8) (N:=some 7) #[true,true,true,true,true,true,true,true,true,false,false] rfl rfl (one_of HT_.out (by kernel_rfl)) (by decide) (fun K hK=>?_)
             refine box_step ?hg (N:=7) ?hd (cs:=#[.int .i64 0,.string (⟨#[]⟩ : ByteArray),.int .i64 0,.int .i64 0]) (t:=60) ?hr ?_;(case hd=>rfl);(case hg=>rfl);(case hr=>first|(go_simp;done)|(go_simp;rfl))
             intro gb653 hg w30 hbox hb
             have n0_:=Aside0.mk (Kd.R_below (Kd.R_elderB (by (with_reducible repeat (first|apply Kd.R_alloc|apply Kd.R_drewN|apply Kd.R_drew));exact HO_4.out) gb653 (Nat.le_of_eq hg.symm)) hb)
             have n1_:=Aside0.mk (blk_below (g:=gb645) (o:=.cells #[.int .i64 x646000_1,.string x646001_1,.int .i64 x646002_1,.int .i64 x646003_1] 60 (0,0)) (by (with_reducible repeat (first|refine blk_drewN ?_ _|refine blk_drew ?_|refine blk_alloc ?_ _));exact BK645.out) hb)
             have n2_:=Aside0.mk (below_step (by repeat (first|(with_reducible first|exact HB.out|apply below_alloc|apply pw_below_drewN|apply below_drew1|refine below_set ?_ GE645.out)|exact HB.out)) hb)
             have n3_:=Aside0.mk (hbox)
             have n4_:=Aside0.mk ((by rw [hg];exact (below_size (by repeat (first|(with_reducible first|exact HB.out|apply below_alloc|apply pw_below_drewN|apply below_drew1|refine below_set ?_ GE645.out)|exact HB.out))) : w.heap.size ≤ gb653))
             have n5_:=Aside0.mk ((by rw [hg];exact (below_size (by repeat (first|(with_reducible first|exact HB.out|apply below_alloc|apply pw_below_drewN|apply below_drew1|refine below_set ?_ GE645.out)|exact HB.out))) : w.heap.size ≤ gb653))
             have n6_:=Aside0.mk ((by rw [hg];exact Nat.ne_of_lt (blk_lt (g:=gb645) (o:=.cells #[.int .i64 x646000_1,.string x646001_1,.int .i64 x646002_1,.int .i64 x646003_1] 60 (0,0)) (by (with_reducible repeat (first|refine blk_drewN ?_ _|refine blk_drew ?_|refine blk_alloc ?_ _));exact BK645.out)) : gb645 ≠ gb653))
             have n7_:=Aside0.mk ((by rw [hg];exact Nat.ne_of_gt (blk_lt (g:=gb645) (o:=.cells #[.int .i64 x646000_1,.string x646001_1,.int .i64 x646002_1,.int .i64 x646003_1] 60 (0,0)) (by (with_reducible repeat (first|refine blk_drewN ?_ _|refine blk_drew ?_|refine blk_alloc ?_ _));exact BK645.out)) : gb653 ≠ gb645))
             clear HO_4
             clear BK645
             clear HB
             have HO_4:=n0_
             have BK645:=n1_
             have HB:=n2_
             have BK653:=n3_
             have GW653:=n4_
             have GE653:=n5_
             have NB645_653:=n6_
             have NB653_645:=n7_
             clear n0_ n1_ n2_ n3_ n4_ n5_ n6_ n7_
             clear hb hbox hg
             refine hK.out _ _ ⟨(blk_cell BK645.out 0).trans rfl,(blk_cell BK645.out 1).trans rfl,(blk_cell BK645.out 2).trans rfl,(blk_cell BK645.out 3).trans rfl⟩ (fun hHeld=>?_)
             clear hK K
             refine norm_ (a':=?_) ?_ ?_
             rotate_left
             ·show Act.put _ (some 7) _ = _
              simp only [Act.put,List.setIfInBounds_toArray,List.set_cons_zero,List.set_cons_succ,i64_w,i32_w]
              rfl
             exact norm_ (by simp only [putAll,Act.put,List.setIfInBounds_toArray,List.set_cons_zero,List.set_cons_succ]) (hCont (gb653) _ ⟨hHeld,(by (with_reducible repeat (first|apply Kd.R_alloc|apply Kd.R_drewN|apply Kd.R_drew));exact HO_4.out),(by (with_reducible repeat (first|refine blk_drewN ?_ _|refine blk_drew ?_|refine blk_alloc ?_ _));exact BK645.out),(by (with_reducible repeat (first|refine blk_drewN ?_ _|refine blk_drew ?_|refine blk_alloc ?_ _));exact BK653.out),GW653.out,GE653.out,NB645_653.out,NB653_645.out,(by repeat (first|(with_reducible first|exact HB.out|apply below_alloc|apply pw_below_drewN|apply below_drew1|refine below_set ?_ GE645.out|refine below_set ?_ GE653.out)|exact HB.out))⟩)
            ·skip
             refine box_step ?hg (N:=7) ?hd (cs:=#[.int .i64 0,.string (⟨#[]⟩ : ByteArray),.int .i64 0,.int .i64 0]) (t:=60) ?hr ?_;(case hd=>rfl);(case hg=>rfl);(case hr=>first|(go_simp;done)|(go_simp;rfl))
             intro gb653 hg w29 hbox hb
             have n0_:=Aside0.mk (Kd.R_below (Kd.R_elderB (by (with_reducible repeat (first|apply Kd.R_alloc|apply Kd.R_drewN|apply Kd.R_drew));exact HO_4.out) gb653 (Nat.le_of_eq hg.symm)) hb)
             have n1_:=Aside0.mk (blk_below (g:=gb645) (o:=.cells #[.int .i64 x646000_1,.string x646001_1,.int .i64 x646002_1,.int .i64 x646003_1] 60 (0,0)) (by (with_reducible repeat (first|refine blk_drewN ?_ _|refine blk_drew ?_|refine blk_alloc ?_ _));exact BK645.out) hb)
             have n2_:=Aside0.mk (below_step (by repeat (first|(with_reducible first|exact HB.out|apply below_alloc|apply pw_below_drewN|apply below_drew1|refine below_set ?_ GE645.out)|exact HB.out)) hb)
             have n3_:=Aside0.mk (hbox)
             have n4_:=Aside0.mk ((by rw [hg];exact (below_size (by repeat (first|(with_reducible first|exact HB.out|apply below_alloc|apply pw_below_drewN|apply below_drew1|refine below_set ?_ GE645.out)|exact HB.out))) : w.heap.size ≤ gb653))
             have n5_:=Aside0.mk ((by rw [hg];exact (below_size (by repeat (first|(with_reducible first|exact HB.out|apply below_alloc|apply pw_below_drewN|apply below_drew1|refine below_set ?_ GE645.out)|exact HB.out))) : w.heap.size ≤ gb653))
             have n6_:=Aside0.mk ((by rw [hg];exact Nat.ne_of_lt (blk_lt (g:=gb645) (o:=.cells #[.int .i64 x646000_1,.string x646001_1,.int .i64 x646002_1,.int .i64 x646003_1] 60 (0,0)) (by (with_reducible repeat (first|refine blk_drewN ?_ _|refine blk_drew ?_|refine blk_alloc ?_ _));exact BK645.out)) : gb645 ≠ gb653))
             have n7_:=Aside0.mk ((by rw [hg];exact Nat.ne_of_gt (blk_lt (g:=gb645) (o:=.cells #[.int .i64 x646000_1,.string x646001_1,.int .i64 x646002_1,.int .i64 x646003_1] 60 (0,0)) (by (with_reducible repeat (first|refine blk_drewN ?_ _|refine blk_drew ?_|refine blk_alloc ?_ _));exact BK645.out)) : gb653 ≠ gb645))
             clear HO_4
             clear BK645
             clear HB
             have HO_4:=n0_
             have BK645:=n1_
             have HB:=n2_
             have BK653:=n3_
             have GW653:=n4_
             have GE653:=n5_
             have NB645_653:=n6_
             have NB653_645:=n7_
             clear n0_ n1_ n2_ n3_ n4_ n5_ n6_ n7_
             clear hb hbox hg
             refine hK.out _ _ ⟨(blk_cell BK645.out 0).trans rfl,(blk_cell BK645.out 1).trans rfl,(blk_cell BK645.out 2).trans rfl,(blk_cell BK645.out 3).trans rfl⟩ (fun hHeld=>?_)
             clear hK K
             refine norm_ (a':=?_) ?_ ?_
             rotate_left
             ·show Act.put _ (some 7) _ = _
              simp only [Act.put,List.setIfInBounds_toArray,List.set_cons_zero,List.set_cons_succ,i64_w,i32_w]
              rfl
             refine one_ (i:=4) (N:=some 40) #[true,true,true,true,true,false,false,false,true,false,false] rfl rfl (one_of HT_.out (by kernel_rfl)) (by decide) (fun K hK=>?_)
             refine goes_ Tryd.func78 (by kernel_rfl) rfl #[.string (a0.extract (x6_1 : Int).toNat a0.size),.agg #[.int .i64 x646000_1,.string x646001_1,.int .i64 x646002_1,.int .i64 x646003_1]] (by rfl) rfl rfl (by (try simp only [List.map_toArray,List.map_cons,List.map_nil]);first|done|rfl|(simp only [List.length_drop,List.length_take];rfl)) ?_
             with_reducible refine (impl_lexOne.calls k1 (a0.extract (x6_1 : Int).toNat a0.size) x646000_1 x646001_1 x646002_1 x646003_1 t648 t649 t650 t651 t652 _ A17.out).mono ?_
             rintro e w30 ⟨rfl,hb⟩
             refine ⟨_,rfl,?_⟩
             have n0_:=Aside0.mk (Kd.R_below (by (with_reducible repeat (first|apply Kd.R_alloc|apply Kd.R_drewN|apply Kd.R_drew));exact HO_4.out) hb)
             have n1_:=Aside0.mk (blk_below (g:=gb645) (o:=.cells #[.int .i64 x646000_1,.string x646001_1,.int .i64 x646002_1,.int .i64 x646003_1] 60 (0,0)) (by (with_reducible repeat (first|refine blk_drewN ?_ _|refine blk_drew ?_|refine blk_alloc ?_ _));exact BK645.out) hb)
             have n2_:=Aside0.mk (blk_below (g:=gb653) (o:=.cells #[.int .i64 0,.string (⟨#[]⟩ : ByteArray),.int .i64 0,.int .i64 0] 60 (0,0)) (by (with_reducible repeat (first|refine blk_drewN ?_ _|refine blk_drew ?_|refine blk_alloc ?_ _));exact BK653.out) hb)
             have n3_:=Aside0.mk (below_step (by repeat (first|(with_reducible first|exact HB.out|apply below_alloc|apply pw_below_drewN|apply below_drew1|refine below_set ?_ GE645.out|refine below_set ?_ GE653.out)|exact HB.out)) hb)
             clear HO_4
             clear BK645
             clear BK653
             clear HB
             have HO_4:=n0_
             have BK645:=n1_
             have BK653:=n2_
             have HB:=n3_
             clear n0_ n1_ n2_ n3_
             (try clear hb)
             (try clear hb2)
             (try clear hk)
             (try clear hi)
             refine hK.out _ _ ⟨(blk_cell BK645.out 0).trans rfl,(blk_cell BK645.out 1).trans rfl,(blk_cell BK645.out 2).trans rfl,(blk_cell BK645.out 3).trans rfl⟩ (fun hHeld=>?_)
             clear hK K
             refine norm_ (a':=?_) ?_ ?_
             rotate_left
             ·show Act.put _ (some 40) _ = _
              simp only [Act.put,List.setIfInBounds_toArray,List.set_cons_zero,List.set_cons_succ,i64_w,i32_w]
              rfl
             refine pure_ (i:=5) (N:=some 35) (v:=?_) (a':=?_) #[true,true,true,true,true,true,false,false,true,false,false] rfl rfl (any_of HT_.out (by kernel_rfl)) (fun _ _ _ h=>h) (Or.inl ⟨by rfl,?_⟩) ?_ ?_
             rotate_left
             ·intro w'
              go_simp
              first|with_reducible rfl|(rw [if_neg (by simp only [ByteArray.size_append,ByteArray.size_extract,eq_iff_iff,iff_true,iff_false] at *;omega)];try with_reducible rfl)
             rotate_left
             ·simp only [Act.put,List.setIfInBounds_toArray,List.set_cons_zero,List.set_cons_succ,i64_w,i32_w]
              rfl
             refine pure_ (i:=6) (N:=some 41) (v:=?_) (a':=?_) #[true,true,true,true,true,true,true,false,true,false,false] rfl rfl (any_of HT_.out (by kernel_rfl)) (fun _ _ _ h=>h) (Or.inl ⟨by rfl,?_⟩) ?_ ?_
             rotate_left
             ·intro w'
              go_simp
              first|with_reducible rfl|(rw [if_neg (by simp only [ByteArray.size_append,ByteArray.size_extract,eq_iff_iff,iff_true,iff_false] at *;omega)];try with_reducible rfl)
             rotate_left
             ·simp only [Act.put,List.setIfInBounds_toArray,List.set_cons_zero,List.set_cons_succ,i64_w,i32_w]
              rfl
             refine pure_ (i:=7) (N:=some 42) (v:=?_) (a':=?_) #[true,true,true,true,true,true,true,true,true,false,false] rfl rfl (any_of HT_.out (by kernel_rfl)) (fun _ _ _ h=>h) (Or.inl ⟨by rfl,?_⟩) ?_ ?_
             rotate_left
             ·intro w'
              go_simp
              first|with_reducible rfl|(rw [if_neg (by simp only [ByteArray.size_append,ByteArray.size_extract,eq_iff_iff,iff_true,iff_false] at *;omega)];try with_reducible rfl)
             rotate_left
             ·simp only [Act.put,List.setIfInBounds_toArray,List.set_cons_zero,List.set_cons_succ,i64_w,i32_w]
              rfl
             exact norm_ (by simp only [putAll,Act.put,List.setIfInBounds_toArray,List.set_cons_zero,List.set_cons_succ]) (hCont (gb653) _ ⟨hHeld,(by (with_reducible repeat (first|apply Kd.R_alloc|apply Kd.R_drewN|apply Kd.R_drew));exact HO_4.out),(by (with_reducible repeat (first|refine blk_drewN ?_ _|refine blk_drew ?_|refine blk_alloc ?_ _));exact BK645.out),(by (with_reducible repeat (first|refine blk_drewN ?_ _|refine blk_drew ?_|refine blk_alloc ?_ _));exact BK653.out),GW653.out,GE653.out,NB645_653.out,NB653_645.out,(by repeat (first|(with_reducible first|exact HB.out|apply below_alloc|apply pw_below_drewN|apply below_drew1|refine below_set ?_ GE645.out|refine below_set ?_ GE653.out)|exact HB.out))⟩)
           rintro gb653 w31 ⟨hS_,h0_,h1_,h2_,h3_,h4_,h5_,h6_,h7_⟩
           have n0_ : Aside0 (Kd.R k60 60 w31 w.heap.size (fun k_=>k_ ≠ gb645 ∧ k_ ≠ gb653) u4 x4_1):=⟨h0_⟩
           have n1_ : Aside0 (w31.heap[gb645]? = some (.cells #[.int .i64 x646000_1,.string x646001_1,.int .i64 x646002_1,.int .i64 x646003_1] 60 (0,0))):=⟨h1_⟩
           have n2_ : Aside0 (w31.heap[gb653]? = some (.cells #[.int .i64 0,.string (⟨#[]⟩ : ByteArray),.int .i64 0,.int .i64 0] 60 (0,0))):=⟨h2_⟩
           have n3_ : Aside0 (w.heap.size ≤ gb653):=⟨h3_⟩
           have n4_ : Aside0 (w.heap.size ≤ gb653):=⟨h4_⟩
           have n5_ : Aside0 (gb645 ≠ gb653):=⟨h5_⟩
           have n6_ : Aside0 (gb653 ≠ gb645):=⟨h6_⟩
           have n7_ : Aside0 (Below w.heap.size w w31):=⟨h7_⟩
           clear HO_4
           clear BK645
           clear HB
           clear h0_ h1_ h2_ h3_ h4_ h5_ h6_ h7_
           have HO_4:=n0_
           have BK645:=n1_
           have BK653:=n2_
           have GW653:=n3_
           have GE653:=n4_
           have NB645_653:=n5_
           have NB653_645:=n6_
           have HB:=n7_
           clear n0_ n1_ n2_ n3_ n4_ n5_ n6_ n7_
           have hHeld : w31.cell? ⟨gb645,0,none⟩ = some (.int .i64 x646000_1) ∧ w31.cell? ⟨gb645,1,none⟩ = some (.string x646001_1) ∧ w31.cell? ⟨gb645,2,none⟩ = some (.int .i64 x646002_1) ∧ w31.cell? ⟨gb645,3,none⟩ = some (.int .i64 x646003_1):=hS_
           refine norm_ (a':=?_) ?_ ?_
           rotate_left
           ·simp only [putAll,Act.put,List.setIfInBounds_toArray,List.set_cons_zero,List.set_cons_succ]
            rfl
           refine one_ (i:=9) (N:=none) #[true,true,true,true,true,true,true,true,true,true,false] rfl rfl (one_of HT_.out (by kernel_rfl)) (by decide) (fun K hK=>?_)
           have hs32 : w31.cell? ⟨gb653,0,none⟩ = some (.int .i64 0):=(blk_cell BK653.out 0).trans rfl
           have hfs32:=blk_frozen BK653.out 0
           have hns32_0:=NB645_653.out
           have hms32_0:=NB653_645.out
           have hs33 : w31.cell? ⟨gb653,1,none⟩ = some (.string (⟨#[]⟩ : ByteArray)):=(blk_cell BK653.out 1).trans rfl
           have hfs33:=blk_frozen BK653.out 1
           have hns33_0:=NB645_653.out
           have hms33_0:=NB653_645.out
           have hs34 : w31.cell? ⟨gb653,2,none⟩ = some (.int .i64 0):=(blk_cell BK653.out 2).trans rfl
           have hfs34:=blk_frozen BK653.out 2
           have hns34_0:=NB645_653.out
           have hms34_0:=NB653_645.out
           have hs35 : w31.cell? ⟨gb653,3,none⟩ = some (.int .i64 0):=(blk_cell BK653.out 3).trans rfl
           have hfs35:=blk_frozen BK653.out 3
           have hns35_0:=NB645_653.out
           have hms35_0:=NB653_645.out
           refine skip_ (w1:=?_) (by rfl) rfl ?_ ?_
           rotate_left
           ·go_simp
            rfl
           refine hK.out _ _ ⟨((cell_far (p:=⟨gb653,_,none⟩) NB645_653.out _).trans (((cell_far (p:=⟨gb653,_,none⟩) NB645_653.out _).trans (((cell_far (p:=⟨gb653,_,none⟩) NB645_653.out _).trans (((cell_far (p:=⟨gb653,_,none⟩) NB645_653.out _).trans (hHeld.1)))))))),((cell_far (p:=⟨gb653,_,none⟩) NB645_653.out _).trans (((cell_far (p:=⟨gb653,_,none⟩) NB645_653.out _).trans (((cell_far (p:=⟨gb653,_,none⟩) NB645_653.out _).trans (((cell_far (p:=⟨gb653,_,none⟩) NB645_653.out _).trans (hHeld.2.1)))))))),((cell_far (p:=⟨gb653,_,none⟩) NB645_653.out _).trans (((cell_far (p:=⟨gb653,_,none⟩) NB645_653.out _).trans (((cell_far (p:=⟨gb653,_,none⟩) NB645_653.out _).trans (((cell_far (p:=⟨gb653,_,none⟩) NB645_653.out _).trans (hHeld.2.2.1)))))))),((cell_far (p:=⟨gb653,_,none⟩) NB645_653.out _).trans (((cell_far (p:=⟨gb653,_,none⟩) NB645_653.out _).trans (((cell_far (p:=⟨gb653,_,none⟩) NB645_653.out _).trans (((cell_far (p:=⟨gb653,_,none⟩) NB645_653.out _).trans (hHeld.2.2.2))))))))⟩ (fun hHeld=>?_)
           clear hK K
           refine pure_ (i:=10) (N:=some 8) (v:=?_) (a':=?_) #[true,true,true,true,true,true,true,true,true,true,true] rfl rfl (any_of HT_.out (by kernel_rfl)) (fun _ _ _ h=>h) (Or.inl ⟨by rfl,?_⟩) ?_ ?_
           rotate_left
           ·intro w'
            go_simp
            first|with_reducible rfl|(rw [if_neg (by simp only [ByteArray.size_append,ByteArray.size_extract,eq_iff_iff,iff_true,iff_false] at *;omega)];try with_reducible rfl)
           rotate_left
           ·simp only [Act.put,List.setIfInBounds_toArray,List.set_cons_zero,List.set_cons_succ,i64_w,i32_w]
            rfl
           refine done_ (done_of HT_.out (by kernel_rfl)) ?_
           have hnb36:=NB653_645.out
           have hnc36:=NB645_653.out
           have hcz37_0 : w31.cell? ⟨gb653,0,none⟩ = some (.int .i64 0):=(blk_cell BK653.out 0).trans rfl
           have hcz37_1 : w31.cell? ⟨gb653,1,none⟩ = some (.string (⟨#[]⟩ : ByteArray)):=(blk_cell BK653.out 1).trans rfl
           have hcz37_2 : w31.cell? ⟨gb653,2,none⟩ = some (.int .i64 0):=(blk_cell BK653.out 2).trans rfl
           have hcz37_3 : w31.cell? ⟨gb653,3,none⟩ = some (.int .i64 0):=(blk_cell BK653.out 3).trans rfl
           have hfz37_0:=blk_frozen BK653.out 0
           have hfz37_1:=blk_frozen BK653.out 1
           have hfz37_2:=blk_frozen BK653.out 2
           have hfz37_3:=blk_frozen BK653.out 3
           try go_wp2
           have n0_ : Aside0 (Kd.R k60 60 (((((w31.setCell ⟨gb653,0,none⟩ (.int .i64 t648)).setCell ⟨gb653,1,none⟩ (.string t649)).setCell ⟨gb653,2,none⟩ (.int .i64 t650)).setCell ⟨gb653,3,none⟩ (.int .i64 t651)).setCell ⟨gb653,3,none⟩ (.int .i64 x6_1)) w.heap.size (fun k_=>k_ ≠ gb645 ∧ k_ ≠ gb653) u4 x4_1):=⟨by (with_reducible repeat (first|apply Kd.R_alloc|apply Kd.R_drewN|apply Kd.R_drew));exact Kd.R_mono (Kd.R_far (p:=⟨gb653,3,none⟩) (Kd.R_far (p:=⟨gb653,3,none⟩) (Kd.R_far (p:=⟨gb653,2,none⟩) (Kd.R_far (p:=⟨gb653,1,none⟩) (Kd.R_far (p:=⟨gb653,0,none⟩) (Kd.R_mono HO_4.out (fun k_ hk=>(⟨hk,hk.2⟩ : _ ∧ k_ ≠ gb653))) (fun _ hk=>hk.2) (.int .i64 t648)) (fun _ hk=>hk.2) (.string t649)) (fun _ hk=>hk.2) (.int .i64 t650)) (fun _ hk=>hk.2) (.int .i64 t651)) (fun _ hk=>hk.2) (.int .i64 x6_1)) (fun _ hk=>⟨hk.1.1,hk.1.2⟩)⟩
           have n1_ : Aside0 ((((((w31.setCell ⟨gb653,0,none⟩ (.int .i64 t648)).setCell ⟨gb653,1,none⟩ (.string t649)).setCell ⟨gb653,2,none⟩ (.int .i64 t650)).setCell ⟨gb653,3,none⟩ (.int .i64 t651)).setCell ⟨gb653,3,none⟩ (.int .i64 x6_1)).heap[gb645]? = some (.cells #[.int .i64 x646000_1,.string x646001_1,.int .i64 x646002_1,.int .i64 x646003_1] 60 (0,0))):=⟨by (with_reducible repeat (first|refine blk_drewN ?_ _|refine blk_drew ?_|refine blk_alloc ?_ _));refine blk_far ?_ NB645_653.out _;(with_reducible repeat (first|refine blk_drewN ?_ _|refine blk_drew ?_|refine blk_alloc ?_ _));refine blk_far ?_ NB645_653.out _;(with_reducible repeat (first|refine blk_drewN ?_ _|refine blk_drew ?_|refine blk_alloc ?_ _));refine blk_far ?_ NB645_653.out _;(with_reducible repeat (first|refine blk_drewN ?_ _|refine blk_drew ?_|refine blk_alloc ?_ _));refine blk_far ?_ NB645_653.out _;(with_reducible repeat (first|refine blk_drewN ?_ _|refine blk_drew ?_|refine blk_alloc ?_ _));refine blk_far ?_ NB645_653.out _;(with_reducible repeat (first|refine blk_drewN ?_ _|refine blk_drew ?_|refine blk_alloc ?_ _));exact BK645.out⟩
           have n2_ : Aside0 ((((((w31.setCell ⟨gb653,0,none⟩ (.int .i64 t648)).setCell ⟨gb653,1,none⟩ (.string t649)).setCell ⟨gb653,2,none⟩ (.int .i64 t650)).setCell ⟨gb653,3,none⟩ (.int .i64 t651)).setCell ⟨gb653,3,none⟩ (.int .i64 x6_1)).heap[gb653]? = some (.cells #[.int .i64 t648,.string t649,.int .i64 t650,.int .i64 x6_1] 60 (0,0))):=⟨by (with_reducible repeat (first|refine blk_drewN ?_ _|refine blk_drew ?_|refine blk_alloc ?_ _));refine blk_put (cs:=#[.int .i64 t648,.string t649,.int .i64 t650,.int .i64 t651]) ?_ 3 _ rfl;(with_reducible repeat (first|refine blk_drewN ?_ _|refine blk_drew ?_|refine blk_alloc ?_ _));refine blk_put (cs:=#[.int .i64 t648,.string t649,.int .i64 t650,.int .i64 0]) ?_ 3 _ rfl;(with_reducible repeat (first|refine blk_drewN ?_ _|refine blk_drew ?_|refine blk_alloc ?_ _));refine blk_put (cs:=#[.int .i64 t648,.string t649,.int .i64 0,.int .i64 0]) ?_ 2 _ rfl;(with_reducible repeat (first|refine blk_drewN ?_ _|refine blk_drew ?_|refine blk_alloc ?_ _));refine blk_put (cs:=#[.int .i64 t648,.string (⟨#[]⟩ : ByteArray),.int .i64 0,.int .i64 0]) ?_ 1 _ rfl;(with_reducible repeat (first|refine blk_drewN ?_ _|refine blk_drew ?_|refine blk_alloc ?_ _));refine blk_put (cs:=#[.int .i64 0,.string (⟨#[]⟩ : ByteArray),.int .i64 0,.int .i64 0]) ?_ 0 _ rfl;(with_reducible repeat (first|refine blk_drewN ?_ _|refine blk_drew ?_|refine blk_alloc ?_ _));exact BK653.out⟩
           have n3_ : Aside0 (Below w.heap.size w (((((w31.setCell ⟨gb653,0,none⟩ (.int .i64 t648)).setCell ⟨gb653,1,none⟩ (.string t649)).setCell ⟨gb653,2,none⟩ (.int .i64 t650)).setCell ⟨gb653,3,none⟩ (.int .i64 t651)).setCell ⟨gb653,3,none⟩ (.int .i64 x6_1))):=⟨by repeat (first|(with_reducible first|exact HB.out|apply below_alloc|apply pw_below_drewN|apply below_drew1|refine below_set ?_ GE645.out|refine below_set ?_ GE653.out)|exact HB.out)⟩
           (try clear HO_4)
           (try clear BK645)
           (try clear BK653)
           (try clear HB)
           generalize (((((w31.setCell ⟨gb653,0,none⟩ (.int .i64 t648)).setCell ⟨gb653,1,none⟩ (.string t649)).setCell ⟨gb653,2,none⟩ (.int .i64 t650)).setCell ⟨gb653,3,none⟩ (.int .i64 t651)).setCell ⟨gb653,3,none⟩ (.int .i64 x6_1)) = w38 at n0_ n1_ n2_ n3_ ⊢
           have HO_4:=n0_
           have BK645:=n1_
           have BK653:=n2_
           have HB:=n3_
           clear n0_ n1_ n2_ n3_
           have n0_:=Aside0.mk (Kd.R_drew HO_4.out)
           have n1_:=Aside0.mk (blk_drew BK645.out)
           have n2_:=Aside0.mk (blk_drew BK653.out)
           have n3_:=Aside0.mk (below_drew1 HB.out)
           clear HO_4
           clear BK645
           clear BK653
           clear HB
           have HO_4:=n0_
           have BK645:=n1_
           have BK653:=n2_
           have HB:=n3_
           clear n0_ n1_ n2_ n3_
           refine start_ (n:=11) (S:=fun w'=>w'.cell? ⟨gb653,0,none⟩ = some (.int .i64 t648) ∧ w'.cell? ⟨gb653,1,none⟩ = some (.string t649) ∧ w'.cell? ⟨gb653,2,none⟩ = some (.int .i64 t650) ∧ w'.cell? ⟨gb653,3,none⟩ = some (.int .i64 x6_1)) (ds:=[]) #[false,false,false,false,false,false,false,false,false,false,false] (by kernel_rfl) rfl rfl ⟨(blk_cell BK653.out 0).trans rfl,(blk_cell BK653.out 1).trans rfl,(blk_cell BK653.out 2).trans rfl,(blk_cell BK653.out 3).trans rfl⟩ (fun hHeld=>?_);refine with_tabW impl_Lex.tab14 impl_Lex.bits14 (fun HT_ HW_=>?_)
           generalize w38.drew = w39 at HO_4 BK645 BK653 HB hHeld ⊢
           refine pure_ (i:=0) (N:=some 48) (v:=?_) (a':=?_) #[true,false,false,false,false,false,false,false,false,false,false] rfl rfl (any_of HT_.out (by kernel_rfl)) (fun _ _ _ h=>h) (Or.inl ⟨by rfl,?_⟩) ?_ ?_
           rotate_left
           ·intro w'
            go_simp
            first|with_reducible rfl|(rw [if_neg (by simp only [ByteArray.size_append,ByteArray.size_extract,eq_iff_iff,iff_true,iff_false] at *;omega)];try with_reducible rfl)
           rotate_left
           ·simp only [Act.put,List.setIfInBounds_toArray,List.set_cons_zero,List.set_cons_succ,i64_w,i32_w]
            rfl
           refine pure_ (i:=5) (N:=some 53) (v:=?_) (a':=?_) #[true,false,false,false,false,true,false,false,false,false,false] rfl rfl (any_of HT_.out (by kernel_rfl)) (fun _ _ _ h=>h) (Or.inl ⟨by rfl,?_⟩) ?_ ?_
           rotate_left
           ·intro w'
            go_simp
            first|with_reducible rfl|(rw [if_neg (by simp only [ByteArray.size_append,ByteArray.size_extract,eq_iff_iff,iff_true,iff_false] at *;omega)];try with_reducible rfl)
           rotate_left
           ·simp only [Act.put,List.setIfInBounds_toArray,List.set_cons_zero,List.set_cons_succ,i64_w,i32_w]
            rfl
           refine pure_ (i:=6) (N:=some 54) (v:=?_) (a':=?_) #[true,false,false,false,false,true,true,false,false,false,false] rfl rfl (any_of HT_.out (by kernel_rfl)) (fun _ _ _ h=>h) (Or.inl ⟨by rfl,?_⟩) ?_ ?_
           rotate_left
           ·intro w'
            go_simp
            first|with_reducible rfl|(rw [if_neg (by simp only [ByteArray.size_append,ByteArray.size_extract,eq_iff_iff,iff_true,iff_false] at *;omega)];try with_reducible rfl)
           rotate_left
           ·simp only [Act.put,List.setIfInBounds_toArray,List.set_cons_zero,List.set_cons_succ,i64_w,i32_w]
            rfl
           refine pure_ (i:=7) (N:=some 55) (v:=?_) (a':=?_) #[true,false,false,false,false,true,true,true,false,false,false] rfl rfl (any_of HT_.out (by kernel_rfl)) (fun _ _ _ h=>h) (Or.inl ⟨by rfl,?_⟩) ?_ ?_
           rotate_left
           ·intro w'
            go_simp
            first|with_reducible rfl|(rw [if_neg (by simp only [ByteArray.size_append,ByteArray.size_extract,eq_iff_iff,iff_true,iff_false] at *;omega)];try with_reducible rfl)
           rotate_left
           ·simp only [Act.put,List.setIfInBounds_toArray,List.set_cons_zero,List.set_cons_succ,i64_w,i32_w]
            rfl
           refine take_ (i:=1) (N:=some 49) (v:=?_) (a':=?_) #[true,true,false,false,false,true,true,true,false,false,false] rfl rfl (take_ofW HT_.out HW_.out (by kernel_rfl)) (fun _ _ _ h=>h) (Or.inl ⟨by rfl,?_⟩) hHeld ?_ ?_
           rotate_left
           ·rintro w' ⟨s0,s1,s2,s3⟩
            go_simp
            first|with_reducible rfl|(rw [if_neg (by simp only [ByteArray.size_append,ByteArray.size_extract,eq_iff_iff,iff_true,iff_false] at *;omega)];try with_reducible rfl)
           rotate_left
           ·simp only [Act.put,List.setIfInBounds_toArray,List.set_cons_zero,List.set_cons_succ,i64_w,i32_w]
            rfl
           refine take_ (i:=4) (N:=some 52) (v:=?_) (a':=?_) #[true,true,false,false,true,true,true,true,false,false,false] rfl rfl (take_ofW HT_.out HW_.out (by kernel_rfl)) (fun _ _ _ h=>h) (Or.inl ⟨by rfl,?_⟩) hHeld ?_ ?_
           rotate_left
           ·rintro w' ⟨s0,s1,s2,s3⟩
            go_simp
            first|with_reducible rfl|(rw [if_neg (by simp only [ByteArray.size_append,ByteArray.size_extract,eq_iff_iff,iff_true,iff_false] at *;omega)];try with_reducible rfl)
           rotate_left
           ·simp only [Act.put,List.setIfInBounds_toArray,List.set_cons_zero,List.set_cons_succ,i64_w,i32_w]
            rfl
           refine one_ (i:=2) (N:=some 50) #[true,true,true,false,true,true,true,true,false,false,false] rfl rfl (one_of HT_.out (by kernel_rfl)) (by decide) (fun K hK=>?_)
           refine value_ (w1:=?_) (v:=?_) (by rfl) rfl ?_ ?_
           rotate_left 2
           ·go_simp
            constructor
            ·rfl
            ·rfl
           refine hK.out _ _ ⟨(blk_cell (blk_alloc BK653.out _) 0).trans rfl,(blk_cell (blk_alloc BK653.out _) 1).trans rfl,(blk_cell (blk_alloc BK653.out _) 2).trans rfl,(blk_cell (blk_alloc BK653.out _) 3).trans rfl⟩ (fun hHeld=>?_)
           clear hK K
           refine norm_ (a':=?_) ?_ ?_
           rotate_left
           ·show Act.put _ (some 50) _ = _
            simp only [Act.put,List.setIfInBounds_toArray,List.set_cons_zero,List.set_cons_succ,i64_w,i32_w]
            rfl
           refine one_ (i:=3) (N:=some 51) #[true,true,true,true,true,true,true,true,false,false,false] rfl rfl (one_of HT_.out (by kernel_rfl)) (by decide) (fun K hK=>?_)
           refine Kd.R_append_step k60 (w0:=w) w.heap.size (by rfl) (.tmp 48) (.tmp 50) 55 60 (.agg #[(.int .i64 0),(.string ⟨#[]⟩),(.int .i64 0),(.int .i64 0)]) 40 rfl Tryd.underlying55 info60 rfl (by decide) (by omega) u4 x4_1 (⟨t648,t649,t650,x6_1⟩ : S60) [.int .i64 t648,.string t649,.int .i64 t650,.int .i64 x6_1] (fun k_=>k_ ≠ gb645 ∧ k_ ≠ gb653) (fun _=>False) rfl rfl ?aP (fun _ hk=>hk.elim) ?aF ?aO ?aB ?aS ?aL ?_
           (case aP=>exact k60_mkM _ _ _ (⟨t648,t649,t650,x6_1⟩ : S60))
           (case aB=>exact (by repeat (first|(with_reducible first|exact HB.out|apply below_alloc|apply pw_below_drewN|apply below_drew1|refine below_set ?_ GE645.out|refine below_set ?_ GE653.out)|exact HB.out)))
           (case aF=>exact (fun k_ hk=>⟨Kd.freshB (g:=gb645) (o:=.cells #[.int .i64 x646000_1,.string x646001_1,.int .i64 x646002_1,.int .i64 x646003_1] 60 (0,0)) (by (with_reducible repeat (first|refine blk_drewN ?_ _|refine blk_drew ?_|refine blk_alloc ?_ _));exact BK645.out) k_ hk,Kd.freshB (g:=gb653) (o:=.cells #[.int .i64 t648,.string t649,.int .i64 t650,.int .i64 x6_1] 60 (0,0)) (by (with_reducible repeat (first|refine blk_drewN ?_ _|refine blk_drew ?_|refine blk_alloc ?_ _));exact BK653.out) k_ hk⟩))
           (case aO=>exact (by (with_reducible repeat (first|apply Kd.R_alloc|apply Kd.R_drewN|apply Kd.R_drew));exact HO_4.out))
           (case aS=>exact (below_size (by repeat (first|(with_reducible first|exact HB.out|apply below_alloc|apply pw_below_drewN|apply below_drew1|refine below_set ?_ GE645.out|refine below_set ?_ GE653.out)|exact HB.out))))
           (case aL=>have:=LMc27.out;omega)
           intro v655 w40 ho hb hg hat
           rw [← Ny654.out] at ho
           have n0_:=Aside0.mk (blk_grown (g:=gb645) (o:=.cells #[.int .i64 x646000_1,.string x646001_1,.int .i64 x646002_1,.int .i64 x646003_1] 60 (0,0)) (by (with_reducible repeat (first|refine blk_drewN ?_ _|refine blk_drew ?_|refine blk_alloc ?_ _));exact BK645.out) hg (Kd.R_away HO_4.out (fun _ hk=>hk.1)))
           have n1_:=Aside0.mk (blk_grown (g:=gb653) (o:=.cells #[.int .i64 t648,.string t649,.int .i64 t650,.int .i64 x6_1] 60 (0,0)) (by (with_reducible repeat (first|refine blk_drewN ?_ _|refine blk_drew ?_|refine blk_alloc ?_ _));exact BK653.out) hg (Kd.R_away HO_4.out (fun _ hk=>hk.2)))
           have n2_:=Aside0.mk (hb)
           have n3_:=Aside0.mk (ho)
           clear BK645
           clear BK653
           clear HB
           clear HO_4
           have BK645:=n0_
           have BK653:=n1_
           have HB:=n2_
           have HO656:=n3_
           clear n0_ n1_ n2_ n3_
           clear ho hb hg hat
           refine hK.out _ _ ⟨(blk_cell BK653.out 0).trans rfl,(blk_cell BK653.out 1).trans rfl,(blk_cell BK653.out 2).trans rfl,(blk_cell BK653.out 3).trans rfl⟩ (fun hHeld=>?_)
           clear hK K
           refine norm_ (a':=?_) ?_ ?_
           rotate_left
           ·show Act.put _ (some 51) _ = _
            simp only [Act.put,List.setIfInBounds_toArray,List.set_cons_zero,List.set_cons_succ,i64_w,i32_w]
            rfl
           refine pure_ (i:=8) (N:=some 4) (v:=?_) (a':=?_) #[true,true,true,true,true,true,true,true,true,false,false] rfl rfl (any_of HT_.out (by kernel_rfl)) (fun _ _ _ h=>h) (Or.inl ⟨by rfl,?_⟩) ?_ ?_
           rotate_left
           ·intro w'
            go_simp
            first|with_reducible rfl|(rw [if_neg (by simp only [ByteArray.size_append,ByteArray.size_extract,eq_iff_iff,iff_true,iff_false] at *;omega)];try with_reducible rfl)
           rotate_left
           ·simp only [Act.put,List.setIfInBounds_toArray,List.set_cons_zero,List.set_cons_succ,i64_w,i32_w]
            rfl
           refine one_ (i:=9) (N:=none) #[true,true,true,true,true,true,true,true,true,true,false] rfl rfl (one_of HT_.out (by kernel_rfl)) (by decide) (fun K hK=>?_)
           have hs41 : w40.cell? ⟨gb645,0,none⟩ = some (.int .i64 x646000_1):=(blk_cell BK645.out 0).trans rfl
           have hfs41:=blk_frozen BK645.out 0
           have hns41_1:=NB653_645.out
           have hms41_1:=NB645_653.out
           have hs42 : w40.cell? ⟨gb645,1,none⟩ = some (.string x646001_1):=(blk_cell BK645.out 1).trans rfl
           have hfs42:=blk_frozen BK645.out 1
           have hns42_1:=NB653_645.out
           have hms42_1:=NB645_653.out
           have hs43 : w40.cell? ⟨gb645,2,none⟩ = some (.int .i64 x646002_1):=(blk_cell BK645.out 2).trans rfl
           have hfs43:=blk_frozen BK645.out 2
           have hns43_1:=NB653_645.out
           have hms43_1:=NB645_653.out
           have hs44 : w40.cell? ⟨gb645,3,none⟩ = some (.int .i64 x646003_1):=(blk_cell BK645.out 3).trans rfl
           have hfs44:=blk_frozen BK645.out 3
           have hns44_1:=NB653_645.out
           have hms44_1:=NB645_653.out
           refine skip_ (w1:=?_) (by rfl) rfl ?_ ?_
           rotate_left
           ·go_simp
            rfl
           refine hK.out _ _ ⟨((cell_far (p:=⟨gb645,_,none⟩) NB653_645.out _).trans (((cell_far (p:=⟨gb645,_,none⟩) NB653_645.out _).trans (((cell_far (p:=⟨gb645,_,none⟩) NB653_645.out _).trans (((cell_far (p:=⟨gb645,_,none⟩) NB653_645.out _).trans (hHeld.1)))))))),((cell_far (p:=⟨gb645,_,none⟩) NB653_645.out _).trans (((cell_far (p:=⟨gb645,_,none⟩) NB653_645.out _).trans (((cell_far (p:=⟨gb645,_,none⟩) NB653_645.out _).trans (((cell_far (p:=⟨gb645,_,none⟩) NB653_645.out _).trans (hHeld.2.1)))))))),((cell_far (p:=⟨gb645,_,none⟩) NB653_645.out _).trans (((cell_far (p:=⟨gb645,_,none⟩) NB653_645.out _).trans (((cell_far (p:=⟨gb645,_,none⟩) NB653_645.out _).trans (((cell_far (p:=⟨gb645,_,none⟩) NB653_645.out _).trans (hHeld.2.2.1)))))))),((cell_far (p:=⟨gb645,_,none⟩) NB653_645.out _).trans (((cell_far (p:=⟨gb645,_,none⟩) NB653_645.out _).trans (((cell_far (p:=⟨gb645,_,none⟩) NB653_645.out _).trans (((cell_far (p:=⟨gb645,_,none⟩) NB653_645.out _).trans (hHeld.2.2.2))))))))⟩ (fun hHeld=>?_)
           clear hK K
           refine pure_ (i:=10) (N:=some 6) (v:=?_) (a':=?_) #[true,true,true,true,true,true,true,true,true,true,true] rfl rfl (any_of HT_.out (by kernel_rfl)) (fun _ _ _ h=>h) (Or.inl ⟨by rfl,?_⟩) ?_ ?_
           rotate_left
           ·intro w'
            go_simp
            first|with_reducible rfl|(rw [if_neg (by simp only [ByteArray.size_append,ByteArray.size_extract,eq_iff_iff,iff_true,iff_false] at *;omega)];try with_reducible rfl)
           rotate_left
           ·simp only [Act.put,List.setIfInBounds_toArray,List.set_cons_zero,List.set_cons_succ,i64_w,i32_w]
            rfl
           refine done_ (done_of HT_.out (by kernel_rfl)) ?_
           try go_wp2
           go_roundg k1
           case measure=>have:=HK1.out;omega
           case rel=>exact ⟨(y654),(wrap64 (x6_1 + t652)),(t648),(t649),(t650),(x6_1),(by first|rfl|(simp;done)|(simp [*];done)),H',⟨by have:=HK1.out;omega⟩,⟨by (with_reducible repeat (first|apply Kd.R_alloc|apply Kd.R_drewN|apply Kd.R_drew));exact Kd.R_mono (Kd.R_far (p:=⟨gb645,3,none⟩) (Kd.R_far (p:=⟨gb645,2,none⟩) (Kd.R_far (p:=⟨gb645,1,none⟩) (Kd.R_far (p:=⟨gb645,0,none⟩) (Kd.R_mono HO656.out (fun k_ hk=>(⟨hk,hk.1⟩ : _ ∧ k_ ≠ gb645))) (fun _ hk=>hk.2) (.int .i64 t648)) (fun _ hk=>hk.2) (.string t649)) (fun _ hk=>hk.2) (.int .i64 t650)) (fun _ hk=>hk.2) (.int .i64 x6_1)) (fun _ hk=>hk.1.1)⟩,⟨by (with_reducible repeat (first|refine blk_drewN ?_ _|refine blk_drew ?_|refine blk_alloc ?_ _));refine blk_put (cs:=#[.int .i64 t648,.string t649,.int .i64 t650,.int .i64 x646003_1]) ?_ 3 _ rfl;(with_reducible repeat (first|refine blk_drewN ?_ _|refine blk_drew ?_|refine blk_alloc ?_ _));refine blk_put (cs:=#[.int .i64 t648,.string t649,.int .i64 x646002_1,.int .i64 x646003_1]) ?_ 2 _ rfl;(with_reducible repeat (first|refine blk_drewN ?_ _|refine blk_drew ?_|refine blk_alloc ?_ _));refine blk_put (cs:=#[.int .i64 t648,.string x646001_1,.int .i64 x646002_1,.int .i64 x646003_1]) ?_ 1 _ rfl;(with_reducible repeat (first|refine blk_drewN ?_ _|refine blk_drew ?_|refine blk_alloc ?_ _));refine blk_put (cs:=#[.int .i64 x646000_1,.string x646001_1,.int .i64 x646002_1,.int .i64 x646003_1]) ?_ 0 _ rfl;(with_reducible repeat (first|refine blk_drewN ?_ _|refine blk_drew ?_|refine blk_alloc ?_ _));exact BK645.out⟩,⟨by repeat (first|(with_reducible first|exact HB.out|apply below_alloc|apply pw_below_drewN|apply below_drew1|refine below_set ?_ GE645.out|refine below_set ?_ GE653.out)|exact HB.out)⟩⟩
          ·rw [if_neg c27] at H
           exact absurd H (by simp)
        ·rw [if_neg c16] at H
         exact absurd H (by simp)
     ·rw [if_neg c8] at H
      exact absurd H (by simp)
    ·rw [if_neg c7] at H
     have c7b0 : decide (x6_1 < (a0.size : Int)) = false:=decide_eq_false c7
     clear c7
     simp only [Option.some.injEq,Prod.mk.injEq] at H
     obtain ⟨rfl,rfl⟩:=H
     go_wp2
     go_ret2
     exact ⟨_,by first|rfl|(simp [errW_none,errW_some] <;> rfl)|(simp [*,errW_none,errW_some] <;> rfl),by (with_reducible repeat (first|apply Kd.R_alloc|apply Kd.R_drewN|apply Kd.R_drew));exact Kd.R_mono HO_4.out (fun _ hk=>trivial),by repeat (first|(with_reducible first|exact HB.out|apply below_alloc|apply pw_below_drewN|apply below_drew1|refine below_set ?_ GE645.out)|exact HB.out)⟩
def impl_quotedText.l0 : Nat → ByteArray → List Int → Int → Int → Option (ByteArray)
 | 0,_,_,_,_=>none
 | k + 1,x0,x3,x8,x9=>if x9 < x8 then (if 0 ≤ x9 then (if x9 < (x0.size : Int) then ((strings_IndexByte.f (⟨#[10,9,34,92]⟩ : ByteArray) (bt x0 x9)).bind fun t660=>(if t660 ≥ 0 then (if 0 ≤ t660 then (if t660 < 4 then ((some (([92,bt (⟨#[110,116,34,92]⟩ : ByteArray) t660] : List Int) : List Int)).bind fun y661=>(if x3.length + y661.length < 140737488355328 then (impl_quotedText.l0 k x0 (x3 ++ y661) x8 (wrap64 (x9 + 1))) else (none))) else (none)) else (none)) else (if x3.length < 140737488355328 then (impl_quotedText.l0 k x0 (x3 ++ [bt x0 x9]) x8 (wrap64 (x9 + 1))) else (none)))) else (none)) else (none)) else (if x3.length < 140737488355328 then (some (strOfNums (x3 ++ [34]))) else (none))
def impl_quotedText.f (k : Nat) (a0 : ByteArray) : Option (ByteArray):=impl_quotedText.l0 k a0 (([34] : List Int)) (a0.size : Int) 0
theorem impl_quotedText.mono_l : ∀ k,(∀ y0 y1 y2 y3,LeO (impl_quotedText.l0 k y0 y1 y2 y3) (impl_quotedText.l0 (k + 1) y0 y1 y2 y3))
 | 0=>fun _ _ _ _ r h=>by simp [impl_quotedText.l0] at h
 | k + 1=>by
  have ih0:=impl_quotedText.mono_l k
  ·intro y0 y1 y2 y3
   unfold impl_quotedText.l0
   repeat' first
   | (with_reducible exact ih0 _ _ _ _)
   | (with_reducible exact LeO.refl _)
   | (with_reducible exact LeO.none _)
   | (with_reducible refine LeO.ite ?_ ?_)
   | (with_reducible refine LeO.bind ?_ (fun _=>?_))
   | exact ih0 _ _ _ _
   | exact LeO.none _
   | refine LeO.ite ?_ ?_
   | refine LeO.bind ?_ (fun _=>?_)
theorem impl_quotedText.mono : ∀ a0 k,LeO (impl_quotedText.f k a0) (impl_quotedText.f (k + 1) a0):=by
 intro a0 k
 have ih0:=impl_quotedText.mono_l k
 unfold impl_quotedText.f
 repeat' first
   | (with_reducible exact ih0 _ _ _ _)
   | (with_reducible exact LeO.refl _)
   | (with_reducible exact LeO.none _)
   | (with_reducible refine LeO.ite ?_ ?_)
   | (with_reducible refine LeO.bind ?_ (fun _=>?_))
   | exact ih0 _ _ _ _
   | exact LeO.none _
   | refine LeO.ite ?_ ?_
   | refine LeO.bind ?_ (fun _=>?_)
set_option maxHeartbeats 8000000 in
set_option maxRecDepth 100000 in
theorem impl_quotedText.calls (k : Nat) (a0 : ByteArray) (r : ByteArray) (w : World) (h : impl_quotedText.f k a0 = some r) :
  Calls Tryd.prog 88 #[.string a0] w fun e w'=>e = .returned (.string r) ∧ Below w.heap.size w w':=by
 have HB:=Aside0.mk (Below.refl w.heap.size w)
 have H : (impl_quotedText.l0 k a0 (([34] : List Int)) (a0.size : Int) 0) = some r:=h
 clear h
 obtain ⟨y657,hy657⟩ : ∃ y_ : List Int,y_ = (([34] : List Int)):=⟨_,rfl⟩
 replace H : (impl_quotedText.l0 k a0 y657 (a0.size : Int) 0) = some r:=by first|(rw [hy657];with_reducible exact H)|(have H2_:=(Option.bind_some _ _).symm.trans H;rw [hy657];with_reducible exact H2_)|(have H2_:=(Option.bind_some _ _).symm.trans H;with_reducible exact H2_)|with_reducible exact H|(rw [hy657];exact H)|exact H
 have Ny657:=Aside0.mk hy657
 clear hy657
 have H':=Aside0.mk H
 clear H
 go_enter Tryd.func88,Tryd.ntmps88
 go_wp2_with (first|((with_reducible refine gate_dst (N:=6) rfl ?_);refine Kd.R_lit (Kd.int .u8) _ 5 ?hg (N:=6) ?hd (xs:=([34] : List Int)) (inner:=[.int .u8 34]) (ok:=fun _=>True) (okp:=fun _=>True) ?hr ?hp (fun _ hk=>hk) trivial (Below.refl _ _) (Nat.le_refl _) (by simp) ?_;(case hd=>rfl);(case hg=>rfl);(case hr=>first|(go_simp;done)|(go_simp;rfl));(case hp=>exact (Reps.one (show Kd.M (Kd.int .u8) _ _ _ 34 [.int .u8 34] from rfl) (Reps.none _ _)));intro v658 w2 ho3 hb hg_ hnew_;clear hg_ hnew_;(first|rw [← Ny657.out] at ho3|(simp only [Int.reduceToNat] at ho3;rw [← Ny657.out] at ho3));have n0_:=Aside0.mk (Kd.R_lower ho3 (below_size (by repeat (first|(with_reducible first|exact HB.out|apply below_alloc|apply pw_below_drewN|apply below_drew1)|exact HB.out))));have n1_:=Aside0.mk (below_step (by repeat (first|(with_reducible first|exact HB.out|apply below_alloc|apply pw_below_drewN|apply below_drew1)|exact HB.out)) hb);clear HB;have HO659:=n0_;have HB:=n1_;clear n0_ n1_;clear hb ho3))
 go_loopg [3,9] k (fun kq v3 v9 w'=>∃ (x3_1 : List Int) (x9_1 : Int),v9 = .int .i64 x9_1 ∧ Aside0 (impl_quotedText.l0 kq a0 x3_1 (a0.size : Int) x9_1 = some r) ∧ Aside0 (kq ≤ k) ∧ Aside0 (Kd.R (Kd.int .u8) 5 w' w.heap.size (fun _=>True) v3 x3_1) ∧ Aside0 (Below w.heap.size w w'))
 case atStart=>exact ⟨(y657),(0),(by first|rfl|(simp;done)|(simp [*];done)),H',⟨Nat.le_refl _⟩,⟨by (with_reducible repeat (first|apply Kd.R_alloc|apply Kd.R_drewN|apply Kd.R_drew));exact HO659.out⟩,⟨by repeat (first|(with_reducible first|exact HB.out|apply below_alloc|apply pw_below_drewN|apply below_drew1)|exact HB.out)⟩⟩
 case round =>
  clear H'
  try clear p2
  obtain ⟨x3_1,x9_1,rfl,HA,HK1,HO_3,HB⟩:=hrel
  cases gk with
  | zero=>exact absurd HA.out (by simp [impl_quotedText.l0])
  | succ k1 =>
   have H:=HA.out
   clear HA
   simp only [impl_quotedText.l0] at H
   by_cases c4 : x9_1 < (a0.size : Int)
   ·rw [if_pos c4] at H
    have c4b0 : decide (x9_1 < (a0.size : Int)) = true:=decide_eq_true c4
    clear c4
    by_cases c5 : 0 ≤ x9_1
    ·rw [if_pos c5] at H
     have c5b0 : decide (0 ≤ x9_1) = true:=decide_eq_true c5
     clear c5
     by_cases c6 : x9_1 < (a0.size : Int)
     ·rw [if_pos c6] at H
      have c6b0 : decide (x9_1 < (a0.size : Int)) = true:=decide_eq_true c6
      clear c6
      replace H:=Option.bind_eq_some_iff.mp H
      obtain ⟨t660,A80,H⟩:=H
      replace H : (if t660 ≥ 0 then (if 0 ≤ t660 then (if t660 < 4 then ((some (([92,bt (⟨#[110,116,34,92]⟩ : ByteArray) t660] : List Int) : List Int)).bind fun y661=>(if x3_1.length + y661.length < 140737488355328 then (impl_quotedText.l0 k1 a0 (x3_1 ++ y661) (a0.size : Int) (wrap64 (x9_1 + 1))) else (none))) else (none)) else (none)) else (if x3_1.length < 140737488355328 then (impl_quotedText.l0 k1 a0 (x3_1 ++ [bt a0 x9_1]) (a0.size : Int) (wrap64 (x9_1 + 1))) else (none))) = some r:=H
      have A8:=Aside0.mk A80
      clear A80
      by_cases c9 : t660 ≥ 0
      ·rw [if_pos c9] at H
       have c9b0 : decide (0 ≤ t660) = true:=decide_eq_true c9
       clear c9
       by_cases c10 : 0 ≤ t660
       ·rw [if_pos c10] at H
        have c10b0 : decide (0 ≤ t660) = true:=decide_eq_true c10
        clear c10
        by_cases c11 : t660 < 4
        ·rw [if_pos c11] at H
         have c11b0 : decide (t660 < 4) = true:=decide_eq_true c11
         clear c11
         obtain ⟨y661,hy661⟩ : ∃ y_ : List Int,y_ = (([92,bt (⟨#[110,116,34,92]⟩ : ByteArray) t660] : List Int)):=⟨_,rfl⟩
         replace H : (if x3_1.length + y661.length < 140737488355328 then (impl_quotedText.l0 k1 a0 (x3_1 ++ y661) (a0.size : Int) (wrap64 (x9_1 + 1))) else (none)) = some r:=by first|(rw [hy661];with_reducible exact H)|(have H2_:=(Option.bind_some _ _).symm.trans H;rw [hy661];with_reducible exact H2_)|(have H2_:=(Option.bind_some _ _).symm.trans H;with_reducible exact H2_)|with_reducible exact H|(rw [hy661];exact H)|exact H
         have Ny661:=Aside0.mk hy661
         clear hy661
         by_cases c13 : x3_1.length + y661.length < 140737488355328
         ·rw [if_pos c13] at H
          have LMc13:=Aside0.mk c13
          clear c13
          obtain ⟨y664,hy664⟩ : ∃ y_ : List Int,y_ = (x3_1 ++ y661):=⟨_,rfl⟩
          replace H : (impl_quotedText.l0 k1 a0 y664 (a0.size : Int) (wrap64 (x9_1 + 1))) = some r:=by first|(rw [hy664];with_reducible exact H)|(have H2_:=(Option.bind_some _ _).symm.trans H;rw [hy664];with_reducible exact H2_)|(have H2_:=(Option.bind_some _ _).symm.trans H;with_reducible exact H2_)|with_reducible exact H|(rw [hy664];exact H)|exact H
          have Ny664:=Aside0.mk hy664
          clear hy664
          have H':=Aside0.mk H
          clear H
          have p7 : 0 ≤ (x9_1 : Int):=of_decide_eq_true (by first|(with_reducible assumption)|assumption)
          have q7 : x9_1 < (a0.size : Int):=of_decide_eq_true (by first|(with_reducible assumption)|assumption)
          have hx7:=bt_at a0 x9_1
          replace p7:=eq_true p7
          replace q7:=eq_true q7
          go_wp2_with (first|((with_reducible refine gate_callee (f:=122) rfl ?_);refine goesL_ (some 15) rfl rfl Tryd.func122 (by kernel_rfl) rfl #[.string (⟨#[10,9,34,92]⟩ : ByteArray),.int .u8 (bt a0 x9_1)] rfl (by (try simp only [List.map_toArray,List.map_cons,List.map_nil]);first|done|rfl|(simp only [List.length_drop,List.length_take];rfl)) ?_;(with_reducible refine (strings_IndexByte.calls (⟨#[10,9,34,92]⟩ : ByteArray) (bt a0 x9_1) t660 _ A8.out).mono ?_);rintro e w' ⟨rfl,⟨nd,rfl⟩⟩;refine ⟨_,rfl,?_⟩;have p12 : 0 ≤ (t660 : Int):=of_decide_eq_true (by first|(with_reducible assumption)|assumption);have q12 : t660 < (4 : Int):=of_decide_eq_true (by first|(with_reducible assumption)|assumption);have hx12:=bt_at (⟨#[110,116,34,92]⟩ : ByteArray) t660;replace p12:=eq_true p12;replace q12:=eq_true q12)|((with_reducible refine gate_dst (N:=21) rfl ?_);refine Kd.R_lit (Kd.int .u8) _ 5 ?hg (N:=21) ?hd (xs:=([92,bt (⟨#[110,116,34,92]⟩ : ByteArray) t660] : List Int)) (inner:=[.int .u8 92,.int .u8 (bt (⟨#[110,116,34,92]⟩ : ByteArray) t660)]) (ok:=fun _=>True) (okp:=fun _=>True) ?hr ?hp (fun _ hk=>hk) trivial (Below.refl _ _) (Nat.le_refl _) (by simp) ?_;(case hd=>rfl);(case hg=>rfl);(case hr=>first|(go_simp;done)|(go_simp;rfl));(case hp=>exact (Reps.one (show Kd.M (Kd.int .u8) _ _ _ 92 [.int .u8 92] from rfl) (Reps.one (show Kd.M (Kd.int .u8) _ _ _ (bt (⟨#[110,116,34,92]⟩ : ByteArray) t660) [.int .u8 (bt (⟨#[110,116,34,92]⟩ : ByteArray) t660)] from rfl) (Reps.none _ _))));intro v662 w14 ho15 hb hg_ hnew_;clear hg_ hnew_;(first|rw [← Ny661.out] at ho15|(simp only [Int.reduceToNat] at ho15;rw [← Ny661.out] at ho15));have n0_:=Aside0.mk (Kd.R_elder' (by (with_reducible repeat (first|apply Kd.R_alloc|apply Kd.R_drewN|apply Kd.R_drew));exact HO_3.out) (Kd.R_base ho15) hb);have n1_:=Aside0.mk (Kd.R_lower (Kd.R_new' ho15 (Kd.R_lt (by (with_reducible repeat (first|apply Kd.R_alloc|apply Kd.R_drewN|apply Kd.R_drew));exact HO_3.out))) (below_size (by repeat (first|(with_reducible first|exact HB.out|apply below_alloc|apply pw_below_drewN|apply below_drew1)|exact HB.out))));have n2_:=Aside0.mk (below_step (by repeat (first|(with_reducible first|exact HB.out|apply below_alloc|apply pw_below_drewN|apply below_drew1)|exact HB.out)) hb);clear HO_3;clear HB;have HO_3:=n0_;have HO663:=n1_;have HB:=n2_;clear n0_ n1_ n2_;clear hb ho15;obtain ⟨Ao17,co17,eo17⟩:=Kd.R_slice HO663.out;subst eo17)|((with_reducible refine gate_builtin (b:=.append) (xs:=#[.tmp 18,.tmp 21]) rfl ?_);at_builtin;refine Kd.R_append_rows (Kd.int .u8) (w0:=w) w.heap.size rfl (.tmp 18) (.tmp 21) 31 5 (.int .u8 0) 1 rfl Tryd.underlying31 info5 rfl (by decide) (by omega) u3 x3_1 y661 _ _ _ (fun k_=>some k_ ≠ (.slice Ao17 y661.length co17 : Value).ownBlock) (fun _=>False) rfl rfl ?aO ?aR (fun _ _ h=>h) (fun _ h=>h.elim) ?aF ?aB ?aS ?aL ?_;(case aR=>repeat (first|exact (Kd.R_reads' HO663.out).2.2|(with_reducible refine Kd.C_alloc ?_ _)|(with_reducible refine Kd.C_drewN ?_ _)|(with_reducible refine Kd.C_drew ?_)));(case aB=>exact (by repeat (first|(with_reducible first|exact HB.out|apply below_alloc|apply pw_below_drewN|apply below_drew1)|exact HB.out)));(case aF=>exact (fun k_ hk=>Kd.fresh' (Kd.R_lt (by (with_reducible repeat (first|apply Kd.R_alloc|apply Kd.R_drewN|apply Kd.R_drew));exact HO663.out)) k_ hk));(case aO=>exact (by (with_reducible repeat (first|apply Kd.R_alloc|apply Kd.R_drewN|apply Kd.R_drew));exact Kd.R_mono HO_3.out (fun _ hk=>hk.2)));(case aS=>exact (below_size (by repeat (first|(with_reducible first|exact HB.out|apply below_alloc|apply pw_below_drewN|apply below_drew1)|exact HB.out))));(case aL=>have:=LMc13.out;omega);intro v665 w16 ho hb hg hat;rw [← Ny664.out] at ho;have n0_:=Aside0.mk (Kd.R_after (ok:=(fun _=>True)) (by (with_reducible repeat (first|apply Kd.R_alloc|apply Kd.R_drewN|apply Kd.R_drew));exact HO663.out) hg hat);have n1_:=Aside0.mk (hb);have n2_:=Aside0.mk (ho);clear HO663;clear HB;clear HO_3;have HO663:=n0_;have HB:=n1_;have HO666:=n2_;clear n0_ n1_ n2_;clear ho hb hg hat))
          go_roundg k1
          case measure=>have:=HK1.out;omega
          case rel=>exact ⟨(y664),(wrap64 (x9_1 + 1)),(by first|rfl|(simp;done)|(simp [*];done)),H',⟨by have:=HK1.out;omega⟩,⟨by (with_reducible repeat (first|apply Kd.R_alloc|apply Kd.R_drewN|apply Kd.R_drew));exact Kd.R_mono HO666.out (fun _ hk=>trivial)⟩,⟨by repeat (first|(with_reducible first|exact HB.out|apply below_alloc|apply pw_below_drewN|apply below_drew1)|exact HB.out)⟩⟩
         ·rw [if_neg c13] at H
          exact absurd H (by simp)
        ·rw [if_neg c11] at H
         exact absurd H (by simp)
       ·rw [if_neg c10] at H
        exact absurd H (by simp)
      ·rw [if_neg c9] at H
       have c9b0 : decide (0 ≤ t660) = false:=decide_eq_false c9
       clear c9
       by_cases c19 : x3_1.length < 140737488355328
       ·rw [if_pos c19] at H
        have LMc19:=Aside0.mk c19
        clear c19
        obtain ⟨y667,hy667⟩ : ∃ y_ : List Int,y_ = (x3_1 ++ [bt a0 x9_1]):=⟨_,rfl⟩
        replace H : (impl_quotedText.l0 k1 a0 y667 (a0.size : Int) (wrap64 (x9_1 + 1))) = some r:=by first|(rw [hy667];with_reducible exact H)|(have H2_:=(Option.bind_some _ _).symm.trans H;rw [hy667];with_reducible exact H2_)|(have H2_:=(Option.bind_some _ _).symm.trans H;with_reducible exact H2_)|with_reducible exact H|(rw [hy667];exact H)|exact H
        have Ny667:=Aside0.mk hy667
        clear hy667
        have H':=Aside0.mk H
        clear H
        have p7 : 0 ≤ (x9_1 : Int):=of_decide_eq_true (by first|(with_reducible assumption)|assumption)
        have q7 : x9_1 < (a0.size : Int):=of_decide_eq_true (by first|(with_reducible assumption)|assumption)
        have hx7:=bt_at a0 x9_1
        replace p7:=eq_true p7
        replace q7:=eq_true q7
        go_wp2_with (first|((with_reducible refine gate_callee (f:=122) rfl ?_);refine goesL_ (some 15) rfl rfl Tryd.func122 (by kernel_rfl) rfl #[.string (⟨#[10,9,34,92]⟩ : ByteArray),.int .u8 (bt a0 x9_1)] rfl (by (try simp only [List.map_toArray,List.map_cons,List.map_nil]);first|done|rfl|(simp only [List.length_drop,List.length_take];rfl)) ?_;(with_reducible refine (strings_IndexByte.calls (⟨#[10,9,34,92]⟩ : ByteArray) (bt a0 x9_1) t660 _ A8.out).mono ?_);rintro e w' ⟨rfl,⟨nd,rfl⟩⟩;refine ⟨_,rfl,?_⟩;have p18 : 0 ≤ (x9_1 : Int):=of_decide_eq_true (by first|(with_reducible assumption)|assumption);have q18 : x9_1 < (a0.size : Int):=of_decide_eq_true (by first|(with_reducible assumption)|assumption);have hx18:=bt_at a0 x9_1;replace p18:=eq_true p18;replace q18:=eq_true q18)|((with_reducible refine gate_builtin (b:=.append) (xs:=#[.tmp 23,.tmp 27]) rfl ?_);at_builtin;refine Kd.R_append (Kd.int .u8) (w0:=w) w.heap.size rfl (.tmp 23) (.tmp 27) 31 5 (.int .u8 0) 1 rfl Tryd.underlying31 info5 rfl (by decide) (by omega) u3 x3_1 (bt a0 x9_1) [.int .u8 (bt a0 x9_1)] (fun _=>True) (fun _=>False) rfl rfl ?aP (fun _ hk=>hk.elim) ?aF ?aO ?aB ?aS ?aL ?_;(case aP=>exact rfl);(case aB=>exact (by repeat (first|(with_reducible first|exact HB.out|apply below_alloc|apply pw_below_drewN|apply below_drew1)|exact HB.out)));(case aF=>exact (fun _ _=>trivial));(case aO=>exact (by (with_reducible repeat (first|apply Kd.R_alloc|apply Kd.R_drewN|apply Kd.R_drew));exact HO_3.out));(case aS=>exact (below_size (by repeat (first|(with_reducible first|exact HB.out|apply below_alloc|apply pw_below_drewN|apply below_drew1)|exact HB.out))));(case aL=>have:=LMc19.out;omega);intro v668 w20 ho hb hg hat;rw [← Ny667.out] at ho;have n0_:=Aside0.mk (hb);have n1_:=Aside0.mk (ho);clear HB;clear HO_3;have HB:=n0_;have HO669:=n1_;clear n0_ n1_;clear ho hb hg hat))
        go_roundg k1
        case measure=>have:=HK1.out;omega
        case rel=>exact ⟨(y667),(wrap64 (x9_1 + 1)),(by first|rfl|(simp;done)|(simp [*];done)),H',⟨by have:=HK1.out;omega⟩,⟨by (with_reducible repeat (first|apply Kd.R_alloc|apply Kd.R_drewN|apply Kd.R_drew));exact HO669.out⟩,⟨by repeat (first|(with_reducible first|exact HB.out|apply below_alloc|apply pw_below_drewN|apply below_drew1)|exact HB.out)⟩⟩
       ·rw [if_neg c19] at H
        exact absurd H (by simp)
     ·rw [if_neg c6] at H
      exact absurd H (by simp)
    ·rw [if_neg c5] at H
     exact absurd H (by simp)
   ·rw [if_neg c4] at H
    have c4b0 : decide (x9_1 < (a0.size : Int)) = false:=decide_eq_false c4
    clear c4
    by_cases c21 : x3_1.length < 140737488355328
    ·rw [if_pos c21] at H
     have LMc21:=Aside0.mk c21
     clear c21
     obtain ⟨y670,hy670⟩ : ∃ y_ : List Int,y_ = (x3_1 ++ [34]):=⟨_,rfl⟩
     replace H : (some (strOfNums y670)) = some r:=by first|(rw [hy670];with_reducible exact H)|(have H2_:=(Option.bind_some _ _).symm.trans H;rw [hy670];with_reducible exact H2_)|(have H2_:=(Option.bind_some _ _).symm.trans H;with_reducible exact H2_)|with_reducible exact H|(rw [hy670];exact H)|exact H
     have Ny670:=Aside0.mk hy670
     clear hy670
     obtain rfl:=Option.some.inj H
     go_wp2_with (first|((with_reducible refine gate_builtin (b:=.append) (xs:=#[.tmp 30,.tmp 31]) rfl ?_);at_builtin;refine Kd.R_append (Kd.int .u8) (w0:=w) w.heap.size rfl (.tmp 30) (.tmp 31) 31 5 (.int .u8 0) 1 rfl Tryd.underlying31 info5 rfl (by decide) (by omega) u3 x3_1 34 [.int .u8 34] (fun _=>True) (fun _=>False) rfl rfl ?aP (fun _ hk=>hk.elim) ?aF ?aO ?aB ?aS ?aL ?_;(case aP=>exact rfl);(case aB=>exact (by repeat (first|(with_reducible first|exact HB.out|apply below_alloc|apply pw_below_drewN|apply below_drew1)|exact HB.out)));(case aF=>exact (fun _ _=>trivial));(case aO=>exact (by (with_reducible repeat (first|apply Kd.R_alloc|apply Kd.R_drewN|apply Kd.R_drew));exact HO_3.out));(case aS=>exact (below_size (by repeat (first|(with_reducible first|exact HB.out|apply below_alloc|apply pw_below_drewN|apply below_drew1)|exact HB.out))));(case aL=>have:=LMc21.out;omega);intro v671 w22 ho hb hg hat;rw [← Ny670.out] at ho;have n0_:=Aside0.mk (hb);have n1_:=Aside0.mk (ho);clear HB;clear HO_3;have HB:=n0_;have HO672:=n1_;clear n0_ n1_;clear ho hb hg hat;have hcv23:=own_string (P:=Tryd.prog) Tryd.underlying31 Tryd.underlying5 Tryd.underlying9 (Kd.own_of_R HO672.out)))
     go_ret
     exact ⟨by first|rfl|(simp [errW_none,errW_some] <;> rfl)|(simp [*,errW_none,errW_some] <;> rfl),by repeat (first|(with_reducible first|exact HB.out|apply below_alloc|apply pw_below_drewN|apply below_drew1)|exact HB.out)⟩
    ·rw [if_neg c21] at H
     exact absurd H (by simp)
def impl_TokText.f (k : Nat) (a0_0 : Int) (a0_1 : ByteArray) (a0_2 : Int) (a0_3 : Int) : Option (ByteArray):=if a0_0 = 1 then ((impl_DecText.f k a0_2).bind fun t674=>(some t674)) else (if a0_0 = 2 then ((impl_quotedText.f k a0_1).bind fun t675=>(some t675)) else (if a0_0 = 3 then (if 1 + a0_1.size ≤ 9223372036854775807 then (if ((⟨#[47]⟩ : ByteArray) ++ a0_1).size + 1 ≤ 9223372036854775807 then (some (((⟨#[47]⟩ : ByteArray) ++ a0_1) ++ (⟨#[47]⟩ : ByteArray))) else (none)) else (none)) else (if a0_0 = 4 then (some a0_1) else (if a0_0 = 5 then (some a0_1) else (if a0_0 = 6 then (some a0_1) else (if a0_0 = 7 then (some a0_1) else (some (⟨#[]⟩ : ByteArray))))))))
theorem impl_TokText.mono : ∀ a0 a1 a2 a3 k,LeO (impl_TokText.f k a0 a1 a2 a3) (impl_TokText.f (k + 1) a0 a1 a2 a3):=by
 intro a0 a1 a2 a3 k
 unfold impl_TokText.f
 repeat' first
   | (with_reducible exact impl_DecText.mono _ _)
   | (with_reducible exact impl_quotedText.mono _ _)
   | (with_reducible exact LeO.refl _)
   | (with_reducible exact LeO.none _)
   | (with_reducible refine LeO.ite ?_ ?_)
   | (with_reducible refine LeO.bind ?_ (fun _=>?_))
   | exact impl_DecText.mono _ _
   | exact impl_quotedText.mono _ _
   | exact LeO.none _
   | refine LeO.ite ?_ ?_
   | refine LeO.bind ?_ (fun _=>?_)
set_option maxHeartbeats 8000000 in
set_option maxRecDepth 100000 in
theorem impl_TokText.calls (k : Nat) (a0_0 : Int) (a0_1 : ByteArray) (a0_2 : Int) (a0_3 : Int) (r : ByteArray) (w : World) (h : impl_TokText.f k a0_0 a0_1 a0_2 a0_3 = some r) (hT : Tabs w:=by first|assumption|(refine Aside0.out (p:=Tabs _) ?_;assumption)|(refine Tabs.below (w:=?ww) (Aside0.out ?ha) ?hb;(case ha=>assumption);(case hb=>repeat (first|(with_reducible first|exact Below.refl _ _|(refine Aside0.out ?_;assumption)|apply below_alloc|apply pw_below_drewN|apply below_drew1|(refine below_set ?_ (Aside0.out ?_);(rotate_left;assumption)))|(refine Aside0.out ?_;assumption))))|(refine Tabs.drewN (w:=?ww) (Aside0.out ?ha) _;(case ha=>assumption))) :
  Calls Tryd.prog 41 #[.agg #[.int .i64 a0_0,.string a0_1,.int .i64 a0_2,.int .i64 a0_3]] w fun e w'=>e = .returned (.string r) ∧ Below w.heap.size w w':=by
 have HT_:=Aside0.mk hT
 clear hT
 have hu60:=Tryd.underlying60
 have HB:=Aside0.mk (Below.refl w.heap.size w)
 have H : (if a0_0 = 1 then ((impl_DecText.f k a0_2).bind fun t674=>(some t674)) else (if a0_0 = 2 then ((impl_quotedText.f k a0_1).bind fun t675=>(some t675)) else (if a0_0 = 3 then (if 1 + a0_1.size ≤ 9223372036854775807 then (if ((⟨#[47]⟩ : ByteArray) ++ a0_1).size + 1 ≤ 9223372036854775807 then (some (((⟨#[47]⟩ : ByteArray) ++ a0_1) ++ (⟨#[47]⟩ : ByteArray))) else (none)) else (none)) else (if a0_0 = 4 then (some a0_1) else (if a0_0 = 5 then (some a0_1) else (if a0_0 = 6 then (some a0_1) else (if a0_0 = 7 then (some a0_1) else (some (⟨#[]⟩ : ByteArray))))))))) = some r:=h
 clear h
 by_cases c2 : a0_0 = 1
 ·rw [if_pos c2] at H
  have c2b0 : (a0_0 == 1) = true:=beq_iff_eq.mpr c2
  have c2b1 : (a0_0 != 1) = false:=bne_eq_false_iff_eq.mpr c2
  clear c2
  replace H:=Option.bind_eq_some_iff.mp H
  obtain ⟨t674,A30,H⟩:=H
  replace H : (some t674) = some r:=H
  have A3:=Aside0.mk A30
  clear A30
  obtain rfl:=Option.some.inj H
  go_enter Tryd.func41,Tryd.ntmps41
  go_wp2_with (first|((with_reducible refine gate_dst (N:=1) rfl ?_);refine box_event ?hg (N:=1) ?hd (cs:=#[.int .i64 a0_0,.string a0_1,.int .i64 a0_2,.int .i64 a0_3]) (t:=60) ?hr ?_;(case hd=>rfl);(case hg=>rfl);(case hr=>first|(go_simp;done)|(go_simp;rfl));intro gb673 hg w4 hbox hb;have n0_:=Aside0.mk (below_step (by repeat (first|(with_reducible first|exact HB.out|apply below_alloc|apply pw_below_drewN|apply below_drew1)|exact HB.out)) hb);have n1_:=Aside0.mk (hbox);have n2_:=Aside0.mk ((by rw [hg];exact (below_size (by repeat (first|(with_reducible first|exact HB.out|apply below_alloc|apply pw_below_drewN|apply below_drew1)|exact HB.out))) : w.heap.size ≤ gb673));have n3_:=Aside0.mk ((by rw [hg];exact (below_size (by repeat (first|(with_reducible first|exact HB.out|apply below_alloc|apply pw_below_drewN|apply below_drew1)|exact HB.out))) : w.heap.size ≤ gb673));clear HB;have HB:=n0_;have BK673:=n1_;have GW673:=n2_;have GE673:=n3_;clear n0_ n1_ n2_ n3_;clear hb hbox hg;have hcz5_0 : w4.cell? ⟨gb673,0,none⟩ = some (.int .i64 a0_0):=(blk_cell BK673.out 0).trans rfl;have hcz5_1 : w4.cell? ⟨gb673,1,none⟩ = some (.string a0_1):=(blk_cell BK673.out 1).trans rfl;have hcz5_2 : w4.cell? ⟨gb673,2,none⟩ = some (.int .i64 a0_2):=(blk_cell BK673.out 2).trans rfl;have hcz5_3 : w4.cell? ⟨gb673,3,none⟩ = some (.int .i64 a0_3):=(blk_cell BK673.out 3).trans rfl;have hfz5_0:=blk_frozen BK673.out 0;have hfz5_1:=blk_frozen BK673.out 1;have hfz5_2:=blk_frozen BK673.out 2;have hfz5_3:=blk_frozen BK673.out 3)|((with_reducible refine gate_callee (f:=87) rfl ?_);refine goesL_ (some 9) rfl rfl Tryd.func87 (by kernel_rfl) rfl #[.int .i64 a0_2] rfl (by (try simp only [List.map_toArray,List.map_cons,List.map_nil]);first|done|rfl|(simp only [List.length_drop,List.length_take];rfl)) ?_;(with_reducible refine (impl_DecText.calls k a0_2 t674 _ A3.out).mono ?_);rintro e w6 ⟨rfl,hb⟩;refine ⟨_,rfl,?_⟩;have n0_:=Aside0.mk (blk_below (g:=gb673) (o:=.cells #[.int .i64 a0_0,.string a0_1,.int .i64 a0_2,.int .i64 a0_3] 60 (0,0)) (by (with_reducible repeat (first|refine blk_drewN ?_ _|refine blk_drew ?_|refine blk_alloc ?_ _));exact BK673.out) hb);have n1_:=Aside0.mk (below_step (by repeat (first|(with_reducible first|exact HB.out|apply below_alloc|apply pw_below_drewN|apply below_drew1|refine below_set ?_ GE673.out)|exact HB.out)) hb);clear BK673;clear HB;have BK673:=n0_;have HB:=n1_;clear n0_ n1_;(try clear hb);(try clear hb2);(try clear hk);(try clear hi)))
  go_ret
  exact ⟨by first|rfl|(simp [errW_none,errW_some] <;> rfl)|(simp [*,errW_none,errW_some] <;> rfl),by repeat (first|(with_reducible first|exact HB.out|apply below_alloc|apply pw_below_drewN|apply below_drew1|refine below_set ?_ GE673.out)|exact HB.out)⟩
 ·rw [if_neg c2] at H
  have c2b0 : (a0_0 == 1) = false:=beq_eq_false_iff_ne.mpr c2
  have c2b1 : (a0_0 != 1) = true:=bne_iff_ne.mpr c2
  by_cases c7 : a0_0 = 2
  ·rw [if_pos c7] at H
   have c7b0 : (a0_0 == 2) = true:=beq_iff_eq.mpr c7
   have c7b1 : (a0_0 != 2) = false:=bne_eq_false_iff_eq.mpr c7
   clear c7
   replace H:=Option.bind_eq_some_iff.mp H
   obtain ⟨t675,A80,H⟩:=H
   replace H : (some t675) = some r:=H
   have A8:=Aside0.mk A80
   clear A80
   obtain rfl:=Option.some.inj H
   go_enter Tryd.func41,Tryd.ntmps41
   go_wp2_with (first|((with_reducible refine gate_dst (N:=1) rfl ?_);refine box_event ?hg (N:=1) ?hd (cs:=#[.int .i64 a0_0,.string a0_1,.int .i64 a0_2,.int .i64 a0_3]) (t:=60) ?hr ?_;(case hd=>rfl);(case hg=>rfl);(case hr=>first|(go_simp;done)|(go_simp;rfl));intro gb673 hg w9 hbox hb;have n0_:=Aside0.mk (below_step (by repeat (first|(with_reducible first|exact HB.out|apply below_alloc|apply pw_below_drewN|apply below_drew1)|exact HB.out)) hb);have n1_:=Aside0.mk (hbox);have n2_:=Aside0.mk ((by rw [hg];exact (below_size (by repeat (first|(with_reducible first|exact HB.out|apply below_alloc|apply pw_below_drewN|apply below_drew1)|exact HB.out))) : w.heap.size ≤ gb673));have n3_:=Aside0.mk ((by rw [hg];exact (below_size (by repeat (first|(with_reducible first|exact HB.out|apply below_alloc|apply pw_below_drewN|apply below_drew1)|exact HB.out))) : w.heap.size ≤ gb673));clear HB;have HB:=n0_;have BK673:=n1_;have GW673:=n2_;have GE673:=n3_;clear n0_ n1_ n2_ n3_;clear hb hbox hg;have hcz10_0 : w9.cell? ⟨gb673,0,none⟩ = some (.int .i64 a0_0):=(blk_cell BK673.out 0).trans rfl;have hcz10_1 : w9.cell? ⟨gb673,1,none⟩ = some (.string a0_1):=(blk_cell BK673.out 1).trans rfl;have hcz10_2 : w9.cell? ⟨gb673,2,none⟩ = some (.int .i64 a0_2):=(blk_cell BK673.out 2).trans rfl;have hcz10_3 : w9.cell? ⟨gb673,3,none⟩ = some (.int .i64 a0_3):=(blk_cell BK673.out 3).trans rfl;have hfz10_0:=blk_frozen BK673.out 0;have hfz10_1:=blk_frozen BK673.out 1;have hfz10_2:=blk_frozen BK673.out 2;have hfz10_3:=blk_frozen BK673.out 3)|((with_reducible refine gate_callee (f:=88) rfl ?_);refine goesL_ (some 14) rfl rfl Tryd.func88 (by kernel_rfl) rfl #[.string a0_1] rfl (by (try simp only [List.map_toArray,List.map_cons,List.map_nil]);first|done|rfl|(simp only [List.length_drop,List.length_take];rfl)) ?_;(with_reducible refine (impl_quotedText.calls k a0_1 t675 _ A8.out).mono ?_);rintro e w11 ⟨rfl,hb⟩;refine ⟨_,rfl,?_⟩;have n0_:=Aside0.mk (blk_below (g:=gb673) (o:=.cells #[.int .i64 a0_0,.string a0_1,.int .i64 a0_2,.int .i64 a0_3] 60 (0,0)) (by (with_reducible repeat (first|refine blk_drewN ?_ _|refine blk_drew ?_|refine blk_alloc ?_ _));exact BK673.out) hb);have n1_:=Aside0.mk (below_step (by repeat (first|(with_reducible first|exact HB.out|apply below_alloc|apply pw_below_drewN|apply below_drew1|refine below_set ?_ GE673.out)|exact HB.out)) hb);clear BK673;clear HB;have BK673:=n0_;have HB:=n1_;clear n0_ n1_;(try clear hb);(try clear hb2);(try clear hk);(try clear hi)))
   go_ret
   exact ⟨by first|rfl|(simp [errW_none,errW_some] <;> rfl)|(simp [*,errW_none,errW_some] <;> rfl),by repeat (first|(with_reducible first|exact HB.out|apply below_alloc|apply pw_below_drewN|apply below_drew1|refine below_set ?_ GE673.out)|exact HB.out)⟩
  ·rw [if_neg c7] at H
   have c7b0 : (a0_0 == 2) = false:=beq_eq_false_iff_ne.mpr c7
   have c7b1 : (a0_0 != 2) = true:=bne_iff_ne.mpr c7
   by_cases c12 : a0_0 = 3
   ·rw [if_pos c12] at H
    have c12b0 : (a0_0 == 3) = true:=beq_iff_eq.mpr c12
    have c12b1 : (a0_0 != 3) = false:=bne_eq_false_iff_eq.mpr c12
    clear c12
    by_cases c13 : 1 + a0_1.size ≤ 9223372036854775807
    ·rw [if_pos c13] at H
     have c13b0:=eq_true c13
     have c13b1 : decide (1 + a0_1.size ≤ 9223372036854775807) = true:=decide_eq_true c13
     try have c13b2 : (9223372036854775807 < 1 + a0_1.size) = False:=eq_false (Nat.not_lt.2 c13)
     by_cases c14 : ((⟨#[47]⟩ : ByteArray) ++ a0_1).size + 1 ≤ 9223372036854775807
     ·rw [if_pos c14] at H
      have c14b0:=eq_true c14
      have c14b1 : decide (((⟨#[47]⟩ : ByteArray) ++ a0_1).size + 1 ≤ 9223372036854775807) = true:=decide_eq_true c14
      try have c14b2 : (9223372036854775807 < ((⟨#[47]⟩ : ByteArray) ++ a0_1).size + 1) = False:=eq_false (Nat.not_lt.2 c14)
      try have c14b3 : (9223372036854775807 ≤ ((⟨#[47]⟩ : ByteArray) ++ a0_1).size) = False:=eq_false (by omega)
      try clear c14 c14b0 c14b1
      (try (have c14b5 : (9223372036854775807 ≤ 1 + a0_1.size) = False:=eq_false (by have h_:=of_eq_false c14b3;simp only [ByteArray.size_append] at h_;have : (⟨#[47]⟩ : ByteArray).size = 1:=rfl;omega)))
      (try (have c14b6 : (9223372036854775807 < 1 + a0_1.size + 1) = False:=eq_false (by have h_:=of_eq_false c14b5;omega)))
      obtain rfl:=Option.some.inj H
      go_enter Tryd.func41,Tryd.ntmps41
      go_wp2_with (first|((with_reducible refine gate_dst (N:=1) rfl ?_);refine box_event ?hg (N:=1) ?hd (cs:=#[.int .i64 a0_0,.string a0_1,.int .i64 a0_2,.int .i64 a0_3]) (t:=60) ?hr ?_;(case hd=>rfl);(case hg=>rfl);(case hr=>first|(go_simp;done)|(go_simp;rfl));intro gb673 hg w15 hbox hb;have n0_:=Aside0.mk (below_step (by repeat (first|(with_reducible first|exact HB.out|apply below_alloc|apply pw_below_drewN|apply below_drew1)|exact HB.out)) hb);have n1_:=Aside0.mk (hbox);have n2_:=Aside0.mk ((by rw [hg];exact (below_size (by repeat (first|(with_reducible first|exact HB.out|apply below_alloc|apply pw_below_drewN|apply below_drew1)|exact HB.out))) : w.heap.size ≤ gb673));have n3_:=Aside0.mk ((by rw [hg];exact (below_size (by repeat (first|(with_reducible first|exact HB.out|apply below_alloc|apply pw_below_drewN|apply below_drew1)|exact HB.out))) : w.heap.size ≤ gb673));clear HB;have HB:=n0_;have BK673:=n1_;have GW673:=n2_;have GE673:=n3_;clear n0_ n1_ n2_ n3_;clear hb hbox hg;have hcz16_0 : w15.cell? ⟨gb673,0,none⟩ = some (.int .i64 a0_0):=(blk_cell BK673.out 0).trans rfl;have hcz16_1 : w15.cell? ⟨gb673,1,none⟩ = some (.string a0_1):=(blk_cell BK673.out 1).trans rfl;have hcz16_2 : w15.cell? ⟨gb673,2,none⟩ = some (.int .i64 a0_2):=(blk_cell BK673.out 2).trans rfl;have hcz16_3 : w15.cell? ⟨gb673,3,none⟩ = some (.int .i64 a0_3):=(blk_cell BK673.out 3).trans rfl;have hfz16_0:=blk_frozen BK673.out 0;have hfz16_1:=blk_frozen BK673.out 1;have hfz16_2:=blk_frozen BK673.out 2;have hfz16_3:=blk_frozen BK673.out 3))
      go_ret
      exact ⟨by first|rfl|(simp [errW_none,errW_some] <;> rfl)|(simp [*,errW_none,errW_some] <;> rfl),by repeat (first|(with_reducible first|exact HB.out|apply below_alloc|apply pw_below_drewN|apply below_drew1|refine below_set ?_ GE673.out)|exact HB.out)⟩
     ·rw [if_neg c14] at H
      exact absurd H (by simp)
    ·rw [if_neg c13] at H
     exact absurd H (by simp)
   ·rw [if_neg c12] at H
    have c12b0 : (a0_0 == 3) = false:=beq_eq_false_iff_ne.mpr c12
    have c12b1 : (a0_0 != 3) = true:=bne_iff_ne.mpr c12
    by_cases c17 : a0_0 = 4
    ·rw [if_pos c17] at H
     have c17b0 : (a0_0 == 4) = true:=beq_iff_eq.mpr c17
     have c17b1 : (a0_0 != 4) = false:=bne_eq_false_iff_eq.mpr c17
     clear c17
     obtain rfl:=Option.some.inj H
     go_enter Tryd.func41,Tryd.ntmps41
     go_wp2_with (first|((with_reducible refine gate_dst (N:=1) rfl ?_);refine box_event ?hg (N:=1) ?hd (cs:=#[.int .i64 a0_0,.string a0_1,.int .i64 a0_2,.int .i64 a0_3]) (t:=60) ?hr ?_;(case hd=>rfl);(case hg=>rfl);(case hr=>first|(go_simp;done)|(go_simp;rfl));intro gb673 hg w18 hbox hb;have n0_:=Aside0.mk (below_step (by repeat (first|(with_reducible first|exact HB.out|apply below_alloc|apply pw_below_drewN|apply below_drew1)|exact HB.out)) hb);have n1_:=Aside0.mk (hbox);have n2_:=Aside0.mk ((by rw [hg];exact (below_size (by repeat (first|(with_reducible first|exact HB.out|apply below_alloc|apply pw_below_drewN|apply below_drew1)|exact HB.out))) : w.heap.size ≤ gb673));have n3_:=Aside0.mk ((by rw [hg];exact (below_size (by repeat (first|(with_reducible first|exact HB.out|apply below_alloc|apply pw_below_drewN|apply below_drew1)|exact HB.out))) : w.heap.size ≤ gb673));clear HB;have HB:=n0_;have BK673:=n1_;have GW673:=n2_;have GE673:=n3_;clear n0_ n1_ n2_ n3_;clear hb hbox hg;have hcz19_0 : w18.cell? ⟨gb673,0,none⟩ = some (.int .i64 a0_0):=(blk_cell BK673.out 0).trans rfl;have hcz19_1 : w18.cell? ⟨gb673,1,none⟩ = some (.string a0_1):=(blk_cell BK673.out 1).trans rfl;have hcz19_2 : w18.cell? ⟨gb673,2,none⟩ = some (.int .i64 a0_2):=(blk_cell BK673.out 2).trans rfl;have hcz19_3 : w18.cell? ⟨gb673,3,none⟩ = some (.int .i64 a0_3):=(blk_cell BK673.out 3).trans rfl;have hfz19_0:=blk_frozen BK673.out 0;have hfz19_1:=blk_frozen BK673.out 1;have hfz19_2:=blk_frozen BK673.out 2;have hfz19_3:=blk_frozen BK673.out 3))
     go_ret
     exact ⟨by first|rfl|(simp [errW_none,errW_some] <;> rfl)|(simp [*,errW_none,errW_some] <;> rfl),by repeat (first|(with_reducible first|exact HB.out|apply below_alloc|apply pw_below_drewN|apply below_drew1|refine below_set ?_ GE673.out)|exact HB.out)⟩
    ·rw [if_neg c17] at H
     have c17b0 : (a0_0 == 4) = false:=beq_eq_false_iff_ne.mpr c17
     have c17b1 : (a0_0 != 4) = true:=bne_iff_ne.mpr c17
     by_cases c20 : a0_0 = 5
     ·rw [if_pos c20] at H
      have c20b0 : (a0_0 == 5) = true:=beq_iff_eq.mpr c20
      have c20b1 : (a0_0 != 5) = false:=bne_eq_false_iff_eq.mpr c20
      clear c20
      obtain rfl:=Option.some.inj H
      go_enter Tryd.func41,Tryd.ntmps41
      go_wp2_with (first|((with_reducible refine gate_dst (N:=1) rfl ?_);refine box_event ?hg (N:=1) ?hd (cs:=#[.int .i64 a0_0,.string a0_1,.int .i64 a0_2,.int .i64 a0_3]) (t:=60) ?hr ?_;(case hd=>rfl);(case hg=>rfl);(case hr=>first|(go_simp;done)|(go_simp;rfl));intro gb673 hg w21 hbox hb;have n0_:=Aside0.mk (below_step (by repeat (first|(with_reducible first|exact HB.out|apply below_alloc|apply pw_below_drewN|apply below_drew1)|exact HB.out)) hb);have n1_:=Aside0.mk (hbox);have n2_:=Aside0.mk ((by rw [hg];exact (below_size (by repeat (first|(with_reducible first|exact HB.out|apply below_alloc|apply pw_below_drewN|apply below_drew1)|exact HB.out))) : w.heap.size ≤ gb673));have n3_:=Aside0.mk ((by rw [hg];exact (below_size (by repeat (first|(with_reducible first|exact HB.out|apply below_alloc|apply pw_below_drewN|apply below_drew1)|exact HB.out))) : w.heap.size ≤ gb673));clear HB;have HB:=n0_;have BK673:=n1_;have GW673:=n2_;have GE673:=n3_;clear n0_ n1_ n2_ n3_;clear hb hbox hg;have hcz22_0 : w21.cell? ⟨gb673,0,none⟩ = some (.int .i64 a0_0):=(blk_cell BK673.out 0).trans rfl;have hcz22_1 : w21.cell? ⟨gb673,1,none⟩ = some (.string a0_1):=(blk_cell BK673.out 1).trans rfl;have hcz22_2 : w21.cell? ⟨gb673,2,none⟩ = some (.int .i64 a0_2):=(blk_cell BK673.out 2).trans rfl;have hcz22_3 : w21.cell? ⟨gb673,3,none⟩ = some (.int .i64 a0_3):=(blk_cell BK673.out 3).trans rfl;have hfz22_0:=blk_frozen BK673.out 0;have hfz22_1:=blk_frozen BK673.out 1;have hfz22_2:=blk_frozen BK673.out 2;have hfz22_3:=blk_frozen BK673.out 3))
      go_ret
      exact ⟨by first|rfl|(simp [errW_none,errW_some] <;> rfl)|(simp [*,errW_none,errW_some] <;> rfl),by repeat (first|(with_reducible first|exact HB.out|apply below_alloc|apply pw_below_drewN|apply below_drew1|refine below_set ?_ GE673.out)|exact HB.out)⟩
     ·rw [if_neg c20] at H
      have c20b0 : (a0_0 == 5) = false:=beq_eq_false_iff_ne.mpr c20
      have c20b1 : (a0_0 != 5) = true:=bne_iff_ne.mpr c20
      by_cases c23 : a0_0 = 6
      ·rw [if_pos c23] at H
       have c23b0 : (a0_0 == 6) = true:=beq_iff_eq.mpr c23
       have c23b1 : (a0_0 != 6) = false:=bne_eq_false_iff_eq.mpr c23
       clear c23
       obtain rfl:=Option.some.inj H
       go_enter Tryd.func41,Tryd.ntmps41
       go_wp2_with (first|((with_reducible refine gate_dst (N:=1) rfl ?_);refine box_event ?hg (N:=1) ?hd (cs:=#[.int .i64 a0_0,.string a0_1,.int .i64 a0_2,.int .i64 a0_3]) (t:=60) ?hr ?_;(case hd=>rfl);(case hg=>rfl);(case hr=>first|(go_simp;done)|(go_simp;rfl));intro gb673 hg w24 hbox hb;have n0_:=Aside0.mk (below_step (by repeat (first|(with_reducible first|exact HB.out|apply below_alloc|apply pw_below_drewN|apply below_drew1)|exact HB.out)) hb);have n1_:=Aside0.mk (hbox);have n2_:=Aside0.mk ((by rw [hg];exact (below_size (by repeat (first|(with_reducible first|exact HB.out|apply below_alloc|apply pw_below_drewN|apply below_drew1)|exact HB.out))) : w.heap.size ≤ gb673));have n3_:=Aside0.mk ((by rw [hg];exact (below_size (by repeat (first|(with_reducible first|exact HB.out|apply below_alloc|apply pw_below_drewN|apply below_drew1)|exact HB.out))) : w.heap.size ≤ gb673));clear HB;have HB:=n0_;have BK673:=n1_;have GW673:=n2_;have GE673:=n3_;clear n0_ n1_ n2_ n3_;clear hb hbox hg;have hcz25_0 : w24.cell? ⟨gb673,0,none⟩ = some (.int .i64 a0_0):=(blk_cell BK673.out 0).trans rfl;have hcz25_1 : w24.cell? ⟨gb673,1,none⟩ = some (.string a0_1):=(blk_cell BK673.out 1).trans rfl;have hcz25_2 : w24.cell? ⟨gb673,2,none⟩ = some (.int .i64 a0_2):=(blk_cell BK673.out 2).trans rfl;have hcz25_3 : w24.cell? ⟨gb673,3,none⟩ = some (.int .i64 a0_3):=(blk_cell BK673.out 3).trans rfl;have hfz25_0:=blk_frozen BK673.out 0;have hfz25_1:=blk_frozen BK673.out 1;have hfz25_2:=blk_frozen BK673.out 2;have hfz25_3:=blk_frozen BK673.out 3))
       go_ret
       exact ⟨by first|rfl|(simp [errW_none,errW_some] <;> rfl)|(simp [*,errW_none,errW_some] <;> rfl),by repeat (first|(with_reducible first|exact HB.out|apply below_alloc|apply pw_below_drewN|apply below_drew1|refine below_set ?_ GE673.out)|exact HB.out)⟩
      ·rw [if_neg c23] at H
       have c23b0 : (a0_0 == 6) = false:=beq_eq_false_iff_ne.mpr c23
       have c23b1 : (a0_0 != 6) = true:=bne_iff_ne.mpr c23
       by_cases c26 : a0_0 = 7
       ·rw [if_pos c26] at H
        have c26b0 : (a0_0 == 7) = true:=beq_iff_eq.mpr c26
        have c26b1 : (a0_0 != 7) = false:=bne_eq_false_iff_eq.mpr c26
        clear c26
        obtain rfl:=Option.some.inj H
        go_enter Tryd.func41,Tryd.ntmps41
        go_wp2_with (first|((with_reducible refine gate_dst (N:=1) rfl ?_);refine box_event ?hg (N:=1) ?hd (cs:=#[.int .i64 a0_0,.string a0_1,.int .i64 a0_2,.int .i64 a0_3]) (t:=60) ?hr ?_;(case hd=>rfl);(case hg=>rfl);(case hr=>first|(go_simp;done)|(go_simp;rfl));intro gb673 hg w27 hbox hb;have n0_:=Aside0.mk (below_step (by repeat (first|(with_reducible first|exact HB.out|apply below_alloc|apply pw_below_drewN|apply below_drew1)|exact HB.out)) hb);have n1_:=Aside0.mk (hbox);have n2_:=Aside0.mk ((by rw [hg];exact (below_size (by repeat (first|(with_reducible first|exact HB.out|apply below_alloc|apply pw_below_drewN|apply below_drew1)|exact HB.out))) : w.heap.size ≤ gb673));have n3_:=Aside0.mk ((by rw [hg];exact (below_size (by repeat (first|(with_reducible first|exact HB.out|apply below_alloc|apply pw_below_drewN|apply below_drew1)|exact HB.out))) : w.heap.size ≤ gb673));clear HB;have HB:=n0_;have BK673:=n1_;have GW673:=n2_;have GE673:=n3_;clear n0_ n1_ n2_ n3_;clear hb hbox hg;have hcz28_0 : w27.cell? ⟨gb673,0,none⟩ = some (.int .i64 a0_0):=(blk_cell BK673.out 0).trans rfl;have hcz28_1 : w27.cell? ⟨gb673,1,none⟩ = some (.string a0_1):=(blk_cell BK673.out 1).trans rfl;have hcz28_2 : w27.cell? ⟨gb673,2,none⟩ = some (.int .i64 a0_2):=(blk_cell BK673.out 2).trans rfl;have hcz28_3 : w27.cell? ⟨gb673,3,none⟩ = some (.int .i64 a0_3):=(blk_cell BK673.out 3).trans rfl;have hfz28_0:=blk_frozen BK673.out 0;have hfz28_1:=blk_frozen BK673.out 1;have hfz28_2:=blk_frozen BK673.out 2;have hfz28_3:=blk_frozen BK673.out 3))
        go_ret
        exact ⟨by first|rfl|(simp [errW_none,errW_some] <;> rfl)|(simp [*,errW_none,errW_some] <;> rfl),by repeat (first|(with_reducible first|exact HB.out|apply below_alloc|apply pw_below_drewN|apply below_drew1|refine below_set ?_ GE673.out)|exact HB.out)⟩
       ·rw [if_neg c26] at H
        have c26b0 : (a0_0 == 7) = false:=beq_eq_false_iff_ne.mpr c26
        have c26b1 : (a0_0 != 7) = true:=bne_iff_ne.mpr c26
        obtain rfl:=Option.some.inj H
        go_enter Tryd.func41,Tryd.ntmps41
        go_wp2_with (first|((with_reducible refine gate_dst (N:=1) rfl ?_);refine box_event ?hg (N:=1) ?hd (cs:=#[.int .i64 a0_0,.string a0_1,.int .i64 a0_2,.int .i64 a0_3]) (t:=60) ?hr ?_;(case hd=>rfl);(case hg=>rfl);(case hr=>first|(go_simp;done)|(go_simp;rfl));intro gb673 hg w29 hbox hb;have n0_:=Aside0.mk (below_step (by repeat (first|(with_reducible first|exact HB.out|apply below_alloc|apply pw_below_drewN|apply below_drew1)|exact HB.out)) hb);have n1_:=Aside0.mk (hbox);have n2_:=Aside0.mk ((by rw [hg];exact (below_size (by repeat (first|(with_reducible first|exact HB.out|apply below_alloc|apply pw_below_drewN|apply below_drew1)|exact HB.out))) : w.heap.size ≤ gb673));have n3_:=Aside0.mk ((by rw [hg];exact (below_size (by repeat (first|(with_reducible first|exact HB.out|apply below_alloc|apply pw_below_drewN|apply below_drew1)|exact HB.out))) : w.heap.size ≤ gb673));clear HB;have HB:=n0_;have BK673:=n1_;have GW673:=n2_;have GE673:=n3_;clear n0_ n1_ n2_ n3_;clear hb hbox hg;have hcz30_0 : w29.cell? ⟨gb673,0,none⟩ = some (.int .i64 a0_0):=(blk_cell BK673.out 0).trans rfl;have hcz30_1 : w29.cell? ⟨gb673,1,none⟩ = some (.string a0_1):=(blk_cell BK673.out 1).trans rfl;have hcz30_2 : w29.cell? ⟨gb673,2,none⟩ = some (.int .i64 a0_2):=(blk_cell BK673.out 2).trans rfl;have hcz30_3 : w29.cell? ⟨gb673,3,none⟩ = some (.int .i64 a0_3):=(blk_cell BK673.out 3).trans rfl;have hfz30_0:=blk_frozen BK673.out 0;have hfz30_1:=blk_frozen BK673.out 1;have hfz30_2:=blk_frozen BK673.out 2;have hfz30_3:=blk_frozen BK673.out 3))
        go_ret
        exact ⟨by first|rfl|(simp [errW_none,errW_some] <;> rfl)|(simp [*,errW_none,errW_some] <;> rfl),by repeat (first|(with_reducible first|exact HB.out|apply below_alloc|apply pw_below_drewN|apply below_drew1|refine below_set ?_ GE673.out)|exact HB.out)⟩
def impl_NameOk.f (k : Nat) (a0 : ByteArray) : Option (Bool):=(impl_between.f (a0.size : Int) 1 40).bind fun t676=>(if t676 = true then (if 0 < (a0.size : Int) then ((impl_isLetter.f (bt a0 0)).bind fun t677=>(if t677 = true then ((impl_run.f a0 0 110).bind fun t678=>(if t678 = (a0.size : Int) then ((impl_IsWord.f k a0).bind fun t679=>(some (!t679))) else (some false))) else (some false))) else (none)) else (some false))
theorem impl_NameOk.mono : ∀ a0 k,LeO (impl_NameOk.f k a0) (impl_NameOk.f (k + 1) a0):=by
 intro a0 k
 unfold impl_NameOk.f
 repeat' first
   | (with_reducible exact impl_IsWord.mono _ _)
   | (with_reducible exact LeO.refl _)
   | (with_reducible exact LeO.none _)
   | (with_reducible refine LeO.ite ?_ ?_)
   | (with_reducible refine LeO.bind ?_ (fun _=>?_))
   | exact impl_IsWord.mono _ _
   | exact LeO.none _
   | refine LeO.ite ?_ ?_
   | refine LeO.bind ?_ (fun _=>?_)
set_option maxHeartbeats 8000000 in
set_option maxRecDepth 100000 in
theorem impl_NameOk.calls (k : Nat) (a0 : ByteArray) (r : Bool) (w : World) (h : impl_NameOk.f k a0 = some r) :
  Calls Tryd.prog 70 #[.string a0] w fun e w'=>e = .returned (.bool r) ∧ Below w.heap.size w w':=by
 have HB:=Aside0.mk (Below.refl w.heap.size w)
 have H : ((impl_between.f (a0.size : Int) 1 40).bind fun t676=>(if t676 = true then (if 0 < (a0.size : Int) then ((impl_isLetter.f (bt a0 0)).bind fun t677=>(if t677 = true then ((impl_run.f a0 0 110).bind fun t678=>(if t678 = (a0.size : Int) then ((impl_IsWord.f k a0).bind fun t679=>(some (!t679))) else (some false))) else (some false))) else (none)) else (some false))) = some r:=h
 clear h
 replace H:=Option.bind_eq_some_iff.mp H
 obtain ⟨t676,A20,H⟩:=H
 replace H : (if t676 = true then (if 0 < (a0.size : Int) then ((impl_isLetter.f (bt a0 0)).bind fun t677=>(if t677 = true then ((impl_run.f a0 0 110).bind fun t678=>(if t678 = (a0.size : Int) then ((impl_IsWord.f k a0).bind fun t679=>(some (!t679))) else (some false))) else (some false))) else (none)) else (some false)) = some r:=H
 have A2:=Aside0.mk A20
 clear A20
 by_cases c3 : t676 = true
 ·subst c3
  have H1 : (if 0 < (a0.size : Int) then ((impl_isLetter.f (bt a0 0)).bind fun t677=>(if t677 = true then ((impl_run.f a0 0 110).bind fun t678=>(if t678 = (a0.size : Int) then ((impl_IsWord.f k a0).bind fun t679=>(some (!t679))) else (some false))) else (some false))) else (none)) = some r:=by rw [if_pos rfl] at H;exact H
  clear H
  have H:=H1
  clear H1
  by_cases c4 : 0 < (a0.size : Int)
  ·rw [if_pos c4] at H
   have c4b0 : decide (0 < (a0.size : Int)) = true:=decide_eq_true c4
   have c4b1 : decide (0 < a0.size) = true:=decide_eq_true (by omega)
   clear c4
   replace H:=Option.bind_eq_some_iff.mp H
   obtain ⟨t677,A60,H⟩:=H
   replace H : (if t677 = true then ((impl_run.f a0 0 110).bind fun t678=>(if t678 = (a0.size : Int) then ((impl_IsWord.f k a0).bind fun t679=>(some (!t679))) else (some false))) else (some false)) = some r:=H
   have A6:=Aside0.mk A60
   clear A60
   by_cases c7 : t677 = true
   ·subst c7
    have H1 : ((impl_run.f a0 0 110).bind fun t678=>(if t678 = (a0.size : Int) then ((impl_IsWord.f k a0).bind fun t679=>(some (!t679))) else (some false))) = some r:=by rw [if_pos rfl] at H;exact H
    clear H
    have H:=H1
    clear H1
    replace H:=Option.bind_eq_some_iff.mp H
    obtain ⟨t678,A80,H⟩:=H
    replace H : (if t678 = (a0.size : Int) then ((impl_IsWord.f k a0).bind fun t679=>(some (!t679))) else (some false)) = some r:=H
    have A8:=Aside0.mk A80
    clear A80
    by_cases c9 : t678 = (a0.size : Int)
    ·rw [if_pos c9] at H
     have c9b0 : (t678 == (a0.size : Int)) = true:=beq_iff_eq.mpr c9
     have c9b1 : (t678 != (a0.size : Int)) = false:=bne_eq_false_iff_eq.mpr c9
     clear c9
     replace H:=Option.bind_eq_some_iff.mp H
     obtain ⟨t679,A100,H⟩:=H
     replace H : (some (!t679)) = some r:=H
     have A10:=Aside0.mk A100
     clear A100
     obtain rfl:=Option.some.inj H
     go_enter Tryd.func70,Tryd.ntmps70
     go_wp2_with (first|((with_reducible refine gate_callee (f:=66) rfl ?_);refine goesL_ (some 5) rfl rfl Tryd.func66 (by kernel_rfl) rfl #[.int .i64 (a0.size : Int),.int .i64 1,.int .i64 40] rfl (by (try simp only [List.map_toArray,List.map_cons,List.map_nil]);first|done|rfl|(simp only [List.length_drop,List.length_take];rfl)) ?_;(with_reducible refine (impl_between.calls (a0.size : Int) 1 40 true _ A2.out).mono ?_);rintro e w' ⟨rfl,⟨nd,rfl⟩⟩;refine ⟨_,rfl,?_⟩;have p5 : 0 ≤ (0 : Int):=(by omega);have q5 : 0 < a0.size:=(by have : (0 : Int) < (a0.size : Int):=of_decide_eq_true (by first|(with_reducible assumption)|assumption);omega);have hx5 : ∀ h : 0 < a0.size,((a0[0]'h).toNat : Int) = bt a0 0:=bt_at a0 0;clear p5;have qi5 : (0 < (a0.size : Int)) = True:=eq_true (of_decide_eq_true (by first|(with_reducible assumption)|assumption));replace q5:=eq_true q5)|(go_at_call 109;(with_reducible refine (impl_isLetter.calls (bt a0 0) true _ A6.out).mono ?_);rintro e w' ⟨rfl,⟨nd,rfl⟩⟩)|(go_at_call 76;(with_reducible refine (impl_run.calls a0 0 110 t678 _ A8.out).mono ?_);rintro e w' ⟨rfl,⟨nd,rfl⟩⟩)|(go_at_call 69;(with_reducible refine (impl_IsWord.calls k a0 t679 _ A10.out).mono ?_);rintro e w11 ⟨rfl,hb⟩;have n0_:=Aside0.mk (below_step (by repeat (first|(with_reducible first|exact HB.out|apply below_alloc|apply pw_below_drewN|apply below_drew1)|exact HB.out)) hb);clear HB;have HB:=n0_;clear n0_;(try clear hb);(try clear hb2);(try clear hk);(try clear hi)))
     go_ret
     exact ⟨by first|rfl|(simp [errW_none,errW_some] <;> rfl)|(simp [*,errW_none,errW_some] <;> rfl),by repeat (first|(with_reducible first|exact HB.out|apply below_alloc|apply pw_below_drewN|apply below_drew1)|exact HB.out)⟩
    ·rw [if_neg c9] at H
     have c9b0 : (t678 == (a0.size : Int)) = false:=beq_eq_false_iff_ne.mpr c9
     have c9b1 : (t678 != (a0.size : Int)) = true:=bne_iff_ne.mpr c9
     obtain rfl:=Option.some.inj H
     go_enter Tryd.func70,Tryd.ntmps70
     go_wp2_with (first|((with_reducible refine gate_callee (f:=66) rfl ?_);refine goesL_ (some 5) rfl rfl Tryd.func66 (by kernel_rfl) rfl #[.int .i64 (a0.size : Int),.int .i64 1,.int .i64 40] rfl (by (try simp only [List.map_toArray,List.map_cons,List.map_nil]);first|done|rfl|(simp only [List.length_drop,List.length_take];rfl)) ?_;(with_reducible refine (impl_between.calls (a0.size : Int) 1 40 true _ A2.out).mono ?_);rintro e w' ⟨rfl,⟨nd,rfl⟩⟩;refine ⟨_,rfl,?_⟩;have p5 : 0 ≤ (0 : Int):=(by omega);have q5 : 0 < a0.size:=(by have : (0 : Int) < (a0.size : Int):=of_decide_eq_true (by first|(with_reducible assumption)|assumption);omega);have hx5 : ∀ h : 0 < a0.size,((a0[0]'h).toNat : Int) = bt a0 0:=bt_at a0 0;clear p5;have qi5 : (0 < (a0.size : Int)) = True:=eq_true (of_decide_eq_true (by first|(with_reducible assumption)|assumption));replace q5:=eq_true q5)|(go_at_call 109;(with_reducible refine (impl_isLetter.calls (bt a0 0) true _ A6.out).mono ?_);rintro e w' ⟨rfl,⟨nd,rfl⟩⟩)|(go_at_call 76;(with_reducible refine (impl_run.calls a0 0 110 t678 _ A8.out).mono ?_);rintro e w' ⟨rfl,⟨nd,rfl⟩⟩))
     go_ret
     exact ⟨by first|rfl|(simp [errW_none,errW_some] <;> rfl)|(simp [*,errW_none,errW_some] <;> rfl),by repeat (first|(with_reducible first|exact HB.out|apply below_alloc|apply pw_below_drewN|apply below_drew1)|exact HB.out)⟩
   ·replace c7:=Bool.eq_false_iff.mpr c7
    subst c7
    have H1 : (some false) = some r:=by rw [if_neg (show ¬ (false = true) by decide)] at H;exact H
    clear H
    have H:=H1
    clear H1
    obtain rfl:=Option.some.inj H
    go_enter Tryd.func70,Tryd.ntmps70
    go_wp2_with (first|((with_reducible refine gate_callee (f:=66) rfl ?_);refine goesL_ (some 5) rfl rfl Tryd.func66 (by kernel_rfl) rfl #[.int .i64 (a0.size : Int),.int .i64 1,.int .i64 40] rfl (by (try simp only [List.map_toArray,List.map_cons,List.map_nil]);first|done|rfl|(simp only [List.length_drop,List.length_take];rfl)) ?_;(with_reducible refine (impl_between.calls (a0.size : Int) 1 40 true _ A2.out).mono ?_);rintro e w' ⟨rfl,⟨nd,rfl⟩⟩;refine ⟨_,rfl,?_⟩;have p5 : 0 ≤ (0 : Int):=(by omega);have q5 : 0 < a0.size:=(by have : (0 : Int) < (a0.size : Int):=of_decide_eq_true (by first|(with_reducible assumption)|assumption);omega);have hx5 : ∀ h : 0 < a0.size,((a0[0]'h).toNat : Int) = bt a0 0:=bt_at a0 0;clear p5;have qi5 : (0 < (a0.size : Int)) = True:=eq_true (of_decide_eq_true (by first|(with_reducible assumption)|assumption));replace q5:=eq_true q5)|(go_at_call 109;(with_reducible refine (impl_isLetter.calls (bt a0 0) false _ A6.out).mono ?_);rintro e w' ⟨rfl,⟨nd,rfl⟩⟩))
    go_ret
    exact ⟨by first|rfl|(simp [errW_none,errW_some] <;> rfl)|(simp [*,errW_none,errW_some] <;> rfl),by repeat (first|(with_reducible first|exact HB.out|apply below_alloc|apply pw_below_drewN|apply below_drew1)|exact HB.out)⟩
  ·rw [if_neg c4] at H
   exact absurd H (by simp)
 ·replace c3:=Bool.eq_false_iff.mpr c3
  subst c3
  have H1 : (some false) = some r:=by rw [if_neg (show ¬ (false = true) by decide)] at H;exact H
  clear H
  have H:=H1
  clear H1
  obtain rfl:=Option.some.inj H
  go_enter Tryd.func70,Tryd.ntmps70
  go_wp2_with (first|((with_reducible refine gate_callee (f:=66) rfl ?_);refine goesL_ (some 5) rfl rfl Tryd.func66 (by kernel_rfl) rfl #[.int .i64 (a0.size : Int),.int .i64 1,.int .i64 40] rfl (by (try simp only [List.map_toArray,List.map_cons,List.map_nil]);first|done|rfl|(simp only [List.length_drop,List.length_take];rfl)) ?_;(with_reducible refine (impl_between.calls (a0.size : Int) 1 40 false _ A2.out).mono ?_);rintro e w' ⟨rfl,⟨nd,rfl⟩⟩;refine ⟨_,rfl,?_⟩))
  go_ret
  exact ⟨by first|rfl|(simp [errW_none,errW_some] <;> rfl)|(simp [*,errW_none,errW_some] <;> rfl),by repeat (first|(with_reducible first|exact HB.out|apply below_alloc|apply pw_below_drewN|apply below_drew1)|exact HB.out)⟩
def laws_words.f (k : Nat)  : Option (Bool):=(impl_Lex.f k (⟨#[120,32,61,32,102,40,49,41,32,35,32,101,110,100]⟩ : ByteArray)).bind fun bt680=>(if bt680.2 = (-1) then (if (bt680.1.length : Int) = 6 then (if 2 < (bt680.1.length : Int) then (if ((rd_T60 bt680.1 2).f0) = 5 then (if 4 < (bt680.1.length : Int) then (if ((rd_T60 bt680.1 4).f2) = 1000000 then ((impl_IsWord.f k (⟨#[112,114,105,110,116]⟩ : ByteArray)).bind fun t686=>(if t686 = true then ((impl_NameOk.f k (⟨#[120]⟩ : ByteArray)).bind fun t687=>(if t687 = true then (if 0 < (bt680.1.length : Int) then ((impl_TokText.f k ((rd_T60 bt680.1 0).f0) ((rd_T60 bt680.1 0).f1) ((rd_T60 bt680.1 0).f2) ((rd_T60 bt680.1 0).f3)).bind fun t689=>(some (t689.toList == ([120] : List UInt8)))) else (none)) else (some false))) else (some false))) else (some false)) else (none)) else (some false)) else (none)) else (some false)) else (some false))
theorem laws_words.mono : ∀ k,LeO (laws_words.f k ) (laws_words.f (k + 1) ):=by
 intro  k
 unfold laws_words.f
 repeat' first
   | (with_reducible exact impl_IsWord.mono _ _)
   | (with_reducible exact impl_Lex.mono _ _)
   | (with_reducible exact impl_NameOk.mono _ _)
   | (with_reducible exact impl_TokText.mono _ _ _ _ _)
   | (with_reducible exact LeO.refl _)
   | (with_reducible exact LeO.none _)
   | (with_reducible refine LeO.ite ?_ ?_)
   | (with_reducible refine LeO.bind ?_ (fun _=>?_))
   | exact impl_IsWord.mono _ _
   | exact impl_Lex.mono _ _
   | exact impl_NameOk.mono _ _
   | exact impl_TokText.mono _ _ _ _ _
   | exact LeO.none _
   | refine LeO.ite ?_ ?_
   | refine LeO.bind ?_ (fun _=>?_)
set_option maxHeartbeats 8000000 in
set_option maxRecDepth 100000 in
theorem laws_words.calls (k : Nat)  (r : Bool) (w : World) (h : laws_words.f k  = some r) (hT : Tabs w:=by first|assumption|(refine Aside0.out (p:=Tabs _) ?_;assumption)|(refine Tabs.below (w:=?ww) (Aside0.out ?ha) ?hb;(case ha=>assumption);(case hb=>repeat (first|(with_reducible first|exact Below.refl _ _|(refine Aside0.out ?_;assumption)|apply below_alloc|apply pw_below_drewN|apply below_drew1|(refine below_set ?_ (Aside0.out ?_);(rotate_left;assumption)))|(refine Aside0.out ?_;assumption))))|(refine Tabs.drewN (w:=?ww) (Aside0.out ?ha) _;(case ha=>assumption))) (hr : r = true:=by first|assumption|rfl|(refine Aside0.out ?_;assumption)) :
  Calls Tryd.prog 37 #[] w fun e w'=>e = .returned (.bool r) ∧ Below w.heap.size w w':=by
 have HT_:=Aside0.mk hT
 clear hT
 subst hr
 have hu60:=Tryd.underlying60
 have HB:=Aside0.mk (Below.refl w.heap.size w)
 have H : ((impl_Lex.f k (⟨#[120,32,61,32,102,40,49,41,32,35,32,101,110,100]⟩ : ByteArray)).bind fun bt680=>(if bt680.2 = (-1) then (if (bt680.1.length : Int) = 6 then (if 2 < (bt680.1.length : Int) then (if ((rd_T60 bt680.1 2).f0) = 5 then (if 4 < (bt680.1.length : Int) then (if ((rd_T60 bt680.1 4).f2) = 1000000 then ((impl_IsWord.f k (⟨#[112,114,105,110,116]⟩ : ByteArray)).bind fun t686=>(if t686 = true then ((impl_NameOk.f k (⟨#[120]⟩ : ByteArray)).bind fun t687=>(if t687 = true then (if 0 < (bt680.1.length : Int) then ((impl_TokText.f k ((rd_T60 bt680.1 0).f0) ((rd_T60 bt680.1 0).f1) ((rd_T60 bt680.1 0).f2) ((rd_T60 bt680.1 0).f3)).bind fun t689=>(some (t689.toList == ([120] : List UInt8)))) else (none)) else (some false))) else (some false))) else (some false)) else (none)) else (some false)) else (none)) else (some false)) else (some false))) = some true:=h
 clear h
 replace H:=Option.bind_eq_some_iff.mp H
 obtain ⟨⟨t680,t681⟩,A10,H⟩:=H
 replace H : (if t681 = (-1) then (if (t680.length : Int) = 6 then (if 2 < (t680.length : Int) then (if ((rd_T60 t680 2).f0) = 5 then (if 4 < (t680.length : Int) then (if ((rd_T60 t680 4).f2) = 1000000 then ((impl_IsWord.f k (⟨#[112,114,105,110,116]⟩ : ByteArray)).bind fun t686=>(if t686 = true then ((impl_NameOk.f k (⟨#[120]⟩ : ByteArray)).bind fun t687=>(if t687 = true then (if 0 < (t680.length : Int) then ((impl_TokText.f k ((rd_T60 t680 0).f0) ((rd_T60 t680 0).f1) ((rd_T60 t680 0).f2) ((rd_T60 t680 0).f3)).bind fun t689=>(some (t689.toList == ([120] : List UInt8)))) else (none)) else (some false))) else (some false))) else (some false)) else (none)) else (some false)) else (none)) else (some false)) else (some false)) = some true:=H
 have A1:=Aside0.mk A10
 clear A10
 by_cases c2 : t681 = (-1)
 ·rw [if_pos c2] at H
  have c2b0 : (t681 == (-1)) = true:=beq_iff_eq.mpr c2
  have c2b1 : (t681 != (-1)) = false:=bne_eq_false_iff_eq.mpr c2
  clear c2
  by_cases c3 : (t680.length : Int) = 6
  ·rw [if_pos c3] at H
   have c3b0 : ((t680.length : Int) == 6) = true:=beq_iff_eq.mpr c3
   have c3b1 : ((t680.length : Int) != 6) = false:=bne_eq_false_iff_eq.mpr c3
   clear c3
   by_cases c4 : 2 < (t680.length : Int)
   ·rw [if_pos c4] at H
    have c4b0 : decide (2 < (t680.length : Int)) = true:=decide_eq_true c4
    have c4b1 : decide (2 < t680.length) = true:=decide_eq_true (by omega)
    clear c4
    by_cases c5 : ((rd_T60 t680 2).f0) = 5
    ·rw [if_pos c5] at H
     have c5b0 : (((rd_T60 t680 2).f0) == 5) = true:=beq_iff_eq.mpr c5
     have c5b1 : (((rd_T60 t680 2).f0) != 5) = false:=bne_eq_false_iff_eq.mpr c5
     clear c5
     by_cases c6 : 4 < (t680.length : Int)
     ·rw [if_pos c6] at H
      have c6b0 : decide (4 < (t680.length : Int)) = true:=decide_eq_true c6
      have c6b1 : decide (4 < t680.length) = true:=decide_eq_true (by omega)
      clear c6
      by_cases c7 : ((rd_T60 t680 4).f2) = 1000000
      ·rw [if_pos c7] at H
       have c7b0 : (((rd_T60 t680 4).f2) == 1000000) = true:=beq_iff_eq.mpr c7
       have c7b1 : (((rd_T60 t680 4).f2) != 1000000) = false:=bne_eq_false_iff_eq.mpr c7
       clear c7
       replace H:=Option.bind_eq_some_iff.mp H
       obtain ⟨t686,A80,H⟩:=H
       replace H : (if t686 = true then ((impl_NameOk.f k (⟨#[120]⟩ : ByteArray)).bind fun t687=>(if t687 = true then (if 0 < (t680.length : Int) then ((impl_TokText.f k ((rd_T60 t680 0).f0) ((rd_T60 t680 0).f1) ((rd_T60 t680 0).f2) ((rd_T60 t680 0).f3)).bind fun t689=>(some (t689.toList == ([120] : List UInt8)))) else (none)) else (some false))) else (some false)) = some true:=H
       have A8:=Aside0.mk A80
       clear A80
       by_cases c9 : t686 = true
       ·subst c9
        have H1 : ((impl_NameOk.f k (⟨#[120]⟩ : ByteArray)).bind fun t687=>(if t687 = true then (if 0 < (t680.length : Int) then ((impl_TokText.f k ((rd_T60 t680 0).f0) ((rd_T60 t680 0).f1) ((rd_T60 t680 0).f2) ((rd_T60 t680 0).f3)).bind fun t689=>(some (t689.toList == ([120] : List UInt8)))) else (none)) else (some false))) = some true:=by rw [if_pos rfl] at H;exact H
        clear H
        have H:=H1
        clear H1
        replace H:=Option.bind_eq_some_iff.mp H
        obtain ⟨t687,A100,H⟩:=H
        replace H : (if t687 = true then (if 0 < (t680.length : Int) then ((impl_TokText.f k ((rd_T60 t680 0).f0) ((rd_T60 t680 0).f1) ((rd_T60 t680 0).f2) ((rd_T60 t680 0).f3)).bind fun t689=>(some (t689.toList == ([120] : List UInt8)))) else (none)) else (some false)) = some true:=H
        have A10:=Aside0.mk A100
        clear A100
        by_cases c11 : t687 = true
        ·subst c11
         have H1 : (if 0 < (t680.length : Int) then ((impl_TokText.f k ((rd_T60 t680 0).f0) ((rd_T60 t680 0).f1) ((rd_T60 t680 0).f2) ((rd_T60 t680 0).f3)).bind fun t689=>(some (t689.toList == ([120] : List UInt8)))) else (none)) = some true:=by rw [if_pos rfl] at H;exact H
         clear H
         have H:=H1
         clear H1
         by_cases c12 : 0 < (t680.length : Int)
         ·rw [if_pos c12] at H
          have c12b0 : decide (0 < (t680.length : Int)) = true:=decide_eq_true c12
          have c12b1 : decide (0 < t680.length) = true:=decide_eq_true (by omega)
          clear c12
          replace H:=Option.bind_eq_some_iff.mp H
          obtain ⟨t689,A130,H⟩:=H
          replace H : (some (t689.toList == ([120] : List UInt8))) = some true:=H
          have A13:=Aside0.mk A130
          clear A130
          have HOR_:=Aside0.mk (Option.some.inj H)
          clear H
          go_enter Tryd.func37,Tryd.ntmps37
          go_wp2_with (first|((with_reducible refine gate_callee (f:=39) rfl ?_);refine goesL_ (some 4) rfl rfl Tryd.func39 (by kernel_rfl) rfl #[.string (⟨#[120,32,61,32,102,40,49,41,32,35,32,101,110,100]⟩ : ByteArray)] rfl (by (try simp only [List.map_toArray,List.map_cons,List.map_nil]);first|done|rfl|(simp only [List.length_drop,List.length_take];rfl)) ?_;(with_reducible refine (impl_Lex.calls k (⟨#[120,32,61,32,102,40,49,41,32,35,32,101,110,100]⟩ : ByteArray) t680 t681 _ A1.out).mono ?_);rintro e w14 ⟨v682,rfl,ho0,hb⟩;refine ⟨_,rfl,?_⟩;have n0_:=Aside0.mk (Kd.R_lower ho0 (below_size (by repeat (first|(with_reducible first|exact HB.out|apply below_alloc|apply pw_below_drewN|apply below_drew1)|exact HB.out))));have n1_:=Aside0.mk (below_step (by repeat (first|(with_reducible first|exact HB.out|apply below_alloc|apply pw_below_drewN|apply below_drew1)|exact HB.out)) hb);clear HB;have HO683:=n0_;have HB:=n1_;clear n0_ n1_;(try clear hb);(try clear hb2);(try clear hk);(try clear hi);(try clear ho0);obtain ⟨Ao15,co15,eo15⟩:=Kd.R_slice HO683.out;subst eo15;have p684 : 0 ≤ (2 : Int):=(by omega);have q684 : 2 < (t680.length : Int):=of_decide_eq_true (by first|(with_reducible assumption)|assumption);obtain ⟨ad684,e684,hx684_0,hx684_1,hx684_2,hx684_3⟩:=at_T60 (Kd.R_reads' HO683.out).2.2 2 p684 q684;cases e684;(try simp only [show (2 : Int).toNat = 2 from rfl,Nat.reduceMul,Nat.reduceEqDiff,Go.Addr.add,↓reduceIte] at hx684_0);(try simp only [show (2 : Int).toNat = 2 from rfl,Nat.reduceMul,Nat.reduceEqDiff,Go.Addr.add,↓reduceIte] at hx684_1);(try simp only [show (2 : Int).toNat = 2 from rfl,Nat.reduceMul,Nat.reduceEqDiff,Go.Addr.add,↓reduceIte] at hx684_2);(try simp only [show (2 : Int).toNat = 2 from rfl,Nat.reduceMul,Nat.reduceEqDiff,Go.Addr.add,↓reduceIte] at hx684_3);have qi684 : (2 < t680.length) = True:=eq_true (by omega);(try rw [show ((2 : Int)).toNat = 2 from rfl] at hx684_0);(try rw [show 2 * 4 = 8 from rfl] at hx684_0);(try rw [show ((2 : Int)).toNat = 2 from rfl] at hx684_1);(try rw [show 2 * 4 = 8 from rfl] at hx684_1);(try rw [show ((2 : Int)).toNat = 2 from rfl] at hx684_2);(try rw [show 2 * 4 = 8 from rfl] at hx684_2);(try rw [show ((2 : Int)).toNat = 2 from rfl] at hx684_3);(try rw [show 2 * 4 = 8 from rfl] at hx684_3);replace p684:=eq_true p684;replace q684:=eq_true q684;have p685 : 0 ≤ (4 : Int):=(by omega);have q685 : 4 < (t680.length : Int):=of_decide_eq_true (by first|(with_reducible assumption)|assumption);obtain ⟨ad685,e685,hx685_0,hx685_1,hx685_2,hx685_3⟩:=at_T60 (Kd.R_reads' HO683.out).2.2 4 p685 q685;obtain rfl : ad684 = ad685:=(by injection e685);(try simp only [show (4 : Int).toNat = 4 from rfl,Nat.reduceMul,Nat.reduceEqDiff,Go.Addr.add,↓reduceIte] at hx685_0);(try simp only [show (4 : Int).toNat = 4 from rfl,Nat.reduceMul,Nat.reduceEqDiff,Go.Addr.add,↓reduceIte] at hx685_1);(try simp only [show (4 : Int).toNat = 4 from rfl,Nat.reduceMul,Nat.reduceEqDiff,Go.Addr.add,↓reduceIte] at hx685_2);(try simp only [show (4 : Int).toNat = 4 from rfl,Nat.reduceMul,Nat.reduceEqDiff,Go.Addr.add,↓reduceIte] at hx685_3);have qi685 : (4 < t680.length) = True:=eq_true (by omega);(try rw [show ((4 : Int)).toNat = 4 from rfl] at hx685_0);(try rw [show 4 * 4 = 16 from rfl] at hx685_0);(try rw [show ((4 : Int)).toNat = 4 from rfl] at hx685_1);(try rw [show 4 * 4 = 16 from rfl] at hx685_1);(try rw [show ((4 : Int)).toNat = 4 from rfl] at hx685_2);(try rw [show 4 * 4 = 16 from rfl] at hx685_2);(try rw [show ((4 : Int)).toNat = 4 from rfl] at hx685_3);(try rw [show 4 * 4 = 16 from rfl] at hx685_3);replace p685:=eq_true p685;replace q685:=eq_true q685)|(go_at_call 69;(with_reducible refine (impl_IsWord.calls k (⟨#[112,114,105,110,116]⟩ : ByteArray) true _ A8.out).mono ?_);rintro e w16 ⟨rfl,hb⟩;have n0_:=Aside0.mk (Kd.R_below (by (with_reducible repeat (first|apply Kd.R_alloc|apply Kd.R_drewN|apply Kd.R_drew));exact HO683.out) hb);have n1_:=Aside0.mk (below_step (by repeat (first|(with_reducible first|exact HB.out|apply below_alloc|apply pw_below_drewN|apply below_drew1)|exact HB.out)) hb);clear HO683;clear HB;have HO683:=n0_;have HB:=n1_;clear n0_ n1_;(try clear hb);(try clear hb2);(try clear hk);(try clear hi))|(go_at_call 70;(with_reducible refine (impl_NameOk.calls k (⟨#[120]⟩ : ByteArray) true _ A10.out).mono ?_);rintro e w17 ⟨rfl,hb⟩;have n0_:=Aside0.mk (Kd.R_below (by (with_reducible repeat (first|apply Kd.R_alloc|apply Kd.R_drewN|apply Kd.R_drew));exact HO683.out) hb);have n1_:=Aside0.mk (below_step (by repeat (first|(with_reducible first|exact HB.out|apply below_alloc|apply pw_below_drewN|apply below_drew1)|exact HB.out)) hb);clear HO683;clear HB;have HO683:=n0_;have HB:=n1_;clear n0_ n1_;(try clear hb);(try clear hb2);(try clear hk);(try clear hi);have p688 : 0 ≤ (0 : Int):=(by omega);have q688 : 0 < (t680.length : Int):=of_decide_eq_true (by first|(with_reducible assumption)|assumption);obtain ⟨ad688,e688,hx688_0,hx688_1,hx688_2,hx688_3⟩:=at_T60 (Kd.R_reads' HO683.out).2.2 0 p688 q688;obtain rfl : ad684 = ad688:=(by injection e688);have qi688 : (0 < t680.length) = True:=eq_true (by omega);(try rw [show ((0 : Int)).toNat = 0 from rfl] at hx688_0);(try rw [show 0 * 4 = 0 from rfl] at hx688_0);(try rw [Addr.add_zero'] at hx688_0);(try rw [show ((0 : Int)).toNat = 0 from rfl] at hx688_1);(try rw [show 0 * 4 = 0 from rfl] at hx688_1);(try rw [Addr.add_zero'] at hx688_1);(try rw [show ((0 : Int)).toNat = 0 from rfl] at hx688_2);(try rw [show 0 * 4 = 0 from rfl] at hx688_2);(try rw [Addr.add_zero'] at hx688_2);(try rw [show ((0 : Int)).toNat = 0 from rfl] at hx688_3);(try rw [show 0 * 4 = 0 from rfl] at hx688_3);(try rw [Addr.add_zero'] at hx688_3);replace p688:=eq_true p688;replace q688:=eq_true q688)|(go_at_call 41;(with_reducible refine (impl_TokText.calls k ((rd_T60 t680 0).f0) ((rd_T60 t680 0).f1) ((rd_T60 t680 0).f2) ((rd_T60 t680 0).f3) t689 _ A13.out).mono ?_);rintro e w18 ⟨rfl,hb⟩;have n0_:=Aside0.mk (Kd.R_below (by (with_reducible repeat (first|apply Kd.R_alloc|apply Kd.R_drewN|apply Kd.R_drew));exact HO683.out) hb);have n1_:=Aside0.mk (below_step (by repeat (first|(with_reducible first|exact HB.out|apply below_alloc|apply pw_below_drewN|apply below_drew1)|exact HB.out)) hb);clear HO683;clear HB;have HO683:=n0_;have HB:=n1_;clear n0_ n1_;(try clear hb);(try clear hb2);(try clear hk);(try clear hi)))
          go_ret
          exact ⟨by first|rfl|(rw [HOR_.out];done)|(rw [HOR_.out];rfl)|(simp [HOR_.out];done)|(have h_:=HOR_.out;simp at h_;subst h_;first|rfl|(simp;done))|(have h_:=HOR_.out;simp at h_ ⊢;exact h_)|(simp [errW_none,errW_some] <;> rfl)|(simp [*,errW_none,errW_some] <;> rfl),by repeat (first|(with_reducible first|exact HB.out|apply below_alloc|apply pw_below_drewN|apply below_drew1)|exact HB.out)⟩
         ·rw [if_neg c12] at H
          exact absurd H (by simp)
        ·replace c11:=Bool.eq_false_iff.mpr c11
         subst c11
         have H1 : (some false) = some true:=by rw [if_neg (show ¬ (false = true) by decide)] at H;exact H
         clear H
         have H:=H1
         clear H1
         exact absurd H (by simp)
       ·replace c9:=Bool.eq_false_iff.mpr c9
        subst c9
        have H1 : (some false) = some true:=by rw [if_neg (show ¬ (false = true) by decide)] at H;exact H
        clear H
        have H:=H1
        clear H1
        exact absurd H (by simp)
      ·rw [if_neg c7] at H
       have c7b0 : (((rd_T60 t680 4).f2) == 1000000) = false:=beq_eq_false_iff_ne.mpr c7
       have c7b1 : (((rd_T60 t680 4).f2) != 1000000) = true:=bne_iff_ne.mpr c7
       exact absurd H (by simp)
     ·rw [if_neg c6] at H
      exact absurd H (by simp)
    ·rw [if_neg c5] at H
     have c5b0 : (((rd_T60 t680 2).f0) == 5) = false:=beq_eq_false_iff_ne.mpr c5
     have c5b1 : (((rd_T60 t680 2).f0) != 5) = true:=bne_iff_ne.mpr c5
     exact absurd H (by simp)
   ·rw [if_neg c4] at H
    exact absurd H (by simp)
  ·rw [if_neg c3] at H
   have c3b0 : ((t680.length : Int) == 6) = false:=beq_eq_false_iff_ne.mpr c3
   have c3b1 : ((t680.length : Int) != 6) = true:=bne_iff_ne.mpr c3
   exact absurd H (by simp)
 ·rw [if_neg c2] at H
  have c2b0 : (t681 == (-1)) = false:=beq_eq_false_iff_ne.mpr c2
  have c2b1 : (t681 != (-1)) = true:=bne_iff_ne.mpr c2
  exact absurd H (by simp)
def spec_l1Size.f (l0 : List Int) (a1 : Int) : Option (Int):=if (wrap64 (2 + (wrap64 ((l0.length : Int) / 20)))) > a1 then (some a1) else (some (wrap64 (2 + (wrap64 ((l0.length : Int) / 20)))))
set_option maxHeartbeats 8000000 in
set_option maxRecDepth 100000 in
theorem spec_l1Size.calls (A0 : Option Addr) (c0 : Nat) (l0 : List Int) (a1 : Int) (r : Int) (w : World) (hr0 : Kd.C (Kd.int .u8) w A0 l0.length l0) (hc0 : l0.length ≤ c0) (h : spec_l1Size.f l0 a1 = some r) :
  Calls Tryd.prog 71 #[.slice A0 l0.length c0,.int .i64 a1] w fun e w'=>e = .returned (.int .i64 r) ∧ Drawn0 w w':=by
 have HR0:=Aside0.mk hr0
 have HC0:=Aside0.mk hc0
 clear hr0 hc0
 have H : (if (wrap64 (2 + (wrap64 ((l0.length : Int) / 20)))) > a1 then (some a1) else (some (wrap64 (2 + (wrap64 ((l0.length : Int) / 20)))))) = some r:=h
 clear h
 by_cases c3 : (wrap64 (2 + (wrap64 ((l0.length : Int) / 20)))) > a1
 ·rw [if_pos c3] at H
  have c3b0 : decide (a1 < (wrap64 (2 + (wrap64 ((l0.length : Int) / 20))))) = true:=decide_eq_true c3
  clear c3
  obtain rfl:=Option.some.inj H
  go_enter Tryd.func71,Tryd.ntmps71
  go_wp2
  go_ret
  exact ⟨by first|rfl|(simp;done)|(simp [*];done),by repeat (first|exact Drawn0.refl _|apply Drawn0.step)⟩
 ·rw [if_neg c3] at H
  have c3b0 : decide (a1 < (wrap64 (2 + (wrap64 ((l0.length : Int) / 20))))) = false:=decide_eq_false c3
  clear c3
  obtain rfl:=Option.some.inj H
  go_enter Tryd.func71,Tryd.ntmps71
  go_wp2
  go_ret
  exact ⟨by first|rfl|(simp;done)|(simp [*];done),by repeat (first|exact Drawn0.refl _|apply Drawn0.step)⟩
def spec_l3words.f  : Option (List ByteArray):=some (([(⟨#[66,69,71,73,78]⟩ : ByteArray),(⟨#[69,78,68]⟩ : ByteArray),(⟨#[102,117,110,99,116,105,111,110]⟩ : ByteArray),(⟨#[105,102]⟩ : ByteArray),(⟨#[101,108,115,101]⟩ : ByteArray),(⟨#[119,104,105,108,101]⟩ : ByteArray),(⟨#[102,111,114]⟩ : ByteArray),(⟨#[105,110]⟩ : ByteArray),(⟨#[98,114,101,97,107]⟩ : ByteArray),(⟨#[99,111,110,116,105,110,117,101]⟩ : ByteArray),(⟨#[110,101,120,116]⟩ : ByteArray),(⟨#[101,120,105,116]⟩ : ByteArray),(⟨#[114,101,116,117,114,110]⟩ : ByteArray),(⟨#[100,101,108,101,116,101]⟩ : ByteArray),(⟨#[112,114,105,110,116]⟩ : ByteArray),(⟨#[112,114,105,110,116,102]⟩ : ByteArray),(⟨#[108,101,110,103,116,104]⟩ : ByteArray),(⟨#[115,117,98,115,116,114]⟩ : ByteArray),(⟨#[105,110,100,101,120]⟩ : ByteArray),(⟨#[115,112,108,105,116]⟩ : ByteArray),(⟨#[116,111,117,112,112,101,114]⟩ : ByteArray),(⟨#[105,110,116]⟩ : ByteArray)] : List ByteArray))
set_option maxHeartbeats 8000000 in
set_option maxRecDepth 100000 in
theorem spec_l3words.calls  (r : List ByteArray) (w : World) (h : spec_l3words.f  = some r) :
  Calls Tryd.prog 111 #[] w fun e w'=>∃ v0_ : Value,e = .returned (v0_) ∧ Kd.R Kd.string 9 w' w.heap.size (fun _=>True) v0_ r ∧ Below w.heap.size w w':=by
 have HB:=Aside0.mk (Below.refl w.heap.size w)
 have H : (some (([(⟨#[66,69,71,73,78]⟩ : ByteArray),(⟨#[69,78,68]⟩ : ByteArray),(⟨#[102,117,110,99,116,105,111,110]⟩ : ByteArray),(⟨#[105,102]⟩ : ByteArray),(⟨#[101,108,115,101]⟩ : ByteArray),(⟨#[119,104,105,108,101]⟩ : ByteArray),(⟨#[102,111,114]⟩ : ByteArray),(⟨#[105,110]⟩ : ByteArray),(⟨#[98,114,101,97,107]⟩ : ByteArray),(⟨#[99,111,110,116,105,110,117,101]⟩ : ByteArray),(⟨#[110,101,120,116]⟩ : ByteArray),(⟨#[101,120,105,116]⟩ : ByteArray),(⟨#[114,101,116,117,114,110]⟩ : ByteArray),(⟨#[100,101,108,101,116,101]⟩ : ByteArray),(⟨#[112,114,105,110,116]⟩ : ByteArray),(⟨#[112,114,105,110,116,102]⟩ : ByteArray),(⟨#[108,101,110,103,116,104]⟩ : ByteArray),(⟨#[115,117,98,115,116,114]⟩ : ByteArray),(⟨#[105,110,100,101,120]⟩ : ByteArray),(⟨#[115,112,108,105,116]⟩ : ByteArray),(⟨#[116,111,117,112,112,101,114]⟩ : ByteArray),(⟨#[105,110,116]⟩ : ByteArray)] : List ByteArray))) = some r:=h
 clear h
 obtain ⟨y700,hy700⟩ : ∃ y_ : List ByteArray,y_ = (([(⟨#[66,69,71,73,78]⟩ : ByteArray),(⟨#[69,78,68]⟩ : ByteArray),(⟨#[102,117,110,99,116,105,111,110]⟩ : ByteArray),(⟨#[105,102]⟩ : ByteArray),(⟨#[101,108,115,101]⟩ : ByteArray),(⟨#[119,104,105,108,101]⟩ : ByteArray),(⟨#[102,111,114]⟩ : ByteArray),(⟨#[105,110]⟩ : ByteArray),(⟨#[98,114,101,97,107]⟩ : ByteArray),(⟨#[99,111,110,116,105,110,117,101]⟩ : ByteArray),(⟨#[110,101,120,116]⟩ : ByteArray),(⟨#[101,120,105,116]⟩ : ByteArray),(⟨#[114,101,116,117,114,110]⟩ : ByteArray),(⟨#[100,101,108,101,116,101]⟩ : ByteArray),(⟨#[112,114,105,110,116]⟩ : ByteArray),(⟨#[112,114,105,110,116,102]⟩ : ByteArray),(⟨#[108,101,110,103,116,104]⟩ : ByteArray),(⟨#[115,117,98,115,116,114]⟩ : ByteArray),(⟨#[105,110,100,101,120]⟩ : ByteArray),(⟨#[115,112,108,105,116]⟩ : ByteArray),(⟨#[116,111,117,112,112,101,114]⟩ : ByteArray),(⟨#[105,110,116]⟩ : ByteArray)] : List ByteArray)):=⟨_,rfl⟩
 replace H : (some y700) = some r:=by first|(rw [hy700];with_reducible exact H)|(have H2_:=(Option.bind_some _ _).symm.trans H;rw [hy700];with_reducible exact H2_)|(have H2_:=(Option.bind_some _ _).symm.trans H;with_reducible exact H2_)|with_reducible exact H|(rw [hy700];exact H)|exact H
 have Ny700:=Aside0.mk hy700
 clear hy700
 obtain rfl:=Option.some.inj H
 go_enter Tryd.func111,Tryd.ntmps111
 go_wp2_with (first|((with_reducible refine gate_dst (N:=1) rfl ?_);refine Kd.R_lit Kd.string _ 9 ?hg (N:=1) ?hd (xs:=([(⟨#[66,69,71,73,78]⟩ : ByteArray),(⟨#[69,78,68]⟩ : ByteArray),(⟨#[102,117,110,99,116,105,111,110]⟩ : ByteArray),(⟨#[105,102]⟩ : ByteArray),(⟨#[101,108,115,101]⟩ : ByteArray),(⟨#[119,104,105,108,101]⟩ : ByteArray),(⟨#[102,111,114]⟩ : ByteArray),(⟨#[105,110]⟩ : ByteArray),(⟨#[98,114,101,97,107]⟩ : ByteArray),(⟨#[99,111,110,116,105,110,117,101]⟩ : ByteArray),(⟨#[110,101,120,116]⟩ : ByteArray),(⟨#[101,120,105,116]⟩ : ByteArray),(⟨#[114,101,116,117,114,110]⟩ : ByteArray),(⟨#[100,101,108,101,116,101]⟩ : ByteArray),(⟨#[112,114,105,110,116]⟩ : ByteArray),(⟨#[112,114,105,110,116,102]⟩ : ByteArray),(⟨#[108,101,110,103,116,104]⟩ : ByteArray),(⟨#[115,117,98,115,116,114]⟩ : ByteArray),(⟨#[105,110,100,101,120]⟩ : ByteArray),(⟨#[115,112,108,105,116]⟩ : ByteArray),(⟨#[116,111,117,112,112,101,114]⟩ : ByteArray),(⟨#[105,110,116]⟩ : ByteArray)] : List ByteArray)) (inner:=[.string (⟨#[66,69,71,73,78]⟩ : ByteArray),.string (⟨#[69,78,68]⟩ : ByteArray),.string (⟨#[102,117,110,99,116,105,111,110]⟩ : ByteArray),.string (⟨#[105,102]⟩ : ByteArray),.string (⟨#[101,108,115,101]⟩ : ByteArray),.string (⟨#[119,104,105,108,101]⟩ : ByteArray),.string (⟨#[102,111,114]⟩ : ByteArray),.string (⟨#[105,110]⟩ : ByteArray),.string (⟨#[98,114,101,97,107]⟩ : ByteArray),.string (⟨#[99,111,110,116,105,110,117,101]⟩ : ByteArray),.string (⟨#[110,101,120,116]⟩ : ByteArray),.string (⟨#[101,120,105,116]⟩ : ByteArray),.string (⟨#[114,101,116,117,114,110]⟩ : ByteArray),.string (⟨#[100,101,108,101,116,101]⟩ : ByteArray),.string (⟨#[112,114,105,110,116]⟩ : ByteArray),.string (⟨#[112,114,105,110,116,102]⟩ : ByteArray),.string (⟨#[108,101,110,103,116,104]⟩ : ByteArray),.string (⟨#[115,117,98,115,116,114]⟩ : ByteArray),.string (⟨#[105,110,100,101,120]⟩ : ByteArray),.string (⟨#[115,112,108,105,116]⟩ : ByteArray),.string (⟨#[116,111,117,112,112,101,114]⟩ : ByteArray),.string (⟨#[105,110,116]⟩ : ByteArray)]) (ok:=fun _=>True) (okp:=fun _=>True) ?hr ?hp (fun _ hk=>hk) trivial (Below.refl _ _) (Nat.le_refl _) (by simp) ?_;(case hd=>rfl);(case hg=>rfl);(case hr=>first|(go_simp;done)|(go_simp;rfl));(case hp=>exact (Reps.one (show Kd.M Kd.string _ _ _ (⟨#[66,69,71,73,78]⟩ : ByteArray) [.string (⟨#[66,69,71,73,78]⟩ : ByteArray)] from rfl) (Reps.one (show Kd.M Kd.string _ _ _ (⟨#[69,78,68]⟩ : ByteArray) [.string (⟨#[69,78,68]⟩ : ByteArray)] from rfl) (Reps.one (show Kd.M Kd.string _ _ _ (⟨#[102,117,110,99,116,105,111,110]⟩ : ByteArray) [.string (⟨#[102,117,110,99,116,105,111,110]⟩ : ByteArray)] from rfl) (Reps.one (show Kd.M Kd.string _ _ _ (⟨#[105,102]⟩ : ByteArray) [.string (⟨#[105,102]⟩ : ByteArray)] from rfl) (Reps.one (show Kd.M Kd.string _ _ _ (⟨#[101,108,115,101]⟩ : ByteArray) [.string (⟨#[101,108,115,101]⟩ : ByteArray)] from rfl) (Reps.one (show Kd.M Kd.string _ _ _ (⟨#[119,104,105,108,101]⟩ : ByteArray) [.string (⟨#[119,104,105,108,101]⟩ : ByteArray)] from rfl) (Reps.one (show Kd.M Kd.string _ _ _ (⟨#[102,111,114]⟩ : ByteArray) [.string (⟨#[102,111,114]⟩ : ByteArray)] from rfl) (Reps.one (show Kd.M Kd.string _ _ _ (⟨#[105,110]⟩ : ByteArray) [.string (⟨#[105,110]⟩ : ByteArray)] from rfl) (Reps.one (show Kd.M Kd.string _ _ _ (⟨#[98,114,101,97,107]⟩ : ByteArray) [.string (⟨#[98,114,101,97,107]⟩ : ByteArray)] from rfl) (Reps.one (show Kd.M Kd.string _ _ _ (⟨#[99,111,110,116,105,110,117,101]⟩ : ByteArray) [.string (⟨#[99,111,110,116,105,110,117,101]⟩ : ByteArray)] from rfl) (Reps.one (show Kd.M Kd.string _ _ _ (⟨#[110,101,120,116]⟩ : ByteArray) [.string (⟨#[110,101,120,116]⟩ : ByteArray)] from rfl) (Reps.one (show Kd.M Kd.string _ _ _ (⟨#[101,120,105,116]⟩ : ByteArray) [.string (⟨#[101,120,105,116]⟩ : ByteArray)] from rfl) (Reps.one (show Kd.M Kd.string _ _ _ (⟨#[114,101,116,117,114,110]⟩ : ByteArray) [.string (⟨#[114,101,116,117,114,110]⟩ : ByteArray)] from rfl) (Reps.one (show Kd.M Kd.string _ _ _ (⟨#[100,101,108,101,116,101]⟩ : ByteArray) [.string (⟨#[100,101,108,101,116,101]⟩ : ByteArray)] from rfl) (Reps.one (show Kd.M Kd.string _ _ _ (⟨#[112,114,105,110,116]⟩ : ByteArray) [.string (⟨#[112,114,105,110,116]⟩ : ByteArray)] from rfl) (Reps.one (show Kd.M Kd.string _ _ _ (⟨#[112,114,105,110,116,102]⟩ : ByteArray) [.string (⟨#[112,114,105,110,116,102]⟩ : ByteArray)] from rfl) (Reps.one (show Kd.M Kd.string _ _ _ (⟨#[108,101,110,103,116,104]⟩ : ByteArray) [.string (⟨#[108,101,110,103,116,104]⟩ : ByteArray)] from rfl) (Reps.one (show Kd.M Kd.string _ _ _ (⟨#[115,117,98,115,116,114]⟩ : ByteArray) [.string (⟨#[115,117,98,115,116,114]⟩ : ByteArray)] from rfl) (Reps.one (show Kd.M Kd.string _ _ _ (⟨#[105,110,100,101,120]⟩ : ByteArray) [.string (⟨#[105,110,100,101,120]⟩ : ByteArray)] from rfl) (Reps.one (show Kd.M Kd.string _ _ _ (⟨#[115,112,108,105,116]⟩ : ByteArray) [.string (⟨#[115,112,108,105,116]⟩ : ByteArray)] from rfl) (Reps.one (show Kd.M Kd.string _ _ _ (⟨#[116,111,117,112,112,101,114]⟩ : ByteArray) [.string (⟨#[116,111,117,112,112,101,114]⟩ : ByteArray)] from rfl) (Reps.one (show Kd.M Kd.string _ _ _ (⟨#[105,110,116]⟩ : ByteArray) [.string (⟨#[105,110,116]⟩ : ByteArray)] from rfl) (Reps.none _ _))))))))))))))))))))))));intro v701 w1 ho2 hb hg_ hnew_;clear hg_ hnew_;(first|rw [← Ny700.out] at ho2|(simp only [Int.reduceToNat] at ho2;rw [← Ny700.out] at ho2));have n0_:=Aside0.mk (Kd.R_lower ho2 (below_size (by repeat (first|(with_reducible first|exact HB.out|apply below_alloc|apply pw_below_drewN|apply below_drew1)|exact HB.out))));have n1_:=Aside0.mk (below_step (by repeat (first|(with_reducible first|exact HB.out|apply below_alloc|apply pw_below_drewN|apply below_drew1)|exact HB.out)) hb);clear HB;have HO702:=n0_;have HB:=n1_;clear n0_ n1_;clear hb ho2))
 go_ret
 exact ⟨_,by first|rfl|(simp [errW_none,errW_some] <;> rfl)|(simp [*,errW_none,errW_some] <;> rfl),by (with_reducible repeat (first|apply Kd.R_alloc|apply Kd.R_drewN|apply Kd.R_drew));exact HO702.out,by repeat (first|(with_reducible first|exact HB.out|apply below_alloc|apply pw_below_drewN|apply below_drew1)|exact HB.out)⟩
def spec_l3signs.f  : Option (List ByteArray):=some (([(⟨#[38,38]⟩ : ByteArray),(⟨#[124,124]⟩ : ByteArray),(⟨#[61,61]⟩ : ByteArray),(⟨#[33,61]⟩ : ByteArray),(⟨#[33,126]⟩ : ByteArray),(⟨#[60,61]⟩ : ByteArray),(⟨#[43,61]⟩ : ByteArray),(⟨#[123]⟩ : ByteArray),(⟨#[125]⟩ : ByteArray),(⟨#[40]⟩ : ByteArray),(⟨#[41]⟩ : ByteArray),(⟨#[91]⟩ : ByteArray),(⟨#[93]⟩ : ByteArray),(⟨#[59]⟩ : ByteArray),(⟨#[44]⟩ : ByteArray),(⟨#[61]⟩ : ByteArray),(⟨#[33]⟩ : ByteArray),(⟨#[60]⟩ : ByteArray),(⟨#[43]⟩ : ByteArray),(⟨#[45]⟩ : ByteArray),(⟨#[42]⟩ : ByteArray),(⟨#[47]⟩ : ByteArray),(⟨#[37]⟩ : ByteArray),(⟨#[126]⟩ : ByteArray),(⟨#[63]⟩ : ByteArray),(⟨#[58]⟩ : ByteArray),(⟨#[36]⟩ : ByteArray)] : List ByteArray))
set_option maxHeartbeats 8000000 in
set_option maxRecDepth 100000 in
theorem spec_l3signs.calls  (r : List ByteArray) (w : World) (h : spec_l3signs.f  = some r) :
  Calls Tryd.prog 112 #[] w fun e w'=>∃ v0_ : Value,e = .returned (v0_) ∧ Kd.R Kd.string 9 w' w.heap.size (fun _=>True) v0_ r ∧ Below w.heap.size w w':=by
 have HB:=Aside0.mk (Below.refl w.heap.size w)
 have H : (some (([(⟨#[38,38]⟩ : ByteArray),(⟨#[124,124]⟩ : ByteArray),(⟨#[61,61]⟩ : ByteArray),(⟨#[33,61]⟩ : ByteArray),(⟨#[33,126]⟩ : ByteArray),(⟨#[60,61]⟩ : ByteArray),(⟨#[43,61]⟩ : ByteArray),(⟨#[123]⟩ : ByteArray),(⟨#[125]⟩ : ByteArray),(⟨#[40]⟩ : ByteArray),(⟨#[41]⟩ : ByteArray),(⟨#[91]⟩ : ByteArray),(⟨#[93]⟩ : ByteArray),(⟨#[59]⟩ : ByteArray),(⟨#[44]⟩ : ByteArray),(⟨#[61]⟩ : ByteArray),(⟨#[33]⟩ : ByteArray),(⟨#[60]⟩ : ByteArray),(⟨#[43]⟩ : ByteArray),(⟨#[45]⟩ : ByteArray),(⟨#[42]⟩ : ByteArray),(⟨#[47]⟩ : ByteArray),(⟨#[37]⟩ : ByteArray),(⟨#[126]⟩ : ByteArray),(⟨#[63]⟩ : ByteArray),(⟨#[58]⟩ : ByteArray),(⟨#[36]⟩ : ByteArray)] : List ByteArray))) = some r:=h
 clear h
 obtain ⟨y703,hy703⟩ : ∃ y_ : List ByteArray,y_ = (([(⟨#[38,38]⟩ : ByteArray),(⟨#[124,124]⟩ : ByteArray),(⟨#[61,61]⟩ : ByteArray),(⟨#[33,61]⟩ : ByteArray),(⟨#[33,126]⟩ : ByteArray),(⟨#[60,61]⟩ : ByteArray),(⟨#[43,61]⟩ : ByteArray),(⟨#[123]⟩ : ByteArray),(⟨#[125]⟩ : ByteArray),(⟨#[40]⟩ : ByteArray),(⟨#[41]⟩ : ByteArray),(⟨#[91]⟩ : ByteArray),(⟨#[93]⟩ : ByteArray),(⟨#[59]⟩ : ByteArray),(⟨#[44]⟩ : ByteArray),(⟨#[61]⟩ : ByteArray),(⟨#[33]⟩ : ByteArray),(⟨#[60]⟩ : ByteArray),(⟨#[43]⟩ : ByteArray),(⟨#[45]⟩ : ByteArray),(⟨#[42]⟩ : ByteArray),(⟨#[47]⟩ : ByteArray),(⟨#[37]⟩ : ByteArray),(⟨#[126]⟩ : ByteArray),(⟨#[63]⟩ : ByteArray),(⟨#[58]⟩ : ByteArray),(⟨#[36]⟩ : ByteArray)] : List ByteArray)):=⟨_,rfl⟩
 replace H : (some y703) = some r:=by first|(rw [hy703];with_reducible exact H)|(have H2_:=(Option.bind_some _ _).symm.trans H;rw [hy703];with_reducible exact H2_)|(have H2_:=(Option.bind_some _ _).symm.trans H;with_reducible exact H2_)|with_reducible exact H|(rw [hy703];exact H)|exact H
 have Ny703:=Aside0.mk hy703
 clear hy703
 obtain rfl:=Option.some.inj H
 go_enter Tryd.func112,Tryd.ntmps112
 go_wp2_with (first|((with_reducible refine gate_dst (N:=1) rfl ?_);refine Kd.R_lit Kd.string _ 9 ?hg (N:=1) ?hd (xs:=([(⟨#[38,38]⟩ : ByteArray),(⟨#[124,124]⟩ : ByteArray),(⟨#[61,61]⟩ : ByteArray),(⟨#[33,61]⟩ : ByteArray),(⟨#[33,126]⟩ : ByteArray),(⟨#[60,61]⟩ : ByteArray),(⟨#[43,61]⟩ : ByteArray),(⟨#[123]⟩ : ByteArray),(⟨#[125]⟩ : ByteArray),(⟨#[40]⟩ : ByteArray),(⟨#[41]⟩ : ByteArray),(⟨#[91]⟩ : ByteArray),(⟨#[93]⟩ : ByteArray),(⟨#[59]⟩ : ByteArray),(⟨#[44]⟩ : ByteArray),(⟨#[61]⟩ : ByteArray),(⟨#[33]⟩ : ByteArray),(⟨#[60]⟩ : ByteArray),(⟨#[43]⟩ : ByteArray),(⟨#[45]⟩ : ByteArray),(⟨#[42]⟩ : ByteArray),(⟨#[47]⟩ : ByteArray),(⟨#[37]⟩ : ByteArray),(⟨#[126]⟩ : ByteArray),(⟨#[63]⟩ : ByteArray),(⟨#[58]⟩ : ByteArray),(⟨#[36]⟩ : ByteArray)] : List ByteArray)) (inner:=[.string (⟨#[38,38]⟩ : ByteArray),.string (⟨#[124,124]⟩ : ByteArray),.string (⟨#[61,61]⟩ : ByteArray),.string (⟨#[33,61]⟩ : ByteArray),.string (⟨#[33,126]⟩ : ByteArray),.string (⟨#[60,61]⟩ : ByteArray),.string (⟨#[43,61]⟩ : ByteArray),.string (⟨#[123]⟩ : ByteArray),.string (⟨#[125]⟩ : ByteArray),.string (⟨#[40]⟩ : ByteArray),.string (⟨#[41]⟩ : ByteArray),.string (⟨#[91]⟩ : ByteArray),.string (⟨#[93]⟩ : ByteArray),.string (⟨#[59]⟩ : ByteArray),.string (⟨#[44]⟩ : ByteArray),.string (⟨#[61]⟩ : ByteArray),.string (⟨#[33]⟩ : ByteArray),.string (⟨#[60]⟩ : ByteArray),.string (⟨#[43]⟩ : ByteArray),.string (⟨#[45]⟩ : ByteArray),.string (⟨#[42]⟩ : ByteArray),.string (⟨#[47]⟩ : ByteArray),.string (⟨#[37]⟩ : ByteArray),.string (⟨#[126]⟩ : ByteArray),.string (⟨#[63]⟩ : ByteArray),.string (⟨#[58]⟩ : ByteArray),.string (⟨#[36]⟩ : ByteArray)]) (ok:=fun _=>True) (okp:=fun _=>True) ?hr ?hp (fun _ hk=>hk) trivial (Below.refl _ _) (Nat.le_refl _) (by simp) ?_;(case hd=>rfl);(case hg=>rfl);(case hr=>first|(go_simp;done)|(go_simp;rfl));(case hp=>exact (Reps.one (show Kd.M Kd.string _ _ _ (⟨#[38,38]⟩ : ByteArray) [.string (⟨#[38,38]⟩ : ByteArray)] from rfl) (Reps.one (show Kd.M Kd.string _ _ _ (⟨#[124,124]⟩ : ByteArray) [.string (⟨#[124,124]⟩ : ByteArray)] from rfl) (Reps.one (show Kd.M Kd.string _ _ _ (⟨#[61,61]⟩ : ByteArray) [.string (⟨#[61,61]⟩ : ByteArray)] from rfl) (Reps.one (show Kd.M Kd.string _ _ _ (⟨#[33,61]⟩ : ByteArray) [.string (⟨#[33,61]⟩ : ByteArray)] from rfl) (Reps.one (show Kd.M Kd.string _ _ _ (⟨#[33,126]⟩ : ByteArray) [.string (⟨#[33,126]⟩ : ByteArray)] from rfl) (Reps.one (show Kd.M Kd.string _ _ _ (⟨#[60,61]⟩ : ByteArray) [.string (⟨#[60,61]⟩ : ByteArray)] from rfl) (Reps.one (show Kd.M Kd.string _ _ _ (⟨#[43,61]⟩ : ByteArray) [.string (⟨#[43,61]⟩ : ByteArray)] from rfl) (Reps.one (show Kd.M Kd.string _ _ _ (⟨#[123]⟩ : ByteArray) [.string (⟨#[123]⟩ : ByteArray)] from rfl) (Reps.one (show Kd.M Kd.string _ _ _ (⟨#[125]⟩ : ByteArray) [.string (⟨#[125]⟩ : ByteArray)] from rfl) (Reps.one (show Kd.M Kd.string _ _ _ (⟨#[40]⟩ : ByteArray) [.string (⟨#[40]⟩ : ByteArray)] from rfl) (Reps.one (show Kd.M Kd.string _ _ _ (⟨#[41]⟩ : ByteArray) [.string (⟨#[41]⟩ : ByteArray)] from rfl) (Reps.one (show Kd.M Kd.string _ _ _ (⟨#[91]⟩ : ByteArray) [.string (⟨#[91]⟩ : ByteArray)] from rfl) (Reps.one (show Kd.M Kd.string _ _ _ (⟨#[93]⟩ : ByteArray) [.string (⟨#[93]⟩ : ByteArray)] from rfl) (Reps.one (show Kd.M Kd.string _ _ _ (⟨#[59]⟩ : ByteArray) [.string (⟨#[59]⟩ : ByteArray)] from rfl) (Reps.one (show Kd.M Kd.string _ _ _ (⟨#[44]⟩ : ByteArray) [.string (⟨#[44]⟩ : ByteArray)] from rfl) (Reps.one (show Kd.M Kd.string _ _ _ (⟨#[61]⟩ : ByteArray) [.string (⟨#[61]⟩ : ByteArray)] from rfl) (Reps.one (show Kd.M Kd.string _ _ _ (⟨#[33]⟩ : ByteArray) [.string (⟨#[33]⟩ : ByteArray)] from rfl) (Reps.one (show Kd.M Kd.string _ _ _ (⟨#[60]⟩ : ByteArray) [.string (⟨#[60]⟩ : ByteArray)] from rfl) (Reps.one (show Kd.M Kd.string _ _ _ (⟨#[43]⟩ : ByteArray) [.string (⟨#[43]⟩ : ByteArray)] from rfl) (Reps.one (show Kd.M Kd.string _ _ _ (⟨#[45]⟩ : ByteArray) [.string (⟨#[45]⟩ : ByteArray)] from rfl) (Reps.one (show Kd.M Kd.string _ _ _ (⟨#[42]⟩ : ByteArray) [.string (⟨#[42]⟩ : ByteArray)] from rfl) (Reps.one (show Kd.M Kd.string _ _ _ (⟨#[47]⟩ : ByteArray) [.string (⟨#[47]⟩ : ByteArray)] from rfl) (Reps.one (show Kd.M Kd.string _ _ _ (⟨#[37]⟩ : ByteArray) [.string (⟨#[37]⟩ : ByteArray)] from rfl) (Reps.one (show Kd.M Kd.string _ _ _ (⟨#[126]⟩ : ByteArray) [.string (⟨#[126]⟩ : ByteArray)] from rfl) (Reps.one (show Kd.M Kd.string _ _ _ (⟨#[63]⟩ : ByteArray) [.string (⟨#[63]⟩ : ByteArray)] from rfl) (Reps.one (show Kd.M Kd.string _ _ _ (⟨#[58]⟩ : ByteArray) [.string (⟨#[58]⟩ : ByteArray)] from rfl) (Reps.one (show Kd.M Kd.string _ _ _ (⟨#[36]⟩ : ByteArray) [.string (⟨#[36]⟩ : ByteArray)] from rfl) (Reps.none _ _)))))))))))))))))))))))))))));intro v704 w1 ho2 hb hg_ hnew_;clear hg_ hnew_;(first|rw [← Ny703.out] at ho2|(simp only [Int.reduceToNat] at ho2;rw [← Ny703.out] at ho2));have n0_:=Aside0.mk (Kd.R_lower ho2 (below_size (by repeat (first|(with_reducible first|exact HB.out|apply below_alloc|apply pw_below_drewN|apply below_drew1)|exact HB.out))));have n1_:=Aside0.mk (below_step (by repeat (first|(with_reducible first|exact HB.out|apply below_alloc|apply pw_below_drewN|apply below_drew1)|exact HB.out)) hb);clear HB;have HO705:=n0_;have HB:=n1_;clear n0_ n1_;clear hb ho2))
 go_ret
 exact ⟨_,by first|rfl|(simp [errW_none,errW_some] <;> rfl)|(simp [*,errW_none,errW_some] <;> rfl),by (with_reducible repeat (first|apply Kd.R_alloc|apply Kd.R_drewN|apply Kd.R_drew));exact HO705.out,by repeat (first|(with_reducible first|exact HB.out|apply below_alloc|apply pw_below_drewN|apply below_drew1)|exact HB.out)⟩
def spec_l3tok.f (s0_0 : List Int) (s0_1 : Int) (s0_2 : Int) : Option (ByteArray × Int × Int):=(spec_l1Below.f s0_0 s0_1 s0_2 7).bind fun bt706=>(if bt706.1 = 0 then ((spec_l3words.f).bind fun t709=>((spec_l1text.f s0_0 bt706.2.1 bt706.2.2 t709).bind fun bt712=>(some (bt712.1,bt712.2.1,bt712.2.2)))) else (if bt706.1 = 1 then ((spec_l3signs.f).bind fun t715=>((spec_l1text.f s0_0 bt706.2.1 bt706.2.2 t715).bind fun bt718=>(some (bt718.1,bt718.2.1,bt718.2.2)))) else (if bt706.1 = 2 then ((spec_l1text.f s0_0 bt706.2.1 bt706.2.2 (([(⟨#[34,97,34]⟩ : ByteArray),(⟨#[34,97,92,110,92,34,92,92,92,116,34]⟩ : ByteArray),(⟨#[34]⟩ : ByteArray),(⟨#[34,92,113,34]⟩ : ByteArray),(⟨#[34,34]⟩ : ByteArray)] : List ByteArray))).bind fun bt724=>(some (bt724.1,bt724.2.1,bt724.2.2))) else (if bt706.1 = 3 then ((spec_l1text.f s0_0 bt706.2.1 bt706.2.2 (([(⟨#[47,97,47]⟩ : ByteArray),(⟨#[47,97,92,47,98,47]⟩ : ByteArray),(⟨#[47]⟩ : ByteArray),(⟨#[47,91,47]⟩ : ByteArray),(⟨#[47,32,47]⟩ : ByteArray)] : List ByteArray))).bind fun bt730=>(some (bt730.1,bt730.2.1,bt730.2.2))) else (if bt706.1 = 4 then ((spec_l1text.f s0_0 bt706.2.1 bt706.2.2 (([(⟨#[48]⟩ : ByteArray),(⟨#[49]⟩ : ByteArray),(⟨#[49,50,46,53]⟩ : ByteArray),(⟨#[55,46]⟩ : ByteArray),(⟨#[51,46,48,48,48,48,48,48,49]⟩ : ByteArray),(⟨#[57,57,57,57,57,57,57,57,57,57,57]⟩ : ByteArray)] : List ByteArray))).bind fun bt736=>(some (bt736.1,bt736.2.1,bt736.2.2))) else ((spec_l1text.f s0_0 bt706.2.1 bt706.2.2 (([(⟨#[120]⟩ : ByteArray),(⟨#[121]⟩ : ByteArray),(⟨#[65]⟩ : ByteArray),(⟨#[102,40]⟩ : ByteArray),(⟨#[95,122,57]⟩ : ByteArray),(⟨#[78,82]⟩ : ByteArray),(⟨#[110]⟩ : ByteArray)] : List ByteArray))).bind fun bt742=>(some (bt742.1,bt742.2.1,bt742.2.2))))))))
set_option maxHeartbeats 8000000 in
set_option maxRecDepth 100000 in
theorem spec_l3tok.calls (g : Nat) (s0_0 : List Int) (s0_1 : Int) (s0_2 : Int) (r1 : ByteArray) (r2 : Int) (r3 : Int) (w0 w : World) (hI : IsS90 w0 w g s0_0 s0_1 s0_2) (hB : Below w0.heap.size w0 w) (h : spec_l3tok.f s0_0 s0_1 s0_2 = some (r1,r2,r3)) :
  Calls Tryd.prog 72 #[.pointer (some ⟨g,0,none⟩)] w fun e w'=>e = .returned (.string r1) ∧ IsS90 w0 w' g s0_0 r2 r3 ∧ Below w0.heap.size w0 w' ∧ KeepBut w w' g none:=by
 have HI0:=Aside0.mk hI
 have HK:=Aside0.mk (KeepBut.refl w g none)
 have HL:=Aside0.mk hB.size
 clear hI
 have HW0:=Aside0.mk hB.size
 have HB:=Aside0.mk hB
 clear hB
 have H : ((spec_l1Below.f s0_0 s0_1 s0_2 7).bind fun bt706=>(if bt706.1 = 0 then ((spec_l3words.f).bind fun t709=>((spec_l1text.f s0_0 bt706.2.1 bt706.2.2 t709).bind fun bt712=>(some (bt712.1,bt712.2.1,bt712.2.2)))) else (if bt706.1 = 1 then ((spec_l3signs.f).bind fun t715=>((spec_l1text.f s0_0 bt706.2.1 bt706.2.2 t715).bind fun bt718=>(some (bt718.1,bt718.2.1,bt718.2.2)))) else (if bt706.1 = 2 then ((spec_l1text.f s0_0 bt706.2.1 bt706.2.2 (([(⟨#[34,97,34]⟩ : ByteArray),(⟨#[34,97,92,110,92,34,92,92,92,116,34]⟩ : ByteArray),(⟨#[34]⟩ : ByteArray),(⟨#[34,92,113,34]⟩ : ByteArray),(⟨#[34,34]⟩ : ByteArray)] : List ByteArray))).bind fun bt724=>(some (bt724.1,bt724.2.1,bt724.2.2))) else (if bt706.1 = 3 then ((spec_l1text.f s0_0 bt706.2.1 bt706.2.2 (([(⟨#[47,97,47]⟩ : ByteArray),(⟨#[47,97,92,47,98,47]⟩ : ByteArray),(⟨#[47]⟩ : ByteArray),(⟨#[47,91,47]⟩ : ByteArray),(⟨#[47,32,47]⟩ : ByteArray)] : List ByteArray))).bind fun bt730=>(some (bt730.1,bt730.2.1,bt730.2.2))) else (if bt706.1 = 4 then ((spec_l1text.f s0_0 bt706.2.1 bt706.2.2 (([(⟨#[48]⟩ : ByteArray),(⟨#[49]⟩ : ByteArray),(⟨#[49,50,46,53]⟩ : ByteArray),(⟨#[55,46]⟩ : ByteArray),(⟨#[51,46,48,48,48,48,48,48,49]⟩ : ByteArray),(⟨#[57,57,57,57,57,57,57,57,57,57,57]⟩ : ByteArray)] : List ByteArray))).bind fun bt736=>(some (bt736.1,bt736.2.1,bt736.2.2))) else ((spec_l1text.f s0_0 bt706.2.1 bt706.2.2 (([(⟨#[120]⟩ : ByteArray),(⟨#[121]⟩ : ByteArray),(⟨#[65]⟩ : ByteArray),(⟨#[102,40]⟩ : ByteArray),(⟨#[95,122,57]⟩ : ByteArray),(⟨#[78,82]⟩ : ByteArray),(⟨#[110]⟩ : ByteArray)] : List ByteArray))).bind fun bt742=>(some (bt742.1,bt742.2.1,bt742.2.2))))))))) = some (r1,r2,r3):=h
 clear h
 replace H:=Option.bind_eq_some_iff.mp H
 obtain ⟨⟨t706,t707,t708⟩,A20,H⟩:=H
 replace H : (if t706 = 0 then ((spec_l3words.f).bind fun t709=>((spec_l1text.f s0_0 t707 t708 t709).bind fun bt712=>(some (bt712.1,bt712.2.1,bt712.2.2)))) else (if t706 = 1 then ((spec_l3signs.f).bind fun t715=>((spec_l1text.f s0_0 t707 t708 t715).bind fun bt718=>(some (bt718.1,bt718.2.1,bt718.2.2)))) else (if t706 = 2 then ((spec_l1text.f s0_0 t707 t708 (([(⟨#[34,97,34]⟩ : ByteArray),(⟨#[34,97,92,110,92,34,92,92,92,116,34]⟩ : ByteArray),(⟨#[34]⟩ : ByteArray),(⟨#[34,92,113,34]⟩ : ByteArray),(⟨#[34,34]⟩ : ByteArray)] : List ByteArray))).bind fun bt724=>(some (bt724.1,bt724.2.1,bt724.2.2))) else (if t706 = 3 then ((spec_l1text.f s0_0 t707 t708 (([(⟨#[47,97,47]⟩ : ByteArray),(⟨#[47,97,92,47,98,47]⟩ : ByteArray),(⟨#[47]⟩ : ByteArray),(⟨#[47,91,47]⟩ : ByteArray),(⟨#[47,32,47]⟩ : ByteArray)] : List ByteArray))).bind fun bt730=>(some (bt730.1,bt730.2.1,bt730.2.2))) else (if t706 = 4 then ((spec_l1text.f s0_0 t707 t708 (([(⟨#[48]⟩ : ByteArray),(⟨#[49]⟩ : ByteArray),(⟨#[49,50,46,53]⟩ : ByteArray),(⟨#[55,46]⟩ : ByteArray),(⟨#[51,46,48,48,48,48,48,48,49]⟩ : ByteArray),(⟨#[57,57,57,57,57,57,57,57,57,57,57]⟩ : ByteArray)] : List ByteArray))).bind fun bt736=>(some (bt736.1,bt736.2.1,bt736.2.2))) else ((spec_l1text.f s0_0 t707 t708 (([(⟨#[120]⟩ : ByteArray),(⟨#[121]⟩ : ByteArray),(⟨#[65]⟩ : ByteArray),(⟨#[102,40]⟩ : ByteArray),(⟨#[95,122,57]⟩ : ByteArray),(⟨#[78,82]⟩ : ByteArray),(⟨#[110]⟩ : ByteArray)] : List ByteArray))).bind fun bt742=>(some (bt742.1,bt742.2.1,bt742.2.2)))))))) = some (r1,r2,r3):=H
 have A2:=Aside0.mk A20
 clear A20
 by_cases c3 : t706 = 0
 ·rw [if_pos c3] at H
  have c3b0 : (t706 == 0) = true:=beq_iff_eq.mpr c3
  have c3b1 : (t706 != 0) = false:=bne_eq_false_iff_eq.mpr c3
  clear c3
  replace H:=Option.bind_eq_some_iff.mp H
  obtain ⟨t709,A40,H⟩:=H
  replace H : ((spec_l1text.f s0_0 t707 t708 t709).bind fun bt712=>(some (bt712.1,bt712.2.1,bt712.2.2))) = some (r1,r2,r3):=H
  have A4:=Aside0.mk A40
  clear A40
  replace H:=Option.bind_eq_some_iff.mp H
  obtain ⟨⟨t712,t713,t714⟩,A50,H⟩:=H
  replace H : (some (t712,t713,t714)) = some (r1,r2,r3):=H
  have A5:=Aside0.mk A50
  clear A50
  simp only [Option.some.injEq,Prod.mk.injEq] at H
  obtain ⟨rfl,rfl,rfl⟩:=H
  go_enter Tryd.func72,Tryd.ntmps72
  go_wp2_with (first|((with_reducible refine gate_callee (f:=48) rfl ?_);refine goesL_ (some 4) rfl rfl Tryd.func48 (by kernel_rfl) rfl #[.pointer (some ⟨g,0,none⟩),.int .i64 7] rfl (by (try simp only [List.map_toArray,List.map_cons,List.map_nil]);first|done|rfl|(simp only [List.length_drop,List.length_take];rfl)) ?_;(with_reducible refine (spec_l1Below.calls g s0_0 s0_1 s0_2 7 t706 t707 t708 w0 _ ?side1 ?side2 A2.out).mono ?_);(case side1=>repeat (first|(with_reducible first|exact HI0.out|apply IsS90.alloc|apply IsS90.drewN|apply IsS90.drew|apply IsS90.set_1|apply IsS90.set_2)|exact HI0.out));(case side2=>repeat (first|(with_reducible first|exact HB.out|apply below_alloc|apply pw_below_drewN|apply below_drew1|refine below_set ?_ (IsS90.ge HI0.out))|exact HB.out));rintro e w6 ⟨rfl,hi,hb,hk⟩;refine ⟨_,rfl,?_⟩;have n0_:=Aside0.mk (KeepBut.trans (by repeat (first|(with_reducible first|exact HK.out|apply KeepBut.set_|apply keep_drewN|apply keep_drew|apply keep_alloc)|exact HK.out)) hk (.inl rfl));have n1_:=Aside0.mk (hb);have n2_:=Aside0.mk (hi);clear HK;clear HB;clear HI0;have HK:=n0_;have HB:=n1_;have HI0:=n2_;clear n0_ n1_ n2_;(try clear hb);(try clear hb2);(try clear hk);(try clear hi))|((with_reducible refine gate_callee (f:=111) rfl ?_);refine goesL_ (some 8) rfl rfl Tryd.func111 (by kernel_rfl) rfl #[] rfl (by (try simp only [List.map_toArray,List.map_cons,List.map_nil]);first|done|rfl|(simp only [List.length_drop,List.length_take];rfl)) ?_;(with_reducible refine (spec_l3words.calls  t709 _ A4.out).mono ?_);rintro e w7 ⟨v710,rfl,ho0,hb⟩;refine ⟨_,rfl,?_⟩;have n0_:=Aside0.mk (Kd.R_lower ho0 (keep_size (w:=w) (g:=g) (row:=none) (by repeat (first|(with_reducible first|exact HK.out|apply KeepBut.set_|apply keep_drewN|apply keep_drew|apply keep_alloc)|exact HK.out))));have n1_:=Aside0.mk (IsS90.below (by repeat (first|(with_reducible first|exact HI0.out|apply IsS90.alloc|apply IsS90.drewN|apply IsS90.drew|apply IsS90.set_1|apply IsS90.set_2)|exact HI0.out)) hb);have n2_:=Aside0.mk (KeepBut.trans (by repeat (first|(with_reducible first|exact HK.out|apply KeepBut.set_|apply keep_drewN|apply keep_drew|apply keep_alloc)|exact HK.out)) (KeepBut.of_below hb g none) (.inl rfl));have n3_:=Aside0.mk (below_step (by repeat (first|(with_reducible first|exact HB.out|apply below_alloc|apply pw_below_drewN|apply below_drew1|refine below_set ?_ (IsS90.ge HI0.out))|exact HB.out)) hb);clear HI0;clear HK;clear HB;have HO711:=n0_;have HI0:=n1_;have HK:=n2_;have HB:=n3_;clear n0_ n1_ n2_ n3_;(try clear hb);(try clear hb2);(try clear hk);(try clear hi);(try clear ho0);obtain ⟨Ao8,co8,eo8⟩:=Kd.R_slice HO711.out;subst eo8)|((with_reducible refine gate_callee (f:=73) rfl ?_);refine goesL_ (some 9) rfl rfl Tryd.func73 (by kernel_rfl) rfl #[.pointer (some ⟨g,0,none⟩),.slice Ao8 t709.length co8] rfl (by (try simp only [List.map_toArray,List.map_cons,List.map_nil]);first|done|rfl|(simp only [List.length_drop,List.length_take];rfl)) ?_;(with_reducible refine (spec_l1text.calls g s0_0 t707 t708 _ _ t709 t712 t713 t714 w0 _ ?side1 ?side2 ?side3 ?side4 ?side5 A5.out).mono ?_);(case side1=>repeat (first|(with_reducible first|exact HI0.out|apply IsS90.alloc|apply IsS90.drewN|apply IsS90.drew|apply IsS90.set_1|apply IsS90.set_2)|exact HI0.out));(case side2=>repeat (first|(with_reducible first|exact HB.out|apply below_alloc|apply pw_below_drewN|apply below_drew1|refine below_set ?_ (IsS90.ge HI0.out))|exact HB.out));(case side3=>repeat (first|exact (Kd.R_reads' HO711.out).2.2|(with_reducible refine Kd.C_alloc ?_ _)|(with_reducible refine Kd.C_drewN ?_ _)|(with_reducible refine Kd.C_drew ?_)));(case side4=>exact (Kd.R_reads' HO711.out).2.1);(case side5=>exact far_slice (IsS90.own_ne HI0.out HO711.out (by decide)));rintro e w9 ⟨rfl,hi,hb,hk⟩;refine ⟨_,rfl,?_⟩;have n0_:=Aside0.mk (Kd.R_mono (Kd.R_keep (IsS90.apart (show IsS90 w0 _ g s0_0 t707 t708 from by repeat (first|(with_reducible first|exact HI0.out|apply IsS90.alloc|apply IsS90.drewN|apply IsS90.drew|apply IsS90.set_1|apply IsS90.set_2)|exact HI0.out)) (by (with_reducible repeat (first|apply Kd.R_alloc|apply Kd.R_drewN|apply Kd.R_drew));exact HO711.out) (by decide)) hk (fun _ h=>h.2)) (fun _ h=>h.1));have n1_:=Aside0.mk (KeepBut.trans (by repeat (first|(with_reducible first|exact HK.out|apply KeepBut.set_|apply keep_drewN|apply keep_drew|apply keep_alloc)|exact HK.out)) hk (.inl rfl));have n2_:=Aside0.mk (hb);have n3_:=Aside0.mk (hi);clear HO711;clear HK;clear HB;clear HI0;have HO711:=n0_;have HK:=n1_;have HB:=n2_;have HI0:=n3_;clear n0_ n1_ n2_ n3_;(try clear hb);(try clear hb2);(try clear hk);(try clear hi)))
  go_ret
  exact ⟨by first|rfl|(simp [errW_none,errW_some] <;> rfl)|(simp [*,errW_none,errW_some] <;> rfl),by repeat (first|(with_reducible first|exact HI0.out|apply IsS90.alloc|apply IsS90.drewN|apply IsS90.drew|apply IsS90.set_1|apply IsS90.set_2)|exact HI0.out),by repeat (first|(with_reducible first|exact HB.out|apply below_alloc|apply pw_below_drewN|apply below_drew1|refine below_set ?_ (IsS90.ge HI0.out))|exact HB.out),by repeat (first|(with_reducible first|exact HK.out|apply KeepBut.set_|apply keep_drewN|apply keep_drew|apply keep_alloc)|exact HK.out)⟩
 ·rw [if_neg c3] at H
  have c3b0 : (t706 == 0) = false:=beq_eq_false_iff_ne.mpr c3
  have c3b1 : (t706 != 0) = true:=bne_iff_ne.mpr c3
  by_cases c10 : t706 = 1
  ·rw [if_pos c10] at H
   have c10b0 : (t706 == 1) = true:=beq_iff_eq.mpr c10
   have c10b1 : (t706 != 1) = false:=bne_eq_false_iff_eq.mpr c10
   clear c10
   replace H:=Option.bind_eq_some_iff.mp H
   obtain ⟨t715,A110,H⟩:=H
   replace H : ((spec_l1text.f s0_0 t707 t708 t715).bind fun bt718=>(some (bt718.1,bt718.2.1,bt718.2.2))) = some (r1,r2,r3):=H
   have A11:=Aside0.mk A110
   clear A110
   replace H:=Option.bind_eq_some_iff.mp H
   obtain ⟨⟨t718,t719,t720⟩,A120,H⟩:=H
   replace H : (some (t718,t719,t720)) = some (r1,r2,r3):=H
   have A12:=Aside0.mk A120
   clear A120
   simp only [Option.some.injEq,Prod.mk.injEq] at H
   obtain ⟨rfl,rfl,rfl⟩:=H
   go_enter Tryd.func72,Tryd.ntmps72
   go_wp2_with (first|((with_reducible refine gate_callee (f:=48) rfl ?_);refine goesL_ (some 4) rfl rfl Tryd.func48 (by kernel_rfl) rfl #[.pointer (some ⟨g,0,none⟩),.int .i64 7] rfl (by (try simp only [List.map_toArray,List.map_cons,List.map_nil]);first|done|rfl|(simp only [List.length_drop,List.length_take];rfl)) ?_;(with_reducible refine (spec_l1Below.calls g s0_0 s0_1 s0_2 7 t706 t707 t708 w0 _ ?side1 ?side2 A2.out).mono ?_);(case side1=>repeat (first|(with_reducible first|exact HI0.out|apply IsS90.alloc|apply IsS90.drewN|apply IsS90.drew|apply IsS90.set_1|apply IsS90.set_2)|exact HI0.out));(case side2=>repeat (first|(with_reducible first|exact HB.out|apply below_alloc|apply pw_below_drewN|apply below_drew1|refine below_set ?_ (IsS90.ge HI0.out))|exact HB.out));rintro e w13 ⟨rfl,hi,hb,hk⟩;refine ⟨_,rfl,?_⟩;have n0_:=Aside0.mk (KeepBut.trans (by repeat (first|(with_reducible first|exact HK.out|apply KeepBut.set_|apply keep_drewN|apply keep_drew|apply keep_alloc)|exact HK.out)) hk (.inl rfl));have n1_:=Aside0.mk (hb);have n2_:=Aside0.mk (hi);clear HK;clear HB;clear HI0;have HK:=n0_;have HB:=n1_;have HI0:=n2_;clear n0_ n1_ n2_;(try clear hb);(try clear hb2);(try clear hk);(try clear hi))|((with_reducible refine gate_callee (f:=112) rfl ?_);refine goesL_ (some 13) rfl rfl Tryd.func112 (by kernel_rfl) rfl #[] rfl (by (try simp only [List.map_toArray,List.map_cons,List.map_nil]);first|done|rfl|(simp only [List.length_drop,List.length_take];rfl)) ?_;(with_reducible refine (spec_l3signs.calls  t715 _ A11.out).mono ?_);rintro e w14 ⟨v716,rfl,ho0,hb⟩;refine ⟨_,rfl,?_⟩;have n0_:=Aside0.mk (Kd.R_lower ho0 (keep_size (w:=w) (g:=g) (row:=none) (by repeat (first|(with_reducible first|exact HK.out|apply KeepBut.set_|apply keep_drewN|apply keep_drew|apply keep_alloc)|exact HK.out))));have n1_:=Aside0.mk (IsS90.below (by repeat (first|(with_reducible first|exact HI0.out|apply IsS90.alloc|apply IsS90.drewN|apply IsS90.drew|apply IsS90.set_1|apply IsS90.set_2)|exact HI0.out)) hb);have n2_:=Aside0.mk (KeepBut.trans (by repeat (first|(with_reducible first|exact HK.out|apply KeepBut.set_|apply keep_drewN|apply keep_drew|apply keep_alloc)|exact HK.out)) (KeepBut.of_below hb g none) (.inl rfl));have n3_:=Aside0.mk (below_step (by repeat (first|(with_reducible first|exact HB.out|apply below_alloc|apply pw_below_drewN|apply below_drew1|refine below_set ?_ (IsS90.ge HI0.out))|exact HB.out)) hb);clear HI0;clear HK;clear HB;have HO717:=n0_;have HI0:=n1_;have HK:=n2_;have HB:=n3_;clear n0_ n1_ n2_ n3_;(try clear hb);(try clear hb2);(try clear hk);(try clear hi);(try clear ho0);obtain ⟨Ao15,co15,eo15⟩:=Kd.R_slice HO717.out;subst eo15)|((with_reducible refine gate_callee (f:=73) rfl ?_);refine goesL_ (some 14) rfl rfl Tryd.func73 (by kernel_rfl) rfl #[.pointer (some ⟨g,0,none⟩),.slice Ao15 t715.length co15] rfl (by (try simp only [List.map_toArray,List.map_cons,List.map_nil]);first|done|rfl|(simp only [List.length_drop,List.length_take];rfl)) ?_;(with_reducible refine (spec_l1text.calls g s0_0 t707 t708 _ _ t715 t718 t719 t720 w0 _ ?side1 ?side2 ?side3 ?side4 ?side5 A12.out).mono ?_);(case side1=>repeat (first|(with_reducible first|exact HI0.out|apply IsS90.alloc|apply IsS90.drewN|apply IsS90.drew|apply IsS90.set_1|apply IsS90.set_2)|exact HI0.out));(case side2=>repeat (first|(with_reducible first|exact HB.out|apply below_alloc|apply pw_below_drewN|apply below_drew1|refine below_set ?_ (IsS90.ge HI0.out))|exact HB.out));(case side3=>repeat (first|exact (Kd.R_reads' HO717.out).2.2|(with_reducible refine Kd.C_alloc ?_ _)|(with_reducible refine Kd.C_drewN ?_ _)|(with_reducible refine Kd.C_drew ?_)));(case side4=>exact (Kd.R_reads' HO717.out).2.1);(case side5=>exact far_slice (IsS90.own_ne HI0.out HO717.out (by decide)));rintro e w16 ⟨rfl,hi,hb,hk⟩;refine ⟨_,rfl,?_⟩;have n0_:=Aside0.mk (Kd.R_mono (Kd.R_keep (IsS90.apart (show IsS90 w0 _ g s0_0 t707 t708 from by repeat (first|(with_reducible first|exact HI0.out|apply IsS90.alloc|apply IsS90.drewN|apply IsS90.drew|apply IsS90.set_1|apply IsS90.set_2)|exact HI0.out)) (by (with_reducible repeat (first|apply Kd.R_alloc|apply Kd.R_drewN|apply Kd.R_drew));exact HO717.out) (by decide)) hk (fun _ h=>h.2)) (fun _ h=>h.1));have n1_:=Aside0.mk (KeepBut.trans (by repeat (first|(with_reducible first|exact HK.out|apply KeepBut.set_|apply keep_drewN|apply keep_drew|apply keep_alloc)|exact HK.out)) hk (.inl rfl));have n2_:=Aside0.mk (hb);have n3_:=Aside0.mk (hi);clear HO717;clear HK;clear HB;clear HI0;have HO717:=n0_;have HK:=n1_;have HB:=n2_;have HI0:=n3_;clear n0_ n1_ n2_ n3_;(try clear hb);(try clear hb2);(try clear hk);(try clear hi)))
   go_ret
   exact ⟨by first|rfl|(simp [errW_none,errW_some] <;> rfl)|(simp [*,errW_none,errW_some] <;> rfl),by repeat (first|(with_reducible first|exact HI0.out|apply IsS90.alloc|apply IsS90.drewN|apply IsS90.drew|apply IsS90.set_1|apply IsS90.set_2)|exact HI0.out),by repeat (first|(with_reducible first|exact HB.out|apply below_alloc|apply pw_below_drewN|apply below_drew1|refine below_set ?_ (IsS90.ge HI0.out))|exact HB.out),by repeat (first|(with_reducible first|exact HK.out|apply KeepBut.set_|apply keep_drewN|apply keep_drew|apply keep_alloc)|exact HK.out)⟩
  ·rw [if_neg c10] at H
   have c10b0 : (t706 == 1) = false:=beq_eq_false_iff_ne.mpr c10
   have c10b1 : (t706 != 1) = true:=bne_iff_ne.mpr c10
   by_cases c17 : t706 = 2
   ·rw [if_pos c17] at H
    have c17b0 : (t706 == 2) = true:=beq_iff_eq.mpr c17
    have c17b1 : (t706 != 2) = false:=bne_eq_false_iff_eq.mpr c17
    clear c17
    obtain ⟨y721,hy721⟩ : ∃ y_ : List ByteArray,y_ = (([(⟨#[34,97,34]⟩ : ByteArray),(⟨#[34,97,92,110,92,34,92,92,92,116,34]⟩ : ByteArray),(⟨#[34]⟩ : ByteArray),(⟨#[34,92,113,34]⟩ : ByteArray),(⟨#[34,34]⟩ : ByteArray)] : List ByteArray)):=⟨_,rfl⟩
    replace H : ((spec_l1text.f s0_0 t707 t708 y721).bind fun bt724=>(some (bt724.1,bt724.2.1,bt724.2.2))) = some (r1,r2,r3):=by first|(rw [hy721];with_reducible exact H)|(have H2_:=(Option.bind_some _ _).symm.trans H;rw [hy721];with_reducible exact H2_)|(have H2_:=(Option.bind_some _ _).symm.trans H;with_reducible exact H2_)|with_reducible exact H|(rw [hy721];exact H)|exact H
    have Ny721:=Aside0.mk hy721
    clear hy721
    replace H:=Option.bind_eq_some_iff.mp H
    obtain ⟨⟨t724,t725,t726⟩,A180,H⟩:=H
    replace H : (some (t724,t725,t726)) = some (r1,r2,r3):=H
    have A18:=Aside0.mk A180
    clear A180
    simp only [Option.some.injEq,Prod.mk.injEq] at H
    obtain ⟨rfl,rfl,rfl⟩:=H
    go_enter Tryd.func72,Tryd.ntmps72
    go_wp2_with (first|((with_reducible refine gate_callee (f:=48) rfl ?_);refine goesL_ (some 4) rfl rfl Tryd.func48 (by kernel_rfl) rfl #[.pointer (some ⟨g,0,none⟩),.int .i64 7] rfl (by (try simp only [List.map_toArray,List.map_cons,List.map_nil]);first|done|rfl|(simp only [List.length_drop,List.length_take];rfl)) ?_;(with_reducible refine (spec_l1Below.calls g s0_0 s0_1 s0_2 7 t706 t707 t708 w0 _ ?side1 ?side2 A2.out).mono ?_);(case side1=>repeat (first|(with_reducible first|exact HI0.out|apply IsS90.alloc|apply IsS90.drewN|apply IsS90.drew|apply IsS90.set_1|apply IsS90.set_2)|exact HI0.out));(case side2=>repeat (first|(with_reducible first|exact HB.out|apply below_alloc|apply pw_below_drewN|apply below_drew1|refine below_set ?_ (IsS90.ge HI0.out))|exact HB.out));rintro e w19 ⟨rfl,hi,hb,hk⟩;refine ⟨_,rfl,?_⟩;have n0_:=Aside0.mk (KeepBut.trans (by repeat (first|(with_reducible first|exact HK.out|apply KeepBut.set_|apply keep_drewN|apply keep_drew|apply keep_alloc)|exact HK.out)) hk (.inl rfl));have n1_:=Aside0.mk (hb);have n2_:=Aside0.mk (hi);clear HK;clear HB;clear HI0;have HK:=n0_;have HB:=n1_;have HI0:=n2_;clear n0_ n1_ n2_;(try clear hb);(try clear hb2);(try clear hk);(try clear hi))|((with_reducible refine gate_dst (N:=18) rfl ?_);refine Kd.R_lit Kd.string _ 9 ?hg (N:=18) ?hd (xs:=([(⟨#[34,97,34]⟩ : ByteArray),(⟨#[34,97,92,110,92,34,92,92,92,116,34]⟩ : ByteArray),(⟨#[34]⟩ : ByteArray),(⟨#[34,92,113,34]⟩ : ByteArray),(⟨#[34,34]⟩ : ByteArray)] : List ByteArray)) (inner:=[.string (⟨#[34,97,34]⟩ : ByteArray),.string (⟨#[34,97,92,110,92,34,92,92,92,116,34]⟩ : ByteArray),.string (⟨#[34]⟩ : ByteArray),.string (⟨#[34,92,113,34]⟩ : ByteArray),.string (⟨#[34,34]⟩ : ByteArray)]) (ok:=fun _=>True) (okp:=fun _=>True) ?hr ?hp (fun _ hk=>hk) trivial (Below.refl _ _) (Nat.le_refl _) (by simp) ?_;(case hd=>rfl);(case hg=>rfl);(case hr=>first|(go_simp;done)|(go_simp;rfl));(case hp=>exact (Reps.one (show Kd.M Kd.string _ _ _ (⟨#[34,97,34]⟩ : ByteArray) [.string (⟨#[34,97,34]⟩ : ByteArray)] from rfl) (Reps.one (show Kd.M Kd.string _ _ _ (⟨#[34,97,92,110,92,34,92,92,92,116,34]⟩ : ByteArray) [.string (⟨#[34,97,92,110,92,34,92,92,92,116,34]⟩ : ByteArray)] from rfl) (Reps.one (show Kd.M Kd.string _ _ _ (⟨#[34]⟩ : ByteArray) [.string (⟨#[34]⟩ : ByteArray)] from rfl) (Reps.one (show Kd.M Kd.string _ _ _ (⟨#[34,92,113,34]⟩ : ByteArray) [.string (⟨#[34,92,113,34]⟩ : ByteArray)] from rfl) (Reps.one (show Kd.M Kd.string _ _ _ (⟨#[34,34]⟩ : ByteArray) [.string (⟨#[34,34]⟩ : ByteArray)] from rfl) (Reps.none _ _)))))));intro v722 w20 ho21 hb hg_ hnew_;clear hg_ hnew_;(first|rw [← Ny721.out] at ho21|(simp only [Int.reduceToNat] at ho21;rw [← Ny721.out] at ho21));have n0_:=Aside0.mk (Kd.R_lower ho21 (keep_size (w:=w) (g:=g) (row:=none) (by repeat (first|(with_reducible first|exact HK.out|apply KeepBut.set_|apply keep_drewN|apply keep_drew|apply keep_alloc)|exact HK.out))));have n1_:=Aside0.mk (IsS90.below (by repeat (first|(with_reducible first|exact HI0.out|apply IsS90.alloc|apply IsS90.drewN|apply IsS90.drew|apply IsS90.set_1|apply IsS90.set_2)|exact HI0.out)) hb);have n2_:=Aside0.mk (KeepBut.trans (by repeat (first|(with_reducible first|exact HK.out|apply KeepBut.set_|apply keep_drewN|apply keep_drew|apply keep_alloc)|exact HK.out)) (KeepBut.of_below hb g none) (.inl rfl));have n3_:=Aside0.mk (below_step (by repeat (first|(with_reducible first|exact HB.out|apply below_alloc|apply pw_below_drewN|apply below_drew1|refine below_set ?_ (IsS90.ge HI0.out))|exact HB.out)) hb);clear HI0;clear HK;clear HB;have HO723:=n0_;have HI0:=n1_;have HK:=n2_;have HB:=n3_;clear n0_ n1_ n2_ n3_;clear hb ho21;obtain ⟨Ao22,co22,eo22⟩:=Kd.R_slice HO723.out;subst eo22)|((with_reducible refine gate_callee (f:=73) rfl ?_);refine goesL_ (some 19) rfl rfl Tryd.func73 (by kernel_rfl) rfl #[.pointer (some ⟨g,0,none⟩),.slice Ao22 y721.length co22] rfl (by (try simp only [List.map_toArray,List.map_cons,List.map_nil]);first|done|rfl|(simp only [List.length_drop,List.length_take];rfl)) ?_;(with_reducible refine (spec_l1text.calls g s0_0 t707 t708 _ _ y721 t724 t725 t726 w0 _ ?side1 ?side2 ?side3 ?side4 ?side5 A18.out).mono ?_);(case side1=>repeat (first|(with_reducible first|exact HI0.out|apply IsS90.alloc|apply IsS90.drewN|apply IsS90.drew|apply IsS90.set_1|apply IsS90.set_2)|exact HI0.out));(case side2=>repeat (first|(with_reducible first|exact HB.out|apply below_alloc|apply pw_below_drewN|apply below_drew1|refine below_set ?_ (IsS90.ge HI0.out))|exact HB.out));(case side3=>repeat (first|exact (Kd.R_reads' HO723.out).2.2|(with_reducible refine Kd.C_alloc ?_ _)|(with_reducible refine Kd.C_drewN ?_ _)|(with_reducible refine Kd.C_drew ?_)));(case side4=>exact (Kd.R_reads' HO723.out).2.1);(case side5=>exact far_slice (IsS90.own_ne HI0.out HO723.out (by decide)));rintro e w23 ⟨rfl,hi,hb,hk⟩;refine ⟨_,rfl,?_⟩;have n0_:=Aside0.mk (Kd.R_mono (Kd.R_keep (IsS90.apart (show IsS90 w0 _ g s0_0 t707 t708 from by repeat (first|(with_reducible first|exact HI0.out|apply IsS90.alloc|apply IsS90.drewN|apply IsS90.drew|apply IsS90.set_1|apply IsS90.set_2)|exact HI0.out)) (by (with_reducible repeat (first|apply Kd.R_alloc|apply Kd.R_drewN|apply Kd.R_drew));exact HO723.out) (by decide)) hk (fun _ h=>h.2)) (fun _ h=>h.1));have n1_:=Aside0.mk (KeepBut.trans (by repeat (first|(with_reducible first|exact HK.out|apply KeepBut.set_|apply keep_drewN|apply keep_drew|apply keep_alloc)|exact HK.out)) hk (.inl rfl));have n2_:=Aside0.mk (hb);have n3_:=Aside0.mk (hi);clear HO723;clear HK;clear HB;clear HI0;have HO723:=n0_;have HK:=n1_;have HB:=n2_;have HI0:=n3_;clear n0_ n1_ n2_ n3_;(try clear hb);(try clear hb2);(try clear hk);(try clear hi)))
    go_ret
    exact ⟨by first|rfl|(simp [errW_none,errW_some] <;> rfl)|(simp [*,errW_none,errW_some] <;> rfl),by repeat (first|(with_reducible first|exact HI0.out|apply IsS90.alloc|apply IsS90.drewN|apply IsS90.drew|apply IsS90.set_1|apply IsS90.set_2)|exact HI0.out),by repeat (first|(with_reducible first|exact HB.out|apply below_alloc|apply pw_below_drewN|apply below_drew1|refine below_set ?_ (IsS90.ge HI0.out))|exact HB.out),by repeat (first|(with_reducible first|exact HK.out|apply KeepBut.set_|apply keep_drewN|apply keep_drew|apply keep_alloc)|exact HK.out)⟩
   ·rw [if_neg c17] at H
    have c17b0 : (t706 == 2) = false:=beq_eq_false_iff_ne.mpr c17
    have c17b1 : (t706 != 2) = true:=bne_iff_ne.mpr c17
    by_cases c24 : t706 = 3
    ·rw [if_pos c24] at H
     have c24b0 : (t706 == 3) = true:=beq_iff_eq.mpr c24
     have c24b1 : (t706 != 3) = false:=bne_eq_false_iff_eq.mpr c24
     clear c24
     obtain ⟨y727,hy727⟩ : ∃ y_ : List ByteArray,y_ = (([(⟨#[47,97,47]⟩ : ByteArray),(⟨#[47,97,92,47,98,47]⟩ : ByteArray),(⟨#[47]⟩ : ByteArray),(⟨#[47,91,47]⟩ : ByteArray),(⟨#[47,32,47]⟩ : ByteArray)] : List ByteArray)):=⟨_,rfl⟩
     replace H : ((spec_l1text.f s0_0 t707 t708 y727).bind fun bt730=>(some (bt730.1,bt730.2.1,bt730.2.2))) = some (r1,r2,r3):=by first|(rw [hy727];with_reducible exact H)|(have H2_:=(Option.bind_some _ _).symm.trans H;rw [hy727];with_reducible exact H2_)|(have H2_:=(Option.bind_some _ _).symm.trans H;with_reducible exact H2_)|with_reducible exact H|(rw [hy727];exact H)|exact H
     have Ny727:=Aside0.mk hy727
     clear hy727
     replace H:=Option.bind_eq_some_iff.mp H
     obtain ⟨⟨t730,t731,t732⟩,A250,H⟩:=H
     replace H : (some (t730,t731,t732)) = some (r1,r2,r3):=H
     have A25:=Aside0.mk A250
     clear A250
     simp only [Option.some.injEq,Prod.mk.injEq] at H
     obtain ⟨rfl,rfl,rfl⟩:=H
     go_enter Tryd.func72,Tryd.ntmps72
     go_wp2_with (first|((with_reducible refine gate_callee (f:=48) rfl ?_);refine goesL_ (some 4) rfl rfl Tryd.func48 (by kernel_rfl) rfl #[.pointer (some ⟨g,0,none⟩),.int .i64 7] rfl (by (try simp only [List.map_toArray,List.map_cons,List.map_nil]);first|done|rfl|(simp only [List.length_drop,List.length_take];rfl)) ?_;(with_reducible refine (spec_l1Below.calls g s0_0 s0_1 s0_2 7 t706 t707 t708 w0 _ ?side1 ?side2 A2.out).mono ?_);(case side1=>repeat (first|(with_reducible first|exact HI0.out|apply IsS90.alloc|apply IsS90.drewN|apply IsS90.drew|apply IsS90.set_1|apply IsS90.set_2)|exact HI0.out));(case side2=>repeat (first|(with_reducible first|exact HB.out|apply below_alloc|apply pw_below_drewN|apply below_drew1|refine below_set ?_ (IsS90.ge HI0.out))|exact HB.out));rintro e w26 ⟨rfl,hi,hb,hk⟩;refine ⟨_,rfl,?_⟩;have n0_:=Aside0.mk (KeepBut.trans (by repeat (first|(with_reducible first|exact HK.out|apply KeepBut.set_|apply keep_drewN|apply keep_drew|apply keep_alloc)|exact HK.out)) hk (.inl rfl));have n1_:=Aside0.mk (hb);have n2_:=Aside0.mk (hi);clear HK;clear HB;clear HI0;have HK:=n0_;have HB:=n1_;have HI0:=n2_;clear n0_ n1_ n2_;(try clear hb);(try clear hb2);(try clear hk);(try clear hi))|((with_reducible refine gate_dst (N:=23) rfl ?_);refine Kd.R_lit Kd.string _ 9 ?hg (N:=23) ?hd (xs:=([(⟨#[47,97,47]⟩ : ByteArray),(⟨#[47,97,92,47,98,47]⟩ : ByteArray),(⟨#[47]⟩ : ByteArray),(⟨#[47,91,47]⟩ : ByteArray),(⟨#[47,32,47]⟩ : ByteArray)] : List ByteArray)) (inner:=[.string (⟨#[47,97,47]⟩ : ByteArray),.string (⟨#[47,97,92,47,98,47]⟩ : ByteArray),.string (⟨#[47]⟩ : ByteArray),.string (⟨#[47,91,47]⟩ : ByteArray),.string (⟨#[47,32,47]⟩ : ByteArray)]) (ok:=fun _=>True) (okp:=fun _=>True) ?hr ?hp (fun _ hk=>hk) trivial (Below.refl _ _) (Nat.le_refl _) (by simp) ?_;(case hd=>rfl);(case hg=>rfl);(case hr=>first|(go_simp;done)|(go_simp;rfl));(case hp=>exact (Reps.one (show Kd.M Kd.string _ _ _ (⟨#[47,97,47]⟩ : ByteArray) [.string (⟨#[47,97,47]⟩ : ByteArray)] from rfl) (Reps.one (show Kd.M Kd.string _ _ _ (⟨#[47,97,92,47,98,47]⟩ : ByteArray) [.string (⟨#[47,97,92,47,98,47]⟩ : ByteArray)] from rfl) (Reps.one (show Kd.M Kd.string _ _ _ (⟨#[47]⟩ : ByteArray) [.string (⟨#[47]⟩ : ByteArray)] from rfl) (Reps.one (show Kd.M Kd.string _ _ _ (⟨#[47,91,47]⟩ : ByteArray) [.string (⟨#[47,91,47]⟩ : ByteArray)] from rfl) (Reps.one (show Kd.M Kd.string _ _ _ (⟨#[47,32,47]⟩ : ByteArray) [.string (⟨#[47,32,47]⟩ : ByteArray)] from rfl) (Reps.none _ _)))))));intro v728 w27 ho28 hb hg_ hnew_;clear hg_ hnew_;(first|rw [← Ny727.out] at ho28|(simp only [Int.reduceToNat] at ho28;rw [← Ny727.out] at ho28));have n0_:=Aside0.mk (Kd.R_lower ho28 (keep_size (w:=w) (g:=g) (row:=none) (by repeat (first|(with_reducible first|exact HK.out|apply KeepBut.set_|apply keep_drewN|apply keep_drew|apply keep_alloc)|exact HK.out))));have n1_:=Aside0.mk (IsS90.below (by repeat (first|(with_reducible first|exact HI0.out|apply IsS90.alloc|apply IsS90.drewN|apply IsS90.drew|apply IsS90.set_1|apply IsS90.set_2)|exact HI0.out)) hb);have n2_:=Aside0.mk (KeepBut.trans (by repeat (first|(with_reducible first|exact HK.out|apply KeepBut.set_|apply keep_drewN|apply keep_drew|apply keep_alloc)|exact HK.out)) (KeepBut.of_below hb g none) (.inl rfl));have n3_:=Aside0.mk (below_step (by repeat (first|(with_reducible first|exact HB.out|apply below_alloc|apply pw_below_drewN|apply below_drew1|refine below_set ?_ (IsS90.ge HI0.out))|exact HB.out)) hb);clear HI0;clear HK;clear HB;have HO729:=n0_;have HI0:=n1_;have HK:=n2_;have HB:=n3_;clear n0_ n1_ n2_ n3_;clear hb ho28;obtain ⟨Ao29,co29,eo29⟩:=Kd.R_slice HO729.out;subst eo29)|((with_reducible refine gate_callee (f:=73) rfl ?_);refine goesL_ (some 24) rfl rfl Tryd.func73 (by kernel_rfl) rfl #[.pointer (some ⟨g,0,none⟩),.slice Ao29 y727.length co29] rfl (by (try simp only [List.map_toArray,List.map_cons,List.map_nil]);first|done|rfl|(simp only [List.length_drop,List.length_take];rfl)) ?_;(with_reducible refine (spec_l1text.calls g s0_0 t707 t708 _ _ y727 t730 t731 t732 w0 _ ?side1 ?side2 ?side3 ?side4 ?side5 A25.out).mono ?_);(case side1=>repeat (first|(with_reducible first|exact HI0.out|apply IsS90.alloc|apply IsS90.drewN|apply IsS90.drew|apply IsS90.set_1|apply IsS90.set_2)|exact HI0.out));(case side2=>repeat (first|(with_reducible first|exact HB.out|apply below_alloc|apply pw_below_drewN|apply below_drew1|refine below_set ?_ (IsS90.ge HI0.out))|exact HB.out));(case side3=>repeat (first|exact (Kd.R_reads' HO729.out).2.2|(with_reducible refine Kd.C_alloc ?_ _)|(with_reducible refine Kd.C_drewN ?_ _)|(with_reducible refine Kd.C_drew ?_)));(case side4=>exact (Kd.R_reads' HO729.out).2.1);(case side5=>exact far_slice (IsS90.own_ne HI0.out HO729.out (by decide)));rintro e w30 ⟨rfl,hi,hb,hk⟩;refine ⟨_,rfl,?_⟩;have n0_:=Aside0.mk (Kd.R_mono (Kd.R_keep (IsS90.apart (show IsS90 w0 _ g s0_0 t707 t708 from by repeat (first|(with_reducible first|exact HI0.out|apply IsS90.alloc|apply IsS90.drewN|apply IsS90.drew|apply IsS90.set_1|apply IsS90.set_2)|exact HI0.out)) (by (with_reducible repeat (first|apply Kd.R_alloc|apply Kd.R_drewN|apply Kd.R_drew));exact HO729.out) (by decide)) hk (fun _ h=>h.2)) (fun _ h=>h.1));have n1_:=Aside0.mk (KeepBut.trans (by repeat (first|(with_reducible first|exact HK.out|apply KeepBut.set_|apply keep_drewN|apply keep_drew|apply keep_alloc)|exact HK.out)) hk (.inl rfl));have n2_:=Aside0.mk (hb);have n3_:=Aside0.mk (hi);clear HO729;clear HK;clear HB;clear HI0;have HO729:=n0_;have HK:=n1_;have HB:=n2_;have HI0:=n3_;clear n0_ n1_ n2_ n3_;(try clear hb);(try clear hb2);(try clear hk);(try clear hi)))
     go_ret
     exact ⟨by first|rfl|(simp [errW_none,errW_some] <;> rfl)|(simp [*,errW_none,errW_some] <;> rfl),by repeat (first|(with_reducible first|exact HI0.out|apply IsS90.alloc|apply IsS90.drewN|apply IsS90.drew|apply IsS90.set_1|apply IsS90.set_2)|exact HI0.out),by repeat (first|(with_reducible first|exact HB.out|apply below_alloc|apply pw_below_drewN|apply below_drew1|refine below_set ?_ (IsS90.ge HI0.out))|exact HB.out),by repeat (first|(with_reducible first|exact HK.out|apply KeepBut.set_|apply keep_drewN|apply keep_drew|apply keep_alloc)|exact HK.out)⟩
    ·rw [if_neg c24] at H
     have c24b0 : (t706 == 3) = false:=beq_eq_false_iff_ne.mpr c24
     have c24b1 : (t706 != 3) = true:=bne_iff_ne.mpr c24
     by_cases c31 : t706 = 4
     ·rw [if_pos c31] at H
      have c31b0 : (t706 == 4) = true:=beq_iff_eq.mpr c31
      have c31b1 : (t706 != 4) = false:=bne_eq_false_iff_eq.mpr c31
      clear c31
      obtain ⟨y733,hy733⟩ : ∃ y_ : List ByteArray,y_ = (([(⟨#[48]⟩ : ByteArray),(⟨#[49]⟩ : ByteArray),(⟨#[49,50,46,53]⟩ : ByteArray),(⟨#[55,46]⟩ : ByteArray),(⟨#[51,46,48,48,48,48,48,48,49]⟩ : ByteArray),(⟨#[57,57,57,57,57,57,57,57,57,57,57]⟩ : ByteArray)] : List ByteArray)):=⟨_,rfl⟩
      replace H : ((spec_l1text.f s0_0 t707 t708 y733).bind fun bt736=>(some (bt736.1,bt736.2.1,bt736.2.2))) = some (r1,r2,r3):=by first|(rw [hy733];with_reducible exact H)|(have H2_:=(Option.bind_some _ _).symm.trans H;rw [hy733];with_reducible exact H2_)|(have H2_:=(Option.bind_some _ _).symm.trans H;with_reducible exact H2_)|with_reducible exact H|(rw [hy733];exact H)|exact H
      have Ny733:=Aside0.mk hy733
      clear hy733
      replace H:=Option.bind_eq_some_iff.mp H
      obtain ⟨⟨t736,t737,t738⟩,A320,H⟩:=H
      replace H : (some (t736,t737,t738)) = some (r1,r2,r3):=H
      have A32:=Aside0.mk A320
      clear A320
      simp only [Option.some.injEq,Prod.mk.injEq] at H
      obtain ⟨rfl,rfl,rfl⟩:=H
      go_enter Tryd.func72,Tryd.ntmps72
      go_wp2_with (first|((with_reducible refine gate_callee (f:=48) rfl ?_);refine goesL_ (some 4) rfl rfl Tryd.func48 (by kernel_rfl) rfl #[.pointer (some ⟨g,0,none⟩),.int .i64 7] rfl (by (try simp only [List.map_toArray,List.map_cons,List.map_nil]);first|done|rfl|(simp only [List.length_drop,List.length_take];rfl)) ?_;(with_reducible refine (spec_l1Below.calls g s0_0 s0_1 s0_2 7 t706 t707 t708 w0 _ ?side1 ?side2 A2.out).mono ?_);(case side1=>repeat (first|(with_reducible first|exact HI0.out|apply IsS90.alloc|apply IsS90.drewN|apply IsS90.drew|apply IsS90.set_1|apply IsS90.set_2)|exact HI0.out));(case side2=>repeat (first|(with_reducible first|exact HB.out|apply below_alloc|apply pw_below_drewN|apply below_drew1|refine below_set ?_ (IsS90.ge HI0.out))|exact HB.out));rintro e w33 ⟨rfl,hi,hb,hk⟩;refine ⟨_,rfl,?_⟩;have n0_:=Aside0.mk (KeepBut.trans (by repeat (first|(with_reducible first|exact HK.out|apply KeepBut.set_|apply keep_drewN|apply keep_drew|apply keep_alloc)|exact HK.out)) hk (.inl rfl));have n1_:=Aside0.mk (hb);have n2_:=Aside0.mk (hi);clear HK;clear HB;clear HI0;have HK:=n0_;have HB:=n1_;have HI0:=n2_;clear n0_ n1_ n2_;(try clear hb);(try clear hb2);(try clear hk);(try clear hi))|((with_reducible refine gate_dst (N:=28) rfl ?_);refine Kd.R_lit Kd.string _ 9 ?hg (N:=28) ?hd (xs:=([(⟨#[48]⟩ : ByteArray),(⟨#[49]⟩ : ByteArray),(⟨#[49,50,46,53]⟩ : ByteArray),(⟨#[55,46]⟩ : ByteArray),(⟨#[51,46,48,48,48,48,48,48,49]⟩ : ByteArray),(⟨#[57,57,57,57,57,57,57,57,57,57,57]⟩ : ByteArray)] : List ByteArray)) (inner:=[.string (⟨#[48]⟩ : ByteArray),.string (⟨#[49]⟩ : ByteArray),.string (⟨#[49,50,46,53]⟩ : ByteArray),.string (⟨#[55,46]⟩ : ByteArray),.string (⟨#[51,46,48,48,48,48,48,48,49]⟩ : ByteArray),.string (⟨#[57,57,57,57,57,57,57,57,57,57,57]⟩ : ByteArray)]) (ok:=fun _=>True) (okp:=fun _=>True) ?hr ?hp (fun _ hk=>hk) trivial (Below.refl _ _) (Nat.le_refl _) (by simp) ?_;(case hd=>rfl);(case hg=>rfl);(case hr=>first|(go_simp;done)|(go_simp;rfl));(case hp=>exact (Reps.one (show Kd.M Kd.string _ _ _ (⟨#[48]⟩ : ByteArray) [.string (⟨#[48]⟩ : ByteArray)] from rfl) (Reps.one (show Kd.M Kd.string _ _ _ (⟨#[49]⟩ : ByteArray) [.string (⟨#[49]⟩ : ByteArray)] from rfl) (Reps.one (show Kd.M Kd.string _ _ _ (⟨#[49,50,46,53]⟩ : ByteArray) [.string (⟨#[49,50,46,53]⟩ : ByteArray)] from rfl) (Reps.one (show Kd.M Kd.string _ _ _ (⟨#[55,46]⟩ : ByteArray) [.string (⟨#[55,46]⟩ : ByteArray)] from rfl) (Reps.one (show Kd.M Kd.string _ _ _ (⟨#[51,46,48,48,48,48,48,48,49]⟩ : ByteArray) [.string (⟨#[51,46,48,48,48,48,48,48,49]⟩ : ByteArray)] from rfl) (Reps.one (show Kd.M Kd.string _ _ _ (⟨#[57,57,57,57,57,57,57,57,57,57,57]⟩ : ByteArray) [.string (⟨#[57,57,57,57,57,57,57,57,57,57,57]⟩ : ByteArray)] from rfl) (Reps.none _ _))))))));intro v734 w34 ho35 hb hg_ hnew_;clear hg_ hnew_;(first|rw [← Ny733.out] at ho35|(simp only [Int.reduceToNat] at ho35;rw [← Ny733.out] at ho35));have n0_:=Aside0.mk (Kd.R_lower ho35 (keep_size (w:=w) (g:=g) (row:=none) (by repeat (first|(with_reducible first|exact HK.out|apply KeepBut.set_|apply keep_drewN|apply keep_drew|apply keep_alloc)|exact HK.out))));have n1_:=Aside0.mk (IsS90.below (by repeat (first|(with_reducible first|exact HI0.out|apply IsS90.alloc|apply IsS90.drewN|apply IsS90.drew|apply IsS90.set_1|apply IsS90.set_2)|exact HI0.out)) hb);have n2_:=Aside0.mk (KeepBut.trans (by repeat (first|(with_reducible first|exact HK.out|apply KeepBut.set_|apply keep_drewN|apply keep_drew|apply keep_alloc)|exact HK.out)) (KeepBut.of_below hb g none) (.inl rfl));have n3_:=Aside0.mk (below_step (by repeat (first|(with_reducible first|exact HB.out|apply below_alloc|apply pw_below_drewN|apply below_drew1|refine below_set ?_ (IsS90.ge HI0.out))|exact HB.out)) hb);clear HI0;clear HK;clear HB;have HO735:=n0_;have HI0:=n1_;have HK:=n2_;have HB:=n3_;clear n0_ n1_ n2_ n3_;clear hb ho35;obtain ⟨Ao36,co36,eo36⟩:=Kd.R_slice HO735.out;subst eo36)|((with_reducible refine gate_callee (f:=73) rfl ?_);refine goesL_ (some 29) rfl rfl Tryd.func73 (by kernel_rfl) rfl #[.pointer (some ⟨g,0,none⟩),.slice Ao36 y733.length co36] rfl (by (try simp only [List.map_toArray,List.map_cons,List.map_nil]);first|done|rfl|(simp only [List.length_drop,List.length_take];rfl)) ?_;(with_reducible refine (spec_l1text.calls g s0_0 t707 t708 _ _ y733 t736 t737 t738 w0 _ ?side1 ?side2 ?side3 ?side4 ?side5 A32.out).mono ?_);(case side1=>repeat (first|(with_reducible first|exact HI0.out|apply IsS90.alloc|apply IsS90.drewN|apply IsS90.drew|apply IsS90.set_1|apply IsS90.set_2)|exact HI0.out));(case side2=>repeat (first|(with_reducible first|exact HB.out|apply below_alloc|apply pw_below_drewN|apply below_drew1|refine below_set ?_ (IsS90.ge HI0.out))|exact HB.out));(case side3=>repeat (first|exact (Kd.R_reads' HO735.out).2.2|(with_reducible refine Kd.C_alloc ?_ _)|(with_reducible refine Kd.C_drewN ?_ _)|(with_reducible refine Kd.C_drew ?_)));(case side4=>exact (Kd.R_reads' HO735.out).2.1);(case side5=>exact far_slice (IsS90.own_ne HI0.out HO735.out (by decide)));rintro e w37 ⟨rfl,hi,hb,hk⟩;refine ⟨_,rfl,?_⟩;have n0_:=Aside0.mk (Kd.R_mono (Kd.R_keep (IsS90.apart (show IsS90 w0 _ g s0_0 t707 t708 from by repeat (first|(with_reducible first|exact HI0.out|apply IsS90.alloc|apply IsS90.drewN|apply IsS90.drew|apply IsS90.set_1|apply IsS90.set_2)|exact HI0.out)) (by (with_reducible repeat (first|apply Kd.R_alloc|apply Kd.R_drewN|apply Kd.R_drew));exact HO735.out) (by decide)) hk (fun _ h=>h.2)) (fun _ h=>h.1));have n1_:=Aside0.mk (KeepBut.trans (by repeat (first|(with_reducible first|exact HK.out|apply KeepBut.set_|apply keep_drewN|apply keep_drew|apply keep_alloc)|exact HK.out)) hk (.inl rfl));have n2_:=Aside0.mk (hb);have n3_:=Aside0.mk (hi);clear HO735;clear HK;clear HB;clear HI0;have HO735:=n0_;have HK:=n1_;have HB:=n2_;have HI0:=n3_;clear n0_ n1_ n2_ n3_;(try clear hb);(try clear hb2);(try clear hk);(try clear hi)))
      go_ret
      exact ⟨by first|rfl|(simp [errW_none,errW_some] <;> rfl)|(simp [*,errW_none,errW_some] <;> rfl),by repeat (first|(with_reducible first|exact HI0.out|apply IsS90.alloc|apply IsS90.drewN|apply IsS90.drew|apply IsS90.set_1|apply IsS90.set_2)|exact HI0.out),by repeat (first|(with_reducible first|exact HB.out|apply below_alloc|apply pw_below_drewN|apply below_drew1|refine below_set ?_ (IsS90.ge HI0.out))|exact HB.out),by repeat (first|(with_reducible first|exact HK.out|apply KeepBut.set_|apply keep_drewN|apply keep_drew|apply keep_alloc)|exact HK.out)⟩
     ·rw [if_neg c31] at H
      have c31b0 : (t706 == 4) = false:=beq_eq_false_iff_ne.mpr c31
      have c31b1 : (t706 != 4) = true:=bne_iff_ne.mpr c31
      obtain ⟨y739,hy739⟩ : ∃ y_ : List ByteArray,y_ = (([(⟨#[120]⟩ : ByteArray),(⟨#[121]⟩ : ByteArray),(⟨#[65]⟩ : ByteArray),(⟨#[102,40]⟩ : ByteArray),(⟨#[95,122,57]⟩ : ByteArray),(⟨#[78,82]⟩ : ByteArray),(⟨#[110]⟩ : ByteArray)] : List ByteArray)):=⟨_,rfl⟩
      replace H : ((spec_l1text.f s0_0 t707 t708 y739).bind fun bt742=>(some (bt742.1,bt742.2.1,bt742.2.2))) = some (r1,r2,r3):=by first|(rw [hy739];with_reducible exact H)|(have H2_:=(Option.bind_some _ _).symm.trans H;rw [hy739];with_reducible exact H2_)|(have H2_:=(Option.bind_some _ _).symm.trans H;with_reducible exact H2_)|with_reducible exact H|(rw [hy739];exact H)|exact H
      have Ny739:=Aside0.mk hy739
      clear hy739
      replace H:=Option.bind_eq_some_iff.mp H
      obtain ⟨⟨t742,t743,t744⟩,A380,H⟩:=H
      replace H : (some (t742,t743,t744)) = some (r1,r2,r3):=H
      have A38:=Aside0.mk A380
      clear A380
      simp only [Option.some.injEq,Prod.mk.injEq] at H
      obtain ⟨rfl,rfl,rfl⟩:=H
      go_enter Tryd.func72,Tryd.ntmps72
      go_wp2_with (first|((with_reducible refine gate_callee (f:=48) rfl ?_);refine goesL_ (some 4) rfl rfl Tryd.func48 (by kernel_rfl) rfl #[.pointer (some ⟨g,0,none⟩),.int .i64 7] rfl (by (try simp only [List.map_toArray,List.map_cons,List.map_nil]);first|done|rfl|(simp only [List.length_drop,List.length_take];rfl)) ?_;(with_reducible refine (spec_l1Below.calls g s0_0 s0_1 s0_2 7 t706 t707 t708 w0 _ ?side1 ?side2 A2.out).mono ?_);(case side1=>repeat (first|(with_reducible first|exact HI0.out|apply IsS90.alloc|apply IsS90.drewN|apply IsS90.drew|apply IsS90.set_1|apply IsS90.set_2)|exact HI0.out));(case side2=>repeat (first|(with_reducible first|exact HB.out|apply below_alloc|apply pw_below_drewN|apply below_drew1|refine below_set ?_ (IsS90.ge HI0.out))|exact HB.out));rintro e w39 ⟨rfl,hi,hb,hk⟩;refine ⟨_,rfl,?_⟩;have n0_:=Aside0.mk (KeepBut.trans (by repeat (first|(with_reducible first|exact HK.out|apply KeepBut.set_|apply keep_drewN|apply keep_drew|apply keep_alloc)|exact HK.out)) hk (.inl rfl));have n1_:=Aside0.mk (hb);have n2_:=Aside0.mk (hi);clear HK;clear HB;clear HI0;have HK:=n0_;have HB:=n1_;have HI0:=n2_;clear n0_ n1_ n2_;(try clear hb);(try clear hb2);(try clear hk);(try clear hi))|((with_reducible refine gate_dst (N:=31) rfl ?_);refine Kd.R_lit Kd.string _ 9 ?hg (N:=31) ?hd (xs:=([(⟨#[120]⟩ : ByteArray),(⟨#[121]⟩ : ByteArray),(⟨#[65]⟩ : ByteArray),(⟨#[102,40]⟩ : ByteArray),(⟨#[95,122,57]⟩ : ByteArray),(⟨#[78,82]⟩ : ByteArray),(⟨#[110]⟩ : ByteArray)] : List ByteArray)) (inner:=[.string (⟨#[120]⟩ : ByteArray),.string (⟨#[121]⟩ : ByteArray),.string (⟨#[65]⟩ : ByteArray),.string (⟨#[102,40]⟩ : ByteArray),.string (⟨#[95,122,57]⟩ : ByteArray),.string (⟨#[78,82]⟩ : ByteArray),.string (⟨#[110]⟩ : ByteArray)]) (ok:=fun _=>True) (okp:=fun _=>True) ?hr ?hp (fun _ hk=>hk) trivial (Below.refl _ _) (Nat.le_refl _) (by simp) ?_;(case hd=>rfl);(case hg=>rfl);(case hr=>first|(go_simp;done)|(go_simp;rfl));(case hp=>exact (Reps.one (show Kd.M Kd.string _ _ _ (⟨#[120]⟩ : ByteArray) [.string (⟨#[120]⟩ : ByteArray)] from rfl) (Reps.one (show Kd.M Kd.string _ _ _ (⟨#[121]⟩ : ByteArray) [.string (⟨#[121]⟩ : ByteArray)] from rfl) (Reps.one (show Kd.M Kd.string _ _ _ (⟨#[65]⟩ : ByteArray) [.string (⟨#[65]⟩ : ByteArray)] from rfl) (Reps.one (show Kd.M Kd.string _ _ _ (⟨#[102,40]⟩ : ByteArray) [.string (⟨#[102,40]⟩ : ByteArray)] from rfl) (Reps.one (show Kd.M Kd.string _ _ _ (⟨#[95,122,57]⟩ : ByteArray) [.string (⟨#[95,122,57]⟩ : ByteArray)] from rfl) (Reps.one (show Kd.M Kd.string _ _ _ (⟨#[78,82]⟩ : ByteArray) [.string (⟨#[78,82]⟩ : ByteArray)] from rfl) (Reps.one (show Kd.M Kd.string _ _ _ (⟨#[110]⟩ : ByteArray) [.string (⟨#[110]⟩ : ByteArray)] from rfl) (Reps.none _ _)))))))));intro v740 w40 ho41 hb hg_ hnew_;clear hg_ hnew_;(first|rw [← Ny739.out] at ho41|(simp only [Int.reduceToNat] at ho41;rw [← Ny739.out] at ho41));have n0_:=Aside0.mk (Kd.R_lower ho41 (keep_size (w:=w) (g:=g) (row:=none) (by repeat (first|(with_reducible first|exact HK.out|apply KeepBut.set_|apply keep_drewN|apply keep_drew|apply keep_alloc)|exact HK.out))));have n1_:=Aside0.mk (IsS90.below (by repeat (first|(with_reducible first|exact HI0.out|apply IsS90.alloc|apply IsS90.drewN|apply IsS90.drew|apply IsS90.set_1|apply IsS90.set_2)|exact HI0.out)) hb);have n2_:=Aside0.mk (KeepBut.trans (by repeat (first|(with_reducible first|exact HK.out|apply KeepBut.set_|apply keep_drewN|apply keep_drew|apply keep_alloc)|exact HK.out)) (KeepBut.of_below hb g none) (.inl rfl));have n3_:=Aside0.mk (below_step (by repeat (first|(with_reducible first|exact HB.out|apply below_alloc|apply pw_below_drewN|apply below_drew1|refine below_set ?_ (IsS90.ge HI0.out))|exact HB.out)) hb);clear HI0;clear HK;clear HB;have HO741:=n0_;have HI0:=n1_;have HK:=n2_;have HB:=n3_;clear n0_ n1_ n2_ n3_;clear hb ho41;obtain ⟨Ao42,co42,eo42⟩:=Kd.R_slice HO741.out;subst eo42)|((with_reducible refine gate_callee (f:=73) rfl ?_);refine goesL_ (some 32) rfl rfl Tryd.func73 (by kernel_rfl) rfl #[.pointer (some ⟨g,0,none⟩),.slice Ao42 y739.length co42] rfl (by (try simp only [List.map_toArray,List.map_cons,List.map_nil]);first|done|rfl|(simp only [List.length_drop,List.length_take];rfl)) ?_;(with_reducible refine (spec_l1text.calls g s0_0 t707 t708 _ _ y739 t742 t743 t744 w0 _ ?side1 ?side2 ?side3 ?side4 ?side5 A38.out).mono ?_);(case side1=>repeat (first|(with_reducible first|exact HI0.out|apply IsS90.alloc|apply IsS90.drewN|apply IsS90.drew|apply IsS90.set_1|apply IsS90.set_2)|exact HI0.out));(case side2=>repeat (first|(with_reducible first|exact HB.out|apply below_alloc|apply pw_below_drewN|apply below_drew1|refine below_set ?_ (IsS90.ge HI0.out))|exact HB.out));(case side3=>repeat (first|exact (Kd.R_reads' HO741.out).2.2|(with_reducible refine Kd.C_alloc ?_ _)|(with_reducible refine Kd.C_drewN ?_ _)|(with_reducible refine Kd.C_drew ?_)));(case side4=>exact (Kd.R_reads' HO741.out).2.1);(case side5=>exact far_slice (IsS90.own_ne HI0.out HO741.out (by decide)));rintro e w43 ⟨rfl,hi,hb,hk⟩;refine ⟨_,rfl,?_⟩;have n0_:=Aside0.mk (Kd.R_mono (Kd.R_keep (IsS90.apart (show IsS90 w0 _ g s0_0 t707 t708 from by repeat (first|(with_reducible first|exact HI0.out|apply IsS90.alloc|apply IsS90.drewN|apply IsS90.drew|apply IsS90.set_1|apply IsS90.set_2)|exact HI0.out)) (by (with_reducible repeat (first|apply Kd.R_alloc|apply Kd.R_drewN|apply Kd.R_drew));exact HO741.out) (by decide)) hk (fun _ h=>h.2)) (fun _ h=>h.1));have n1_:=Aside0.mk (KeepBut.trans (by repeat (first|(with_reducible first|exact HK.out|apply KeepBut.set_|apply keep_drewN|apply keep_drew|apply keep_alloc)|exact HK.out)) hk (.inl rfl));have n2_:=Aside0.mk (hb);have n3_:=Aside0.mk (hi);clear HO741;clear HK;clear HB;clear HI0;have HO741:=n0_;have HK:=n1_;have HB:=n2_;have HI0:=n3_;clear n0_ n1_ n2_ n3_;(try clear hb);(try clear hb2);(try clear hk);(try clear hi)))
      go_ret
      exact ⟨by first|rfl|(simp [errW_none,errW_some] <;> rfl)|(simp [*,errW_none,errW_some] <;> rfl),by repeat (first|(with_reducible first|exact HI0.out|apply IsS90.alloc|apply IsS90.drewN|apply IsS90.drew|apply IsS90.set_1|apply IsS90.set_2)|exact HI0.out),by repeat (first|(with_reducible first|exact HB.out|apply below_alloc|apply pw_below_drewN|apply below_drew1|refine below_set ?_ (IsS90.ge HI0.out))|exact HB.out),by repeat (first|(with_reducible first|exact HK.out|apply KeepBut.set_|apply keep_drewN|apply keep_drew|apply keep_alloc)|exact HK.out)⟩
def spec_DrawLex.l0 : Nat → ByteArray → Int → List Int → Int → Int → Option (ByteArray)
 | 0,_,_,_,_,_=>none
 | k + 1,x4,x5,x749000,x749001,x749002=>if x5 > 0 then ((spec_l3tok.f x749000 x749001 x749002).bind fun bt753=>(if x4.size + bt753.1.size ≤ 9223372036854775807 then ((spec_l1text.f x749000 bt753.2.1 bt753.2.2 (([(⟨#[32]⟩ : ByteArray),(⟨#[]⟩ : ByteArray),(⟨#[10]⟩ : ByteArray),(⟨#[32,35,32,99,10]⟩ : ByteArray)] : List ByteArray))).bind fun bt759=>(if (x4 ++ bt753.1).size + bt759.1.size ≤ 9223372036854775807 then (spec_DrawLex.l0 k ((x4 ++ bt753.1) ++ bt759.1) (wrap64 (x5 - 1)) x749000 bt759.2.1 bt759.2.2) else (none))) else (none))) else ((spec_l1Once.f x749000 x749001 x749002 8).bind fun bt762=>(if bt762.1 = true then ((spec_l1bend.f k x749000 bt762.2.1 bt762.2.2 x4).bind fun bt765=>(some bt765.1)) else (some x4)))
def spec_DrawLex.f (k : Nat) (l0 : List Int) : Option (ByteArray):=(spec_l1New.f k l0).bind fun bt745=>((spec_l1Size.f l0 12).bind fun t749=>((spec_l1Below.f bt745.1 bt745.2.1 bt745.2.2 t749).bind fun bt750=>(spec_DrawLex.l0 k (⟨#[]⟩ : ByteArray) bt750.1 bt745.1 bt750.2.1 bt750.2.2)))
set_option maxHeartbeats 8000000 in
set_option maxRecDepth 100000 in
theorem spec_DrawLex.calls (k : Nat) (A0 : Option Addr) (c0 : Nat) (l0 : List Int) (r : ByteArray) (w : World) (hr0 : Kd.C (Kd.int .u8) w A0 l0.length l0) (hc0 : l0.length ≤ c0) (h : spec_DrawLex.f k l0 = some r) :
  Calls Tryd.prog 38 #[.slice A0 l0.length c0] w fun e w'=>e = .returned (.string r) ∧ Below w.heap.size w w':=by
 have HR0:=Aside0.mk hr0
 have HC0:=Aside0.mk hc0
 clear hr0 hc0
 have HB:=Aside0.mk (Below.refl w.heap.size w)
 have H : ((spec_l1New.f k l0).bind fun bt745=>((spec_l1Size.f l0 12).bind fun t749=>((spec_l1Below.f bt745.1 bt745.2.1 bt745.2.2 t749).bind fun bt750=>(spec_DrawLex.l0 k (⟨#[]⟩ : ByteArray) bt750.1 bt745.1 bt750.2.1 bt750.2.2)))) = some r:=h
 clear h
 replace H:=Option.bind_eq_some_iff.mp H
 obtain ⟨⟨t745,t746,t747⟩,A20,H⟩:=H
 replace H : ((spec_l1Size.f l0 12).bind fun t749=>((spec_l1Below.f t745 t746 t747 t749).bind fun bt750=>(spec_DrawLex.l0 k (⟨#[]⟩ : ByteArray) bt750.1 t745 bt750.2.1 bt750.2.2))) = some r:=H
 have A2:=Aside0.mk A20
 clear A20
 replace H:=Option.bind_eq_some_iff.mp H
 obtain ⟨t749,A30,H⟩:=H
 replace H : ((spec_l1Below.f t745 t746 t747 t749).bind fun bt750=>(spec_DrawLex.l0 k (⟨#[]⟩ : ByteArray) bt750.1 t745 bt750.2.1 bt750.2.2)) = some r:=H
 have A3:=Aside0.mk A30
 clear A30
 replace H:=Option.bind_eq_some_iff.mp H
 obtain ⟨⟨t750,t751,t752⟩,A40,H⟩:=H
 replace H : (spec_DrawLex.l0 k (⟨#[]⟩ : ByteArray) t750 t745 t751 t752) = some r:=H
 have A4:=Aside0.mk A40
 clear A40
 have H':=Aside0.mk H
 clear H
 go_enter Tryd.func38,Tryd.ntmps38
 go_wp2_with (first|((with_reducible refine gate_callee (f:=45) rfl ?_);refine goesL_ (some 7) rfl rfl Tryd.func45 (by kernel_rfl) rfl #[.slice A0 l0.length c0] rfl (by (try simp only [List.map_toArray,List.map_cons,List.map_nil]);first|done|rfl|(simp only [List.length_drop,List.length_take];rfl)) ?_;(with_reducible refine (spec_l1New.calls k _ _ l0 t745 t746 t747 w _ ?side1 ?side2 ?side3 A2.out).mono ?_);(case side1=>repeat (first|(with_reducible first|exact HB.out|apply below_alloc|apply pw_below_drewN|apply below_drew1)|exact HB.out));(case side2=>exact HR0.out);(case side3=>exact HC0.out);rintro e w5 ⟨g748,rfl,hi,hb,hb2⟩;refine ⟨_,rfl,?_⟩;have n0_:=Aside0.mk (hb);have n1_:=Aside0.mk (hi);clear HB;have HB:=n0_;have HI748:=n1_;clear n0_ n1_;(try clear hb);(try clear hb2);(try clear hk);(try clear hi))|((with_reducible refine gate_callee (f:=71) rfl ?_);refine goesL_ (some 10) rfl rfl Tryd.func71 (by kernel_rfl) rfl #[.slice A0 l0.length c0,.int .i64 12] rfl (by (try simp only [List.map_toArray,List.map_cons,List.map_nil]);first|done|rfl|(simp only [List.length_drop,List.length_take];rfl)) ?_;(with_reducible refine (spec_l1Size.calls _ _ l0 12 t749 _ ?side1 ?side2 A3.out).mono ?_);(case side1=>repeat (first|exact (Kd.C_below HR0.out HB.out)|(with_reducible refine Kd.C_alloc ?_ _)|(with_reducible refine Kd.C_drewN ?_ _)|(with_reducible refine Kd.C_drew ?_)));(case side2=>exact HC0.out);rintro e w' ⟨rfl,⟨nd,rfl⟩⟩;refine ⟨_,rfl,?_⟩)|((with_reducible refine gate_callee (f:=48) rfl ?_);refine goesL_ (some 11) rfl rfl Tryd.func48 (by kernel_rfl) rfl #[.pointer (some ⟨g748,0,none⟩),.int .i64 t749] rfl (by (try simp only [List.map_toArray,List.map_cons,List.map_nil]);first|done|rfl|(simp only [List.length_drop,List.length_take];rfl)) ?_;(with_reducible refine (spec_l1Below.calls g748 t745 t746 t747 t749 t750 t751 t752 w _ ?side1 ?side2 A4.out).mono ?_);(case side1=>repeat (first|(with_reducible first|exact HI748.out|apply IsS90.alloc|apply IsS90.drewN|apply IsS90.drew|apply IsS90.set_1|apply IsS90.set_2)|exact HI748.out));(case side2=>repeat (first|(with_reducible first|exact HB.out|apply below_alloc|apply pw_below_drewN|apply below_drew1|refine below_set ?_ (IsS90.ge HI748.out))|exact HB.out));rintro e w6 ⟨rfl,hi,hb,hk⟩;refine ⟨_,rfl,?_⟩;have n0_:=Aside0.mk (hb);have n1_:=Aside0.mk (hi);clear HB;clear HI748;have HB:=n0_;have HI748:=n1_;clear n0_ n1_;(try clear hb);(try clear hb2);(try clear hk);(try clear hi)))
 go_loopg [4,5] k (fun kq v4 v5 w'=>∃ (x4_1 : ByteArray) (x5_1 : Int) (x749001_1 : Int) (x749002_1 : Int),v4 = .string x4_1 ∧ v5 = .int .i64 x5_1 ∧ Aside0 (spec_DrawLex.l0 kq x4_1 x5_1 t745 x749001_1 x749002_1 = some r) ∧ Aside0 (kq ≤ k) ∧ Aside0 (IsS90 w w' g748 t745 x749001_1 x749002_1) ∧ Aside0 (Below w.heap.size w w'))
 case atStart=>exact ⟨((⟨#[]⟩ : ByteArray)),(t750),(t751),(t752),(by first|rfl|(simp;done)|(simp [*];done)),(by first|rfl|(simp;done)|(simp [*];done)),H',⟨Nat.le_refl _⟩,⟨by repeat (first|(with_reducible first|exact HI748.out|apply IsS90.alloc|apply IsS90.drewN|apply IsS90.drew|apply IsS90.set_1|apply IsS90.set_2)|exact HI748.out)⟩,⟨by repeat (first|(with_reducible first|exact HB.out|apply below_alloc|apply pw_below_drewN|apply below_drew1|refine below_set ?_ (IsS90.ge HI748.out))|exact HB.out)⟩⟩
 case round =>
  clear H'
  try clear p2
  try clear c3
  try clear c4
  obtain ⟨x4_1,x5_1,x749001_1,x749002_1,rfl,rfl,HA,HK1,HI748,HB⟩:=hrel
  cases gk with
  | zero=>exact absurd HA.out (by simp [spec_DrawLex.l0])
  | succ k1 =>
   have H:=HA.out
   clear HA
   simp only [spec_DrawLex.l0] at H
   by_cases c7 : x5_1 > 0
   ·rw [if_pos c7] at H
    have c7b0 : decide (0 < x5_1) = true:=decide_eq_true c7
    clear c7
    replace H:=Option.bind_eq_some_iff.mp H
    obtain ⟨⟨t753,t754,t755⟩,A80,H⟩:=H
    replace H : (if x4_1.size + t753.size ≤ 9223372036854775807 then ((spec_l1text.f t745 t754 t755 (([(⟨#[32]⟩ : ByteArray),(⟨#[]⟩ : ByteArray),(⟨#[10]⟩ : ByteArray),(⟨#[32,35,32,99,10]⟩ : ByteArray)] : List ByteArray))).bind fun bt759=>(if (x4_1 ++ t753).size + bt759.1.size ≤ 9223372036854775807 then (spec_DrawLex.l0 k1 ((x4_1 ++ t753) ++ bt759.1) (wrap64 (x5_1 - 1)) t745 bt759.2.1 bt759.2.2) else (none))) else (none)) = some r:=H
    have A8:=Aside0.mk A80
    clear A80
    by_cases c9 : x4_1.size + t753.size ≤ 9223372036854775807
    ·rw [if_pos c9] at H
     have c9b0:=eq_true c9
     have c9b1 : decide (x4_1.size + t753.size ≤ 9223372036854775807) = true:=decide_eq_true c9
     try have c9b2 : (9223372036854775807 < x4_1.size + t753.size) = False:=eq_false (Nat.not_lt.2 c9)
     obtain ⟨y756,hy756⟩ : ∃ y_ : List ByteArray,y_ = (([(⟨#[32]⟩ : ByteArray),(⟨#[]⟩ : ByteArray),(⟨#[10]⟩ : ByteArray),(⟨#[32,35,32,99,10]⟩ : ByteArray)] : List ByteArray)):=⟨_,rfl⟩
     replace H : ((spec_l1text.f t745 t754 t755 y756).bind fun bt759=>(if (x4_1 ++ t753).size + bt759.1.size ≤ 9223372036854775807 then (spec_DrawLex.l0 k1 ((x4_1 ++ t753) ++ bt759.1) (wrap64 (x5_1 - 1)) t745 bt759.2.1 bt759.2.2) else (none))) = some r:=by first|(rw [hy756];with_reducible exact H)|(have H2_:=(Option.bind_some _ _).symm.trans H;rw [hy756];with_reducible exact H2_)|(have H2_:=(Option.bind_some _ _).symm.trans H;with_reducible exact H2_)|with_reducible exact H|(rw [hy756];exact H)|exact H
     have Ny756:=Aside0.mk hy756
     clear hy756
     replace H:=Option.bind_eq_some_iff.mp H
     obtain ⟨⟨t759,t760,t761⟩,A100,H⟩:=H
     replace H : (if (x4_1 ++ t753).size + t759.size ≤ 9223372036854775807 then (spec_DrawLex.l0 k1 ((x4_1 ++ t753) ++ t759) (wrap64 (x5_1 - 1)) t745 t760 t761) else (none)) = some r:=H
     have A10:=Aside0.mk A100
     clear A100
     by_cases c11 : (x4_1 ++ t753).size + t759.size ≤ 9223372036854775807
     ·rw [if_pos c11] at H
      have c11b0:=eq_true c11
      have c11b1 : decide ((x4_1 ++ t753).size + t759.size ≤ 9223372036854775807) = true:=decide_eq_true c11
      try have c11b2 : (9223372036854775807 < (x4_1 ++ t753).size + t759.size) = False:=eq_false (Nat.not_lt.2 c11)
      try (have c11b4:=c11b2;simp only [ByteArray.size_append] at c11b4)
      have H':=Aside0.mk H
      clear H
      go_wp2_with (first|((with_reducible refine gate_callee (f:=72) rfl ?_);refine goesL_ (some 18) rfl rfl Tryd.func72 (by kernel_rfl) rfl #[.pointer (some ⟨g748,0,none⟩)] rfl (by (try simp only [List.map_toArray,List.map_cons,List.map_nil]);first|done|rfl|(simp only [List.length_drop,List.length_take];rfl)) ?_;(with_reducible refine (spec_l3tok.calls g748 t745 x749001_1 x749002_1 t753 t754 t755 w _ ?side1 ?side2 A8.out).mono ?_);(case side1=>repeat (first|(with_reducible first|exact HI748.out|apply IsS90.alloc|apply IsS90.drewN|apply IsS90.drew|apply IsS90.set_1|apply IsS90.set_2)|exact HI748.out));(case side2=>repeat (first|(with_reducible first|exact HB.out|apply below_alloc|apply pw_below_drewN|apply below_drew1|refine below_set ?_ (IsS90.ge HI748.out))|exact HB.out));rintro e w12 ⟨rfl,hi,hb,hk⟩;refine ⟨_,rfl,?_⟩;have n0_:=Aside0.mk (hb);have n1_:=Aside0.mk (hi);clear HB;clear HI748;have HB:=n0_;have HI748:=n1_;clear n0_ n1_;(try clear hb);(try clear hb2);(try clear hk);(try clear hi))|((with_reducible refine gate_dst (N:=21) rfl ?_);refine Kd.R_lit Kd.string _ 9 ?hg (N:=21) ?hd (xs:=([(⟨#[32]⟩ : ByteArray),(⟨#[]⟩ : ByteArray),(⟨#[10]⟩ : ByteArray),(⟨#[32,35,32,99,10]⟩ : ByteArray)] : List ByteArray)) (inner:=[.string (⟨#[32]⟩ : ByteArray),.string (⟨#[]⟩ : ByteArray),.string (⟨#[10]⟩ : ByteArray),.string (⟨#[32,35,32,99,10]⟩ : ByteArray)]) (ok:=fun _=>True) (okp:=fun _=>True) ?hr ?hp (fun _ hk=>hk) trivial (Below.refl _ _) (Nat.le_refl _) (by simp) ?_;(case hd=>rfl);(case hg=>rfl);(case hr=>first|(go_simp;done)|(go_simp;rfl));(case hp=>exact (Reps.one (show Kd.M Kd.string _ _ _ (⟨#[32]⟩ : ByteArray) [.string (⟨#[32]⟩ : ByteArray)] from rfl) (Reps.one (show Kd.M Kd.string _ _ _ (⟨#[]⟩ : ByteArray) [.string (⟨#[]⟩ : ByteArray)] from rfl) (Reps.one (show Kd.M Kd.string _ _ _ (⟨#[10]⟩ : ByteArray) [.string (⟨#[10]⟩ : ByteArray)] from rfl) (Reps.one (show Kd.M Kd.string _ _ _ (⟨#[32,35,32,99,10]⟩ : ByteArray) [.string (⟨#[32,35,32,99,10]⟩ : ByteArray)] from rfl) (Reps.none _ _))))));intro v757 w13 ho14 hb hg_ hnew_;clear hg_ hnew_;(first|rw [← Ny756.out] at ho14|(simp only [Int.reduceToNat] at ho14;rw [← Ny756.out] at ho14));have n0_:=Aside0.mk (Kd.R_lower ho14 (below_size (by repeat (first|(with_reducible first|exact HB.out|apply below_alloc|apply pw_below_drewN|apply below_drew1|refine below_set ?_ (IsS90.ge HI748.out))|exact HB.out))));have n1_:=Aside0.mk (IsS90.below (by repeat (first|(with_reducible first|exact HI748.out|apply IsS90.alloc|apply IsS90.drewN|apply IsS90.drew|apply IsS90.set_1|apply IsS90.set_2)|exact HI748.out)) hb);have n2_:=Aside0.mk (below_step (by repeat (first|(with_reducible first|exact HB.out|apply below_alloc|apply pw_below_drewN|apply below_drew1|refine below_set ?_ (IsS90.ge HI748.out))|exact HB.out)) hb);clear HI748;clear HB;have HO758:=n0_;have HI748:=n1_;have HB:=n2_;clear n0_ n1_ n2_;clear hb ho14;obtain ⟨Ao15,co15,eo15⟩:=Kd.R_slice HO758.out;subst eo15)|((with_reducible refine gate_callee (f:=73) rfl ?_);refine goesL_ (some 22) rfl rfl Tryd.func73 (by kernel_rfl) rfl #[.pointer (some ⟨g748,0,none⟩),.slice Ao15 y756.length co15] rfl (by (try simp only [List.map_toArray,List.map_cons,List.map_nil]);first|done|rfl|(simp only [List.length_drop,List.length_take];rfl)) ?_;(with_reducible refine (spec_l1text.calls g748 t745 t754 t755 _ _ y756 t759 t760 t761 w _ ?side1 ?side2 ?side3 ?side4 ?side5 A10.out).mono ?_);(case side1=>repeat (first|(with_reducible first|exact HI748.out|apply IsS90.alloc|apply IsS90.drewN|apply IsS90.drew|apply IsS90.set_1|apply IsS90.set_2)|exact HI748.out));(case side2=>repeat (first|(with_reducible first|exact HB.out|apply below_alloc|apply pw_below_drewN|apply below_drew1|refine below_set ?_ (IsS90.ge HI748.out))|exact HB.out));(case side3=>repeat (first|exact (Kd.R_reads' HO758.out).2.2|(with_reducible refine Kd.C_alloc ?_ _)|(with_reducible refine Kd.C_drewN ?_ _)|(with_reducible refine Kd.C_drew ?_)));(case side4=>exact (Kd.R_reads' HO758.out).2.1);(case side5=>exact far_slice (IsS90.own_ne HI748.out HO758.out (by decide)));rintro e w16 ⟨rfl,hi,hb,hk⟩;refine ⟨_,rfl,?_⟩;have n0_:=Aside0.mk (Kd.R_mono (Kd.R_keep (IsS90.apart (show IsS90 w _ g748 t745 t754 t755 from by repeat (first|(with_reducible first|exact HI748.out|apply IsS90.alloc|apply IsS90.drewN|apply IsS90.drew|apply IsS90.set_1|apply IsS90.set_2)|exact HI748.out)) (by (with_reducible repeat (first|apply Kd.R_alloc|apply Kd.R_drewN|apply Kd.R_drew));exact HO758.out) (by decide)) hk (fun _ h=>h.2)) (fun _ h=>h.1));have n1_:=Aside0.mk (hb);have n2_:=Aside0.mk (hi);clear HO758;clear HB;clear HI748;have HO758:=n0_;have HB:=n1_;have HI748:=n2_;clear n0_ n1_ n2_;(try clear hb);(try clear hb2);(try clear hk);(try clear hi)))
      go_roundg k1
      case measure=>have:=HK1.out;omega
      case rel=>exact ⟨((x4_1 ++ t753) ++ t759),(wrap64 (x5_1 - 1)),(t760),(t761),(by first|rfl|(simp;done)|(simp [*];done)),(by first|rfl|(simp;done)|(simp [*];done)),H',⟨by have:=HK1.out;omega⟩,⟨by repeat (first|(with_reducible first|exact HI748.out|apply IsS90.alloc|apply IsS90.drewN|apply IsS90.drew|apply IsS90.set_1|apply IsS90.set_2)|exact HI748.out)⟩,⟨by repeat (first|(with_reducible first|exact HB.out|apply below_alloc|apply pw_below_drewN|apply below_drew1|refine below_set ?_ (IsS90.ge HI748.out))|exact HB.out)⟩⟩
     ·rw [if_neg c11] at H
      exact absurd H (by simp)
    ·rw [if_neg c9] at H
     exact absurd H (by simp)
   ·rw [if_neg c7] at H
    have c7b0 : decide (0 < x5_1) = false:=decide_eq_false c7
    clear c7
    replace H:=Option.bind_eq_some_iff.mp H
    obtain ⟨⟨t762,t763,t764⟩,A170,H⟩:=H
    replace H : (if t762 = true then ((spec_l1bend.f k1 t745 t763 t764 x4_1).bind fun bt765=>(some bt765.1)) else (some x4_1)) = some r:=H
    have A17:=Aside0.mk A170
    clear A170
    by_cases c18 : t762 = true
    ·subst c18
     have H1 : ((spec_l1bend.f k1 t745 t763 t764 x4_1).bind fun bt765=>(some bt765.1)) = some r:=by rw [if_pos rfl] at H;exact H
     clear H
     have H:=H1
     clear H1
     replace H:=Option.bind_eq_some_iff.mp H
     obtain ⟨⟨t765,t766,t767⟩,A190,H⟩:=H
     replace H : (some t765) = some r:=H
     have A19:=Aside0.mk A190
     clear A190
     obtain rfl:=Option.some.inj H
     go_wp2_with (first|((with_reducible refine gate_callee (f:=46) rfl ?_);refine goesL_ (some 25) rfl rfl Tryd.func46 (by kernel_rfl) rfl #[.pointer (some ⟨g748,0,none⟩),.int .i64 8] rfl (by (try simp only [List.map_toArray,List.map_cons,List.map_nil]);first|done|rfl|(simp only [List.length_drop,List.length_take];rfl)) ?_;(with_reducible refine (spec_l1Once.calls g748 t745 x749001_1 x749002_1 8 true t763 t764 w _ ?side1 ?side2 A17.out).mono ?_);(case side1=>repeat (first|(with_reducible first|exact HI748.out|apply IsS90.alloc|apply IsS90.drewN|apply IsS90.drew|apply IsS90.set_1|apply IsS90.set_2)|exact HI748.out));(case side2=>repeat (first|(with_reducible first|exact HB.out|apply below_alloc|apply pw_below_drewN|apply below_drew1|refine below_set ?_ (IsS90.ge HI748.out))|exact HB.out));rintro e w20 ⟨rfl,hi,hb,hk⟩;refine ⟨_,rfl,?_⟩;have n0_:=Aside0.mk (hb);have n1_:=Aside0.mk (hi);clear HB;clear HI748;have HB:=n0_;have HI748:=n1_;clear n0_ n1_;(try clear hb);(try clear hb2);(try clear hk);(try clear hi))|((with_reducible refine gate_callee (f:=74) rfl ?_);refine goesL_ (some 28) rfl rfl Tryd.func74 (by kernel_rfl) rfl #[.pointer (some ⟨g748,0,none⟩),.string x4_1] rfl (by (try simp only [List.map_toArray,List.map_cons,List.map_nil]);first|done|rfl|(simp only [List.length_drop,List.length_take];rfl)) ?_;(with_reducible refine (spec_l1bend.calls k1 g748 t745 t763 t764 x4_1 t765 t766 t767 w _ ?side1 ?side2 A19.out).mono ?_);(case side1=>repeat (first|(with_reducible first|exact HI748.out|apply IsS90.alloc|apply IsS90.drewN|apply IsS90.drew|apply IsS90.set_1|apply IsS90.set_2)|exact HI748.out));(case side2=>repeat (first|(with_reducible first|exact HB.out|apply below_alloc|apply pw_below_drewN|apply below_drew1|refine below_set ?_ (IsS90.ge HI748.out))|exact HB.out));rintro e w21 ⟨rfl,hi,hb,hk⟩;refine ⟨_,rfl,?_⟩;have n0_:=Aside0.mk (hb);have n1_:=Aside0.mk (hi);clear HB;clear HI748;have HB:=n0_;have HI748:=n1_;clear n0_ n1_;(try clear hb);(try clear hb2);(try clear hk);(try clear hi)))
     go_ret
     exact ⟨by first|rfl|(simp [errW_none,errW_some] <;> rfl)|(simp [*,errW_none,errW_some] <;> rfl),by repeat (first|(with_reducible first|exact HB.out|apply below_alloc|apply pw_below_drewN|apply below_drew1|refine below_set ?_ (IsS90.ge HI748.out))|exact HB.out)⟩
    ·replace c18:=Bool.eq_false_iff.mpr c18
     subst c18
     have H1 : (some x4_1) = some r:=by rw [if_neg (show ¬ (false = true) by decide)] at H;exact H
     clear H
     have H:=H1
     clear H1
     obtain rfl:=Option.some.inj H
     go_wp2_with (first|((with_reducible refine gate_callee (f:=46) rfl ?_);refine goesL_ (some 25) rfl rfl Tryd.func46 (by kernel_rfl) rfl #[.pointer (some ⟨g748,0,none⟩),.int .i64 8] rfl (by (try simp only [List.map_toArray,List.map_cons,List.map_nil]);first|done|rfl|(simp only [List.length_drop,List.length_take];rfl)) ?_;(with_reducible refine (spec_l1Once.calls g748 t745 x749001_1 x749002_1 8 false t763 t764 w _ ?side1 ?side2 A17.out).mono ?_);(case side1=>repeat (first|(with_reducible first|exact HI748.out|apply IsS90.alloc|apply IsS90.drewN|apply IsS90.drew|apply IsS90.set_1|apply IsS90.set_2)|exact HI748.out));(case side2=>repeat (first|(with_reducible first|exact HB.out|apply below_alloc|apply pw_below_drewN|apply below_drew1|refine below_set ?_ (IsS90.ge HI748.out))|exact HB.out));rintro e w22 ⟨rfl,hi,hb,hk⟩;refine ⟨_,rfl,?_⟩;have n0_:=Aside0.mk (hb);have n1_:=Aside0.mk (hi);clear HB;clear HI748;have HB:=n0_;have HI748:=n1_;clear n0_ n1_;(try clear hb);(try clear hb2);(try clear hk);(try clear hi)))
     go_ret
     exact ⟨by first|rfl|(simp [errW_none,errW_some] <;> rfl)|(simp [*,errW_none,errW_some] <;> rfl),by repeat (first|(with_reducible first|exact HB.out|apply below_alloc|apply pw_below_drewN|apply below_drew1|refine below_set ?_ (IsS90.ge HI748.out))|exact HB.out)⟩
mutual
def spec_l3blank.l0 : Nat → ByteArray → Int → Option (Int)
 | 0,_,_=>none
 | k + 1,x0,x1=>if x1 < (x0.size : Int) then (if 0 ≤ x1 then (if (bt x0 x1) = 35 then (spec_l3blank.l1 k x0 x1) else ((spec_l1white.f (bt x0 x1)).bind fun t768=>(if t768 = true then (spec_l3blank.l0 k x0 (wrap64 (x1 + 1))) else (some x1)))) else (none)) else (some x1)
def spec_l3blank.l1 : Nat → ByteArray → Int → Option (Int)
 | 0,_,_=>none
 | k + 1,x0,x1=>if x1 < (x0.size : Int) then (if 0 ≤ x1 then (if (bt x0 x1) = 10 then (spec_l3blank.l0 k x0 x1) else (spec_l3blank.l1 k x0 (wrap64 (x1 + 1)))) else (none)) else (spec_l3blank.l0 k x0 x1)
end
def spec_l3blank.f (k : Nat) (a0 : ByteArray) (a1 : Int) : Option (Int):=spec_l3blank.l0 k a0 a1
set_option maxHeartbeats 8000000 in
set_option maxRecDepth 100000 in
theorem spec_l3blank.calls (k : Nat) (a0 : ByteArray) (a1 : Int) (r : Int) (w : World) (h : spec_l3blank.f k a0 a1 = some r) :
  Calls Tryd.prog 79 #[.string a0,.int .i64 a1] w fun e w'=>e = .returned (.int .i64 r) ∧ Drawn0 w w':=by
 have H : (spec_l3blank.l0 k a0 a1) = some r:=h
 clear h
 have H':=Aside0.mk H
 clear H
 go_enter Tryd.func79,Tryd.ntmps79
 go_wp2
 go_loopg [1] k (fun kq v1 w'=>∃ (x1_1 : Int),v1 = .int .i64 x1_1 ∧ Aside0 (spec_l3blank.l0 kq a0 x1_1 = some r) ∧ Aside0 (kq ≤ k) ∧ Drawn0 w w')
 case atStart=>exact ⟨(a1),(by first|rfl|(simp;done)|(simp [*];done)),H',⟨Nat.le_refl _⟩,by repeat (first|exact Drawn0.refl _|apply Drawn0.step)⟩
 case round =>
  clear H'
  try clear p2
  obtain ⟨x1_1,rfl,HA,HK1,⟨m1,rfl⟩⟩:=hrel
  cases gk with
  | zero=>exact absurd HA.out (by simp [spec_l3blank.l0])
  | succ k1 =>
   have H:=HA.out
   clear HA
   simp only [spec_l3blank.l0] at H
   by_cases c3 : x1_1 < (a0.size : Int)
   ·rw [if_pos c3] at H
    have c3b0 : decide (x1_1 < (a0.size : Int)) = true:=decide_eq_true c3
    clear c3
    by_cases c4 : 0 ≤ x1_1
    ·rw [if_pos c4] at H
     have c4b0 : decide (0 ≤ x1_1) = true:=decide_eq_true c4
     clear c4
     by_cases c6 : (bt a0 x1_1) = 35
     ·rw [if_pos c6] at H
      have c6b0 : ((bt a0 x1_1) == 35) = true:=beq_iff_eq.mpr c6
      have c6b1 : ((bt a0 x1_1) != 35) = false:=bne_eq_false_iff_eq.mpr c6
      clear c6
      have H':=Aside0.mk H
      clear H
      have p5 : 0 ≤ (x1_1 : Int):=of_decide_eq_true (by first|(with_reducible assumption)|assumption)
      have q5 : x1_1 < (a0.size : Int):=of_decide_eq_true (by first|(with_reducible assumption)|assumption)
      have hx5:=bt_at a0 x1_1
      replace p5:=eq_true p5
      replace q5:=eq_true q5
      go_wp2
      go_loopg [1] k1 (fun kq v1 w'=>∃ (x1_2 : Int),v1 = .int .i64 x1_2 ∧ Aside0 (spec_l3blank.l1 kq a0 x1_2 = some r) ∧ Aside0 (kq ≤ k1) ∧ Drawn0 w w')
      case atStart=>exact ⟨(x1_1),(by first|rfl|(simp;done)|(simp [*];done)),H',⟨Nat.le_refl _⟩,by repeat (first|exact Drawn0.refl _|apply Drawn0.step)⟩
      case round =>
       clear H'
       try clear p2
       try clear c3
       try clear c3b0
       try clear c4
       try clear c4b0
       try clear p5
       try clear q5
       try clear hx5
       try clear c6
       try clear c6b0
       try clear c6b1
       try clear p2
       try clear p5
       try clear q5
       obtain ⟨x1_2,rfl,HA,HK2,⟨m2,rfl⟩⟩:=hrel
       cases gk with
       | zero=>exact absurd HA.out (by simp [spec_l3blank.l1])
       | succ k2 =>
        have H:=HA.out
        clear HA
        simp only [spec_l3blank.l1] at H
        by_cases c7 : x1_2 < (a0.size : Int)
        ·rw [if_pos c7] at H
         have c7b0 : decide (x1_2 < (a0.size : Int)) = true:=decide_eq_true c7
         clear c7
         by_cases c8 : 0 ≤ x1_2
         ·rw [if_pos c8] at H
          have c8b0 : decide (0 ≤ x1_2) = true:=decide_eq_true c8
          clear c8
          by_cases c10 : (bt a0 x1_2) = 10
          ·rw [if_pos c10] at H
           have c10b0 : ((bt a0 x1_2) == 10) = true:=beq_iff_eq.mpr c10
           have c10b1 : ((bt a0 x1_2) != 10) = false:=bne_eq_false_iff_eq.mpr c10
           clear c10
           have H':=Aside0.mk H
           clear H
           have p9 : 0 ≤ (x1_2 : Int):=of_decide_eq_true (by first|(with_reducible assumption)|assumption)
           have q9 : x1_2 < (a0.size : Int):=of_decide_eq_true (by first|(with_reducible assumption)|assumption)
           have hx9:=bt_at a0 x1_2
           replace p9:=eq_true p9
           replace q9:=eq_true q9
           go_wp2
           go_roundg k2
           case measure=>have:=HK1.out;have:=HK2.out;omega
           case rel=>exact ⟨(x1_2),(by first|rfl|(simp;done)|(simp [*];done)),H',⟨by have:=HK1.out;have:=HK2.out;omega⟩,by repeat (first|exact Drawn0.refl _|apply Drawn0.step)⟩
          ·rw [if_neg c10] at H
           have c10b0 : ((bt a0 x1_2) == 10) = false:=beq_eq_false_iff_ne.mpr c10
           have c10b1 : ((bt a0 x1_2) != 10) = true:=bne_iff_ne.mpr c10
           have H':=Aside0.mk H
           clear H
           have p9 : 0 ≤ (x1_2 : Int):=of_decide_eq_true (by first|(with_reducible assumption)|assumption)
           have q9 : x1_2 < (a0.size : Int):=of_decide_eq_true (by first|(with_reducible assumption)|assumption)
           have hx9:=bt_at a0 x1_2
           replace p9:=eq_true p9
           replace q9:=eq_true q9
           go_wp2
           go_roundg k2
           case measure=>have:=HK1.out;have:=HK2.out;omega
           case rel=>exact ⟨(wrap64 (x1_2 + 1)),(by first|rfl|(simp;done)|(simp [*];done)),H',⟨by have:=HK1.out;have:=HK2.out;omega⟩,by repeat (first|exact Drawn0.refl _|apply Drawn0.step)⟩
         ·rw [if_neg c8] at H
          exact absurd H (by simp)
        ·rw [if_neg c7] at H
         have c7b0 : decide (x1_2 < (a0.size : Int)) = false:=decide_eq_false c7
         clear c7
         have H':=Aside0.mk H
         clear H
         go_wp2
         go_roundg k2
         case measure=>have:=HK1.out;have:=HK2.out;omega
         case rel=>exact ⟨(x1_2),(by first|rfl|(simp;done)|(simp [*];done)),H',⟨by have:=HK1.out;have:=HK2.out;omega⟩,by repeat (first|exact Drawn0.refl _|apply Drawn0.step)⟩
     ·rw [if_neg c6] at H
      have c6b0 : ((bt a0 x1_1) == 35) = false:=beq_eq_false_iff_ne.mpr c6
      have c6b1 : ((bt a0 x1_1) != 35) = true:=bne_iff_ne.mpr c6
      replace H:=Option.bind_eq_some_iff.mp H
      obtain ⟨t768,A120,H⟩:=H
      replace H : (if t768 = true then (spec_l3blank.l0 k1 a0 (wrap64 (x1_1 + 1))) else (some x1_1)) = some r:=H
      have A12:=Aside0.mk A120
      clear A120
      by_cases c13 : t768 = true
      ·subst c13
       have H1 : (spec_l3blank.l0 k1 a0 (wrap64 (x1_1 + 1))) = some r:=by rw [if_pos rfl] at H;exact H
       clear H
       have H:=H1
       clear H1
       have H':=Aside0.mk H
       clear H
       have p5 : 0 ≤ (x1_1 : Int):=of_decide_eq_true (by first|(with_reducible assumption)|assumption)
       have q5 : x1_1 < (a0.size : Int):=of_decide_eq_true (by first|(with_reducible assumption)|assumption)
       have hx5:=bt_at a0 x1_1
       replace p5:=eq_true p5
       replace q5:=eq_true q5
       have p11 : 0 ≤ (x1_1 : Int):=of_decide_eq_true (by first|(with_reducible assumption)|assumption)
       have q11 : x1_1 < (a0.size : Int):=of_decide_eq_true (by first|(with_reducible assumption)|assumption)
       have hx11:=bt_at a0 x1_1
       replace p11:=eq_true p11
       replace q11:=eq_true q11
       go_wp2_with (first|((with_reducible refine gate_callee (f:=99) rfl ?_);refine goesL_ (some 28) rfl rfl Tryd.func99 (by kernel_rfl) rfl #[.int .u8 (bt a0 x1_1)] rfl (by (try simp only [List.map_toArray,List.map_cons,List.map_nil]);first|done|rfl|(simp only [List.length_drop,List.length_take];rfl)) ?_;(with_reducible refine (spec_l1white.calls (bt a0 x1_1) true _ A12.out).mono ?_);rintro e w' ⟨rfl,⟨nd,rfl⟩⟩;refine ⟨_,rfl,?_⟩))
       go_roundg k1
       case measure=>have:=HK1.out;omega
       case rel=>exact ⟨(wrap64 (x1_1 + 1)),(by first|rfl|(simp;done)|(simp [*];done)),H',⟨by have:=HK1.out;omega⟩,by repeat (first|exact Drawn0.refl _|apply Drawn0.step)⟩
      ·replace c13:=Bool.eq_false_iff.mpr c13
       subst c13
       have H1 : (some x1_1) = some r:=by rw [if_neg (show ¬ (false = true) by decide)] at H;exact H
       clear H
       have H:=H1
       clear H1
       obtain rfl:=Option.some.inj H
       have p5 : 0 ≤ (x1_1 : Int):=of_decide_eq_true (by first|(with_reducible assumption)|assumption)
       have q5 : x1_1 < (a0.size : Int):=of_decide_eq_true (by first|(with_reducible assumption)|assumption)
       have hx5:=bt_at a0 x1_1
       replace p5:=eq_true p5
       replace q5:=eq_true q5
       have p11 : 0 ≤ (x1_1 : Int):=of_decide_eq_true (by first|(with_reducible assumption)|assumption)
       have q11 : x1_1 < (a0.size : Int):=of_decide_eq_true (by first|(with_reducible assumption)|assumption)
       have hx11:=bt_at a0 x1_1
       replace p11:=eq_true p11
       replace q11:=eq_true q11
       go_wp2_with (first|((with_reducible refine gate_callee (f:=99) rfl ?_);refine goesL_ (some 28) rfl rfl Tryd.func99 (by kernel_rfl) rfl #[.int .u8 (bt a0 x1_1)] rfl (by (try simp only [List.map_toArray,List.map_cons,List.map_nil]);first|done|rfl|(simp only [List.length_drop,List.length_take];rfl)) ?_;(with_reducible refine (spec_l1white.calls (bt a0 x1_1) false _ A12.out).mono ?_);rintro e w' ⟨rfl,⟨nd,rfl⟩⟩;refine ⟨_,rfl,?_⟩))
       go_ret
       exact ⟨by first|rfl|(simp;done)|(simp [*];done),by repeat (first|exact Drawn0.refl _|apply Drawn0.step)⟩
    ·rw [if_neg c4] at H
     exact absurd H (by simp)
   ·rw [if_neg c3] at H
    have c3b0 : decide (x1_1 < (a0.size : Int)) = false:=decide_eq_false c3
    clear c3
    obtain rfl:=Option.some.inj H
    go_wp2
    go_ret
    exact ⟨by first|rfl|(simp;done)|(simp [*];done),by repeat (first|exact Drawn0.refl _|apply Drawn0.step)⟩
mutual
def spec_l3num.j1 : Nat → ByteArray → Int → Int → Option (Int × ByteArray × Int × Int × Int)
 | 0,_,_,_=>none
 | k + 1,x0,x1,x6=>if (wrap64 (x6 + 1)) < (x0.size : Int) then (if 0 ≤ x6 then (if x6 < (x0.size : Int) then (if (bt x0 x6) = 46 then (if 0 ≤ (wrap64 (x6 + 1)) then ((spec_l1digit.f (bt x0 (wrap64 (x6 + 1)))).bind fun t771=>(spec_l3num.j2 k x0 x1 x6 t771)) else (none)) else (spec_l3num.j2 k x0 x1 x6 false)) else (none)) else (none)) else (spec_l3num.j2 k x0 x1 x6 false)
def spec_l3num.j2 : Nat → ByteArray → Int → Int → Bool → Option (Int × ByteArray × Int × Int × Int)
 | 0,_,_,_,_=>none
 | k + 1,x0,x1,x6,x39=>if x39 = true then (spec_l3num.l1 k x0 x1 (wrap64 (x6 + 1))) else (if 0 ≤ x1 then (if x1 ≤ x6 then (if x6 ≤ (x0.size : Int) then ((spec_ReadDec.f k (x0.extract (x1 : Int).toNat (x6 : Int).toNat)).bind fun bt777=>(some (1,(⟨#[]⟩ : ByteArray),bt777.1,x1,x6))) else (none)) else (none)) else (none))
def spec_l3num.l1 : Nat → ByteArray → Int → Int → Option (Int × ByteArray × Int × Int × Int)
 | 0,_,_,_=>none
 | k + 1,x0,x1,x6=>if x6 < (x0.size : Int) then (if 0 ≤ x6 then ((spec_l1digit.f (bt x0 x6)).bind fun t772=>(if t772 = true then (spec_l3num.l1 k x0 x1 (wrap64 (x6 + 1))) else (if 0 ≤ x1 then (if x1 ≤ x6 then (if x6 ≤ (x0.size : Int) then ((spec_ReadDec.f k (x0.extract (x1 : Int).toNat (x6 : Int).toNat)).bind fun bt773=>(some (1,(⟨#[]⟩ : ByteArray),bt773.1,x1,x6))) else (none)) else (none)) else (none)))) else (none)) else (if 0 ≤ x1 then (if x1 ≤ x6 then (if x6 ≤ (x0.size : Int) then ((spec_ReadDec.f k (x0.extract (x1 : Int).toNat (x6 : Int).toNat)).bind fun bt775=>(some (1,(⟨#[]⟩ : ByteArray),bt775.1,x1,x6))) else (none)) else (none)) else (none))
def spec_l3num.l0 : Nat → ByteArray → Int → Int → Option (Int × ByteArray × Int × Int × Int)
 | 0,_,_,_=>none
 | k + 1,x0,x1,x6=>if x6 < (x0.size : Int) then (if 0 ≤ x6 then ((spec_l1digit.f (bt x0 x6)).bind fun t770=>(if t770 = true then (spec_l3num.l0 k x0 x1 (wrap64 (x6 + 1))) else (spec_l3num.j1 k x0 x1 x6))) else (none)) else (spec_l3num.j1 k x0 x1 x6)
end
def spec_l3num.f (k : Nat) (a0 : ByteArray) (a1 : Int) : Option (Int × ByteArray × Int × Int × Int):=spec_l3num.l0 k a0 a1 a1
end Go.Proofs.YtnfiljnncpieoaaDoor.Q
