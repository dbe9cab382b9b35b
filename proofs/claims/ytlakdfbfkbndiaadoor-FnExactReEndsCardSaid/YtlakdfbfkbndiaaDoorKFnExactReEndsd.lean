/- What the row of FnExactReEnds rests on, and the row: for every input that can be read the call returns true and the input reads as it did; condition: what the row lists of the library reads as the program lays it. -/
import Derived.Test.YtlakdfbfkbndiaaDoorKFnExactReEndsc
set_option linter.unusedVariables false
set_option linter.unusedSimpArgs false
namespace Go.Proofs.YtlakdfbfkbndiaaDoor.Q
open Go.RowKit Go.Proofs.YtlakdfbfkbndiaaDoorW.PrintWords Go.Proofs.YtlakdfbfkbndiaaDoorW.PrintLast Go.Proofs.YtlakdfbfkbndiaaDoorW.PrintMore
attribute [local go_sem] max2_int min2_int max_two min_two max_three min_three max_four min_four   -- for this text's walks alone
set_option linter.unusedVariables false
set_option linter.unusedSimpArgs false
set_option maxHeartbeats 8000000 in
set_option maxRecDepth 100000 in
theorem spec_l2close.calls (k : Nat) (A0_0 : Option Addr) (c0_0 : Nat) (l0_0 : List (S85)) (a0_1 : Int) (A1 : Option Addr) (c1 : Nat) (l1 : List (S49)) (a2 : ByteArray) (a3 : Int) (P4_ : Nat → Prop) (u9000_ : Value) (l4 : List Bool) (r : List Bool) (w0 w : World) (hB : Below w0.heap.size w0 w) (hr0_0 : ∀ W_,Kept w W_ (fun k_=>P4_ k_) → Kd.C k85 W_ A0_0 l0_0.length l0_0) (hc0_0 : l0_0.length ≤ c0_0) (hr1 : ∀ W_,Kept w W_ (fun k_=>P4_ k_) → Kd.C k49 W_ A1 l1.length l1) (hc1 : l1.length ≤ c1) (ho4 : Kd.R Kd.bool 4 w w0.heap.size P4_ u9000_ l4) (h : spec_l2close.f k l0_0 a0_1 l1 a2 a3 l4 = some r) :
  Calls Tryd.prog 57 #[.agg #[.slice A0_0 l0_0.length c0_0,.int .i64 a0_1],.slice A1 l1.length c1,.string a2,.int .i64 a3,u9000_] w fun e w'=>e = .returned (.tuple #[]) ∧ Kd.R Kd.bool 4 w' w0.heap.size (fun k_=>(P4_ k_ ∨ w.heap.size ≤ k_)) u9000_ r ∧ Below w0.heap.size w0 w' ∧ Kept w w' (fun k_=>P4_ k_):=by
 have hu59:=Tryd.underlying59
 have hu85:=Tryd.underlying85
 have HR0_0:=Aside0.mk hr0_0
 have HC0_0:=Aside0.mk hc0_0
 clear hr0_0 hc0_0
 have HR1:=Aside0.mk hr1
 have HC1:=Aside0.mk hc1
 clear hr1 hc1
 have HO4:=Aside0.mk (show Kd.R Kd.bool 4 w w0.heap.size (fun k_=>(P4_ k_ ∨ w.heap.size ≤ k_)) u9000_ l4 from Kd.R_mono ho4 (fun k_ hk=>(.inl hk)))
 have HK:=Aside0.mk (Kept.refl w (fun k_=>P4_ k_))
 have HW0:=Aside0.mk hB.size
 have HB:=Aside0.mk hB
 clear hB
 have H : (spec_l2close.l0 k l1 a2 a3 l4 true l0_0 a0_1) = some r:=h
 clear h
 have H':=Aside0.mk H
 clear H
 go_enter Tryd.func57,Tryd.ntmps57
 go_wp2_with (first|((with_reducible refine gate_dst (N:=5) rfl ?_);(try (refine gate_guard (by rfl) ?_;dsimp only));refine box_event ?hg (N:=5) ?hd (cs:=#[.slice A0_0 l0_0.length c0_0,.int .i64 a0_1]) (t:=59) ?hr ?_;(case hd=>rfl);(case hg=>rfl);(case hr=>first|(go_simp;done)|(go_simp;rfl));intro gb141 hg w6 hbox hb;have n0_:=Aside0.mk (Kd.R_below (by (with_reducible repeat (first|apply Kd.R_alloc|apply Kd.R_drewN|apply Kd.R_drew));exact HO4.out) hb);have n1_:=Aside0.mk (Kept.below (S:=(fun k_=>P4_ k_)) (by repeat (first|(with_reducible first|exact HK.out|apply Kept.alloc|apply Kept.drewN|apply Kept.drew)|exact HK.out)) hb);have n2_:=Aside0.mk (below_step (by repeat (first|(with_reducible first|exact HB.out|apply below_alloc|apply pw_below_drewN|apply below_drew1)|exact HB.out)) hb);have n3_:=Aside0.mk (hbox);have n4_:=Aside0.mk ((by rw [hg];exact (by first|exact HK.out.1|exact (show Kept w _ (fun k_=>P4_ k_) from by repeat (first|(with_reducible first|exact HK.out|apply Kept.alloc|apply Kept.drewN|apply Kept.drew)|exact HK.out)).1) : w.heap.size ≤ gb141));have n5_:=Aside0.mk ((by rw [hg];exact (below_size (by repeat (first|(with_reducible first|exact HB.out|apply below_alloc|apply pw_below_drewN|apply below_drew1)|exact HB.out))) : w0.heap.size ≤ gb141));clear HO4;clear HK;clear HB;have HO4:=n0_;have HK:=n1_;have HB:=n2_;have BK141:=n3_;have GW141:=n4_;have GE141:=n5_;clear n0_ n1_ n2_ n3_ n4_ n5_;clear hb hbox hg))
 go_loopg [10] k (fun kq v10 w'=>∃ (x4_1 : List Bool) (x10_1 : Bool),v10 = .bool x10_1 ∧ Aside0 (spec_l2close.l0 kq l1 a2 a3 x4_1 x10_1 l0_0 a0_1 = some r) ∧ Aside0 (kq ≤ k) ∧ Aside0 (Kd.R Kd.bool 4 w' w0.heap.size (fun k_=>(P4_ k_ ∨ w.heap.size ≤ k_)) u9000_ x4_1) ∧ Aside0 (w'.heap[gb141]? = some (.cells #[(.slice A0_0 l0_0.length c0_0),.int .i64 a0_1] 59 (0,0))) ∧ Aside0 (Kept w w' (fun k_=>P4_ k_)) ∧ Aside0 (Below w0.heap.size w0 w'))
 case atStart=>exact ⟨(l4),(true),(by first|rfl|(simp;done)|(simp [*];done)),H',⟨Nat.le_refl _⟩,⟨by (with_reducible repeat (first|apply Kd.R_alloc|apply Kd.R_drewN|apply Kd.R_drew));exact HO4.out⟩,⟨by (with_reducible repeat (first|refine blk_drewN ?_ _|refine blk_drew ?_|refine blk_alloc ?_ _));exact BK141.out⟩,⟨by repeat (first|(with_reducible first|exact HK.out|apply Kept.alloc|apply Kept.drewN|apply Kept.drew|refine Kept.setCell ?_ (.inr GW141.out) _)|exact HK.out)⟩,⟨by repeat (first|(with_reducible first|exact HB.out|apply below_alloc|apply pw_below_drewN|apply below_drew1|refine below_set ?_ GE141.out)|exact HB.out)⟩⟩
 case round =>
  clear H'
  try clear c1
  try clear p2
  try clear c5
  obtain ⟨x4_1,x10_1,rfl,HA,HK1,HO_4,BK141,HK,HB⟩:=hrel
  cases gk with
  | zero=>exact absurd HA.out (by simp [spec_l2close.l0])
  | succ k1 =>
   have H:=HA.out
   clear HA
   simp only [spec_l2close.l0] at H
   by_cases c7 : x10_1 = true
   ·subst c7
    have H1 : (spec_l2close.l1 k1 l1 a2 a3 x4_1 false 0 l0_0 a0_1) = some r:=by rw [if_pos rfl] at H;exact H
    clear H
    have H:=H1
    clear H1
    have H':=Aside0.mk H
    clear H
    go_wp2
    go_loopg [10,11] k1 (fun kq v10 v11 w'=>∃ (x4_2 : List Bool) (x10_2 : Bool) (x11_2 : Int),v10 = .bool x10_2 ∧ v11 = .int .i64 x11_2 ∧ Aside0 (spec_l2close.l1 kq l1 a2 a3 x4_2 x10_2 x11_2 l0_0 a0_1 = some r) ∧ Aside0 (kq ≤ k1) ∧ Aside0 (Kd.R Kd.bool 4 w' w0.heap.size (fun k_=>(P4_ k_ ∨ w.heap.size ≤ k_)) u9000_ x4_2) ∧ Aside0 (w'.heap[gb141]? = some (.cells #[(.slice A0_0 l0_0.length c0_0),.int .i64 a0_1] 59 (0,0))) ∧ Aside0 (Kept w w' (fun k_=>P4_ k_)) ∧ Aside0 (Below w0.heap.size w0 w'))
    case atStart=>exact ⟨(x4_1),(false),(0),(by first|rfl|(simp;done)|(simp [*];done)),(by first|rfl|(simp;done)|(simp [*];done)),H',⟨Nat.le_refl _⟩,⟨by (with_reducible repeat (first|apply Kd.R_alloc|apply Kd.R_drewN|apply Kd.R_drew));exact HO_4.out⟩,⟨by (with_reducible repeat (first|refine blk_drewN ?_ _|refine blk_drew ?_|refine blk_alloc ?_ _));exact BK141.out⟩,⟨by repeat (first|(with_reducible first|exact HK.out|apply Kept.alloc|apply Kept.drewN|apply Kept.drew|refine Kept.setCell ?_ (.inr GW141.out) _)|exact HK.out)⟩,⟨by repeat (first|(with_reducible first|exact HB.out|apply below_alloc|apply pw_below_drewN|apply below_drew1|refine below_set ?_ GE141.out)|exact HB.out)⟩⟩
    case round =>
     clear H'
     try clear c1
     try clear p2
     try clear c5
     try clear c7
     try clear p2
     obtain ⟨x4_2,x10_2,x11_2,rfl,rfl,HA,HK2,HO_4,BK141,HK,HB⟩:=hrel
     cases gk with
     | zero=>exact absurd HA.out (by simp [spec_l2close.l1])
     | succ k2 =>
      have H:=HA.out
      clear HA
      simp only [spec_l2close.l1] at H
      by_cases c8 : x11_2 < (l0_0.length : Int)
      ·rw [if_pos c8] at H
       have c8b0 : decide (x11_2 < (l0_0.length : Int)) = true:=decide_eq_true c8
       clear c8
       by_cases c9 : 0 ≤ x11_2
       ·rw [if_pos c9] at H
        have c9b0 : decide (0 ≤ x11_2) = true:=decide_eq_true c9
        clear c9
        have HC10:=Aside0.mk H
        clear H
        have hcz11_0 : wr.cell? ⟨gb141,0,none⟩ = some (.slice A0_0 l0_0.length c0_0):=(blk_cell BK141.out 0).trans rfl
        have hcz11_1 : wr.cell? ⟨gb141,1,none⟩ = some (.int .i64 a0_1):=(blk_cell BK141.out 1).trans rfl
        have hfz11_0:=blk_frozen BK141.out 0
        have hfz11_1:=blk_frozen BK141.out 1
        have p142 : 0 ≤ (x11_2 : Int):=of_decide_eq_true (by first|(with_reducible assumption)|assumption)
        have q142 : x11_2 < (l0_0.length : Int):=of_decide_eq_true (by first|(with_reducible assumption)|assumption)
        obtain ⟨ad142,e142,hx142_0,hx142_1,hx142_2⟩:=at_T85 (Kd.C_kept_now HR0_0.out HK.out) x11_2 p142 q142
        cases e142
        replace p142:=eq_true p142
        replace q142:=eq_true q142
        go_upto_region 8 with (first|((with_reducible refine gate_dst (N:=12) rfl ?_);(try (refine gate_guard (by rfl) ?_;dsimp only));refine box_event ?hg (N:=12) ?hd (cs:=#[.int .i64 0,.int .i64 0,.int .i64 0]) (t:=85) ?hr ?_;(case hd=>rfl);(case hg=>rfl);(case hr=>first|(go_simp;done)|(go_simp;rfl));intro gb143 hg w12 hbox hb;have n0_:=Aside0.mk (Kd.R_below (by (with_reducible repeat (first|apply Kd.R_alloc|apply Kd.R_drewN|apply Kd.R_drew));exact HO_4.out) hb);have n1_:=Aside0.mk (blk_below (g:=gb141) (o:=.cells #[.slice (some ad142) l0_0.length c0_0,.int .i64 a0_1] 59 (0,0)) (by (with_reducible repeat (first|refine blk_drewN ?_ _|refine blk_drew ?_|refine blk_alloc ?_ _));exact BK141.out) hb);have n2_:=Aside0.mk (Kept.below (S:=(fun k_=>P4_ k_)) (by repeat (first|(with_reducible first|exact HK.out|apply Kept.alloc|apply Kept.drewN|apply Kept.drew|refine Kept.setCell ?_ (.inr GW141.out) _)|exact HK.out)) hb);have n3_:=Aside0.mk (below_step (by repeat (first|(with_reducible first|exact HB.out|apply below_alloc|apply pw_below_drewN|apply below_drew1|refine below_set ?_ GE141.out)|exact HB.out)) hb);have n4_:=Aside0.mk (hbox);have n5_:=Aside0.mk ((by rw [hg];exact (by first|exact HK.out.1|exact (show Kept w _ (fun k_=>P4_ k_) from by repeat (first|(with_reducible first|exact HK.out|apply Kept.alloc|apply Kept.drewN|apply Kept.drew|refine Kept.setCell ?_ (.inr GW141.out) _)|exact HK.out)).1) : w.heap.size ≤ gb143));have n6_:=Aside0.mk ((by rw [hg];exact (below_size (by repeat (first|(with_reducible first|exact HB.out|apply below_alloc|apply pw_below_drewN|apply below_drew1|refine below_set ?_ GE141.out)|exact HB.out))) : w0.heap.size ≤ gb143));have n7_:=Aside0.mk ((by rw [hg];exact Nat.ne_of_lt (blk_lt (g:=gb141) (o:=.cells #[.slice (some ad142) l0_0.length c0_0,.int .i64 a0_1] 59 (0,0)) (by (with_reducible repeat (first|refine blk_drewN ?_ _|refine blk_drew ?_|refine blk_alloc ?_ _));exact BK141.out)) : gb141 ≠ gb143));have n8_:=Aside0.mk ((by rw [hg];exact Nat.ne_of_gt (blk_lt (g:=gb141) (o:=.cells #[.slice (some ad142) l0_0.length c0_0,.int .i64 a0_1] 59 (0,0)) (by (with_reducible repeat (first|refine blk_drewN ?_ _|refine blk_drew ?_|refine blk_alloc ?_ _));exact BK141.out)) : gb143 ≠ gb141));clear HO_4;clear BK141;clear HK;clear HB;have HO_4:=n0_;have BK141:=n1_;have HK:=n2_;have HB:=n3_;have BK143:=n4_;have GW143:=n5_;have GE143:=n6_;have NB141_143:=n7_;have NB143_141:=n8_;clear n0_ n1_ n2_ n3_ n4_ n5_ n6_ n7_ n8_;clear hb hbox hg;have hnb13:=NB143_141.out;have hnc13:=NB141_143.out;have hcz14_0 : w12.cell? ⟨gb143,0,none⟩ = some (.int .i64 0):=(blk_cell BK143.out 0).trans rfl;have hcz14_1 : w12.cell? ⟨gb143,1,none⟩ = some (.int .i64 0):=(blk_cell BK143.out 1).trans rfl;have hcz14_2 : w12.cell? ⟨gb143,2,none⟩ = some (.int .i64 0):=(blk_cell BK143.out 2).trans rfl;have hfz14_0:=blk_frozen BK143.out 0;have hfz14_1:=blk_frozen BK143.out 1;have hfz14_2:=blk_frozen BK143.out 2))
        (try simp only [Act.put,List.setIfInBounds_toArray,List.set_cons_zero,List.set_cons_succ])
        go_cut [38] (fun v38 wc=>∃ (kq : Nat) (x38_9 : Bool),v38 = .bool x38_9 ∧ Aside0 (spec_l2close.j2 kq l1 a2 a3 x4_2 x10_2 x11_2 x38_9 l0_0 a0_1 ((rd_T85 l0_0 x11_2).f0) ((rd_T85 l0_0 x11_2).f1) ((rd_T85 l0_0 x11_2).f2) = some r) ∧ Aside0 (kq ≤ k2) ∧ Aside0 (Kd.R Kd.bool 4 wc w0.heap.size (fun k_=>(P4_ k_ ∨ w.heap.size ≤ k_)) u9000_ x4_2) ∧ Aside0 (wc.heap[gb141]? = some (.cells #[(.slice (some ad142) l0_0.length c0_0),.int .i64 a0_1] 59 (0,0))) ∧ Aside0 (wc.heap[gb143]? = some (.cells #[.int .i64 ((rd_T85 l0_0 x11_2).f0),.int .i64 ((rd_T85 l0_0 x11_2).f1),.int .i64 ((rd_T85 l0_0 x11_2).f2)] 85 (0,0))) ∧ Aside0 (Kept w wc (fun k_=>P4_ k_)) ∧ Aside0 (Below w0.heap.size w0 wc))
        case first =>
         have H:=HC10.out
         clear HC10
         by_cases c15 : 0 ≤ ((rd_T85 l0_0 x11_2).f0)
         ·rw [if_pos c15] at H
          have c15b0 : decide (0 ≤ ((rd_T85 l0_0 x11_2).f0)) = true:=decide_eq_true c15
          clear c15
          (first|rw [c15b0]|(simp only [i64_w,i32_w];rw [c15b0])|skip)
          by_cases c16 : ((rd_T85 l0_0 x11_2).f0) < (x4_2.length : Int)
          ·rw [if_pos c16] at H
           have c16b0 : decide (((rd_T85 l0_0 x11_2).f0) < (x4_2.length : Int)) = true:=decide_eq_true c16
           clear c16
           obtain ⟨bq17,hbq17⟩ : ∃ b_ : Bool,b_ = (rdOf false x4_2 ((rd_T85 l0_0 x11_2).f0)):=⟨_,rfl⟩
           replace H : (if (bq17 = true) then (if 0 ≤ ((rd_T85 l0_0 x11_2).f1) then (if ((rd_T85 l0_0 x11_2).f1) < (x4_2.length : Int) then (spec_l2close.j2 k2 l1 a2 a3 x4_2 x10_2 x11_2 (rdOf false x4_2 ((rd_T85 l0_0 x11_2).f1)) l0_0 a0_1 ((rd_T85 l0_0 x11_2).f0) ((rd_T85 l0_0 x11_2).f1) ((rd_T85 l0_0 x11_2).f2)) else (none)) else (none)) else (spec_l2close.j2 k2 l1 a2 a3 x4_2 x10_2 x11_2 true l0_0 a0_1 ((rd_T85 l0_0 x11_2).f0) ((rd_T85 l0_0 x11_2).f1) ((rd_T85 l0_0 x11_2).f2))) = some r:=by rw [← hbq17] at H;exact H
           have Nbq17:=Aside0.mk hbq17
           clear hbq17
           by_cases c18 : (bq17 = true)
           ·subst c18
            have H1 : (if 0 ≤ ((rd_T85 l0_0 x11_2).f1) then (if ((rd_T85 l0_0 x11_2).f1) < (x4_2.length : Int) then (spec_l2close.j2 k2 l1 a2 a3 x4_2 x10_2 x11_2 (rdOf false x4_2 ((rd_T85 l0_0 x11_2).f1)) l0_0 a0_1 ((rd_T85 l0_0 x11_2).f0) ((rd_T85 l0_0 x11_2).f1) ((rd_T85 l0_0 x11_2).f2)) else (none)) else (none)) = some r:=by rw [if_pos rfl] at H;exact H
            clear H
            have H:=H1
            clear H1
            by_cases c19 : 0 ≤ ((rd_T85 l0_0 x11_2).f1)
            ·rw [if_pos c19] at H
             have c19b0 : decide (0 ≤ ((rd_T85 l0_0 x11_2).f1)) = true:=decide_eq_true c19
             clear c19
             by_cases c20 : ((rd_T85 l0_0 x11_2).f1) < (x4_2.length : Int)
             ·rw [if_pos c20] at H
              have c20b0 : decide (((rd_T85 l0_0 x11_2).f1) < (x4_2.length : Int)) = true:=decide_eq_true c20
              clear c20
              have H':=Aside0.mk H
              clear H
              have hnb21:=NB143_141.out
              have hnc21:=NB141_143.out
              have hcz22_0 : w12.cell? ⟨gb143,0,none⟩ = some (.int .i64 0):=(blk_cell BK143.out 0).trans rfl
              have hcz22_1 : w12.cell? ⟨gb143,1,none⟩ = some (.int .i64 0):=(blk_cell BK143.out 1).trans rfl
              have hcz22_2 : w12.cell? ⟨gb143,2,none⟩ = some (.int .i64 0):=(blk_cell BK143.out 2).trans rfl
              have hfz22_0:=blk_frozen BK143.out 0
              have hfz22_1:=blk_frozen BK143.out 1
              have hfz22_2:=blk_frozen BK143.out 2
              obtain ⟨Ao23,co23,eo23⟩:=Kd.R_slice HO_4.out
              subst eo23
              have p144 : 0 ≤ (((rd_T85 l0_0 x11_2).f0) : Int):=of_decide_eq_true (by first|(with_reducible assumption)|assumption)
              have q144 : ((rd_T85 l0_0 x11_2).f0) < (x4_2.length : Int):=of_decide_eq_true (by first|(with_reducible assumption)|assumption)
              obtain ⟨ad144,e144,hx144_0⟩:=Kd.at_bool (Kd.R_reads' HO_4.out).2.2 ((rd_T85 l0_0 x11_2).f0) p144 q144
              (try rw [← Nbq17.out] at hx144_0)
              cases e144
              have hn144_0 : ad144.block ≠ gb143:=Kd.own_blk (Kd.R_ne HO_4.out BK143.out (by decide))
              have hn144_1 : ad144.block ≠ gb143:=Kd.own_blk (Kd.R_ne HO_4.out BK143.out (by decide))
              have hn144_2 : ad144.block ≠ gb143:=Kd.own_blk (Kd.R_ne HO_4.out BK143.out (by decide))
              replace hx144_0:=(cell_far (p:=⟨gb143,0,none⟩) (by first|(rw [add_block];exact hn144_0)|(show (Addr.add _ _).block ≠ _;rw [add_block];exact hn144_0)|exact hn144_0) (.int .i64 ((rd_T85 l0_0 x11_2).f0))).trans hx144_0
              replace hx144_0:=(cell_far (p:=⟨gb143,1,none⟩) (by first|(rw [add_block];exact hn144_1)|(show (Addr.add _ _).block ≠ _;rw [add_block];exact hn144_1)|exact hn144_1) (.int .i64 ((rd_T85 l0_0 x11_2).f1))).trans hx144_0
              replace hx144_0:=(cell_far (p:=⟨gb143,2,none⟩) (by first|(rw [add_block];exact hn144_2)|(show (Addr.add _ _).block ≠ _;rw [add_block];exact hn144_2)|exact hn144_2) (.int .i64 ((rd_T85 l0_0 x11_2).f2))).trans hx144_0
              clear hn144_0
              clear hn144_1
              clear hn144_2
              replace p144:=eq_true p144
              replace q144:=eq_true q144
              have p145 : 0 ≤ (((rd_T85 l0_0 x11_2).f1) : Int):=of_decide_eq_true (by first|(with_reducible assumption)|assumption)
              have q145 : ((rd_T85 l0_0 x11_2).f1) < (x4_2.length : Int):=of_decide_eq_true (by first|(with_reducible assumption)|assumption)
              obtain ⟨ad145,e145,hx145_0⟩:=Kd.at_bool (Kd.R_reads' HO_4.out).2.2 ((rd_T85 l0_0 x11_2).f1) p145 q145
              (try rw [← Nbq17.out] at hx145_0)
              obtain rfl : ad144 = ad145:=(by injection e145)
              have hn145_0 : ad144.block ≠ gb143:=Kd.own_blk (Kd.R_ne HO_4.out BK143.out (by decide))
              have hn145_1 : ad144.block ≠ gb143:=Kd.own_blk (Kd.R_ne HO_4.out BK143.out (by decide))
              have hn145_2 : ad144.block ≠ gb143:=Kd.own_blk (Kd.R_ne HO_4.out BK143.out (by decide))
              replace hx145_0:=(cell_far (p:=⟨gb143,0,none⟩) (by first|(rw [add_block];exact hn145_0)|(show (Addr.add _ _).block ≠ _;rw [add_block];exact hn145_0)|exact hn145_0) (.int .i64 ((rd_T85 l0_0 x11_2).f0))).trans hx145_0
              replace hx145_0:=(cell_far (p:=⟨gb143,1,none⟩) (by first|(rw [add_block];exact hn145_1)|(show (Addr.add _ _).block ≠ _;rw [add_block];exact hn145_1)|exact hn145_1) (.int .i64 ((rd_T85 l0_0 x11_2).f1))).trans hx145_0
              replace hx145_0:=(cell_far (p:=⟨gb143,2,none⟩) (by first|(rw [add_block];exact hn145_2)|(show (Addr.add _ _).block ≠ _;rw [add_block];exact hn145_2)|exact hn145_2) (.int .i64 ((rd_T85 l0_0 x11_2).f2))).trans hx145_0
              clear hn145_0
              clear hn145_1
              clear hn145_2
              replace p145:=eq_true p145
              replace q145:=eq_true q145
              go_wp2
              go_meet
              case rel=>exact ⟨_,(rdOf false x4_2 ((rd_T85 l0_0 x11_2).f1)),(by first|rfl|(simp;done)|(simp [*];done)),H',⟨by have:=HK1.out;have:=HK2.out;first|omega|exact Nat.le_refl _⟩,⟨by (with_reducible repeat (first|apply Kd.R_alloc|apply Kd.R_drewN|apply Kd.R_drew));exact Kd.R_mono (Kd.R_far (p:=⟨gb143,2,none⟩) (Kd.R_far (p:=⟨gb143,1,none⟩) (Kd.R_far (p:=⟨gb143,0,none⟩) (Kd.R_types HO_4.out BK143.out (by decide)) (fun _ hk=>hk.2) (.int .i64 ((rd_T85 l0_0 x11_2).f0))) (fun _ hk=>hk.2) (.int .i64 ((rd_T85 l0_0 x11_2).f1))) (fun _ hk=>hk.2) (.int .i64 ((rd_T85 l0_0 x11_2).f2))) (fun _ hk=>hk.1)⟩,⟨by (with_reducible repeat (first|refine blk_drewN ?_ _|refine blk_drew ?_|refine blk_alloc ?_ _));refine blk_far ?_ NB141_143.out _;(with_reducible repeat (first|refine blk_drewN ?_ _|refine blk_drew ?_|refine blk_alloc ?_ _));refine blk_far ?_ NB141_143.out _;(with_reducible repeat (first|refine blk_drewN ?_ _|refine blk_drew ?_|refine blk_alloc ?_ _));refine blk_far ?_ NB141_143.out _;(with_reducible repeat (first|refine blk_drewN ?_ _|refine blk_drew ?_|refine blk_alloc ?_ _));exact BK141.out⟩,⟨by (with_reducible repeat (first|refine blk_drewN ?_ _|refine blk_drew ?_|refine blk_alloc ?_ _));refine blk_put (cs:=#[.int .i64 ((rd_T85 l0_0 x11_2).f0),.int .i64 ((rd_T85 l0_0 x11_2).f1),.int .i64 0]) ?_ 2 _ rfl;(with_reducible repeat (first|refine blk_drewN ?_ _|refine blk_drew ?_|refine blk_alloc ?_ _));refine blk_put (cs:=#[.int .i64 ((rd_T85 l0_0 x11_2).f0),.int .i64 0,.int .i64 0]) ?_ 1 _ rfl;(with_reducible repeat (first|refine blk_drewN ?_ _|refine blk_drew ?_|refine blk_alloc ?_ _));refine blk_put (cs:=#[.int .i64 0,.int .i64 0,.int .i64 0]) ?_ 0 _ rfl;(with_reducible repeat (first|refine blk_drewN ?_ _|refine blk_drew ?_|refine blk_alloc ?_ _));exact BK143.out⟩,⟨by repeat (first|(with_reducible first|exact HK.out|apply Kept.alloc|apply Kept.drewN|apply Kept.drew|refine Kept.setCell ?_ (.inr GW141.out) _|refine Kept.setCell ?_ (.inr GW143.out) _)|exact HK.out)⟩,⟨by repeat (first|(with_reducible first|exact HB.out|apply below_alloc|apply pw_below_drewN|apply below_drew1|refine below_set ?_ GE141.out|refine below_set ?_ GE143.out)|exact HB.out)⟩⟩
             ·rw [if_neg c20] at H
              exact absurd H (by simp)
            ·rw [if_neg c19] at H
             exact absurd H (by simp)
           ·replace c18:=Bool.eq_false_iff.mpr c18
            subst c18
            have H1 : (spec_l2close.j2 k2 l1 a2 a3 x4_2 x10_2 x11_2 true l0_0 a0_1 ((rd_T85 l0_0 x11_2).f0) ((rd_T85 l0_0 x11_2).f1) ((rd_T85 l0_0 x11_2).f2)) = some r:=by rw [if_neg (show ¬ (false = true) by decide)] at H;exact H
            clear H
            have H:=H1
            clear H1
            have H':=Aside0.mk H
            clear H
            have hnb24:=NB143_141.out
            have hnc24:=NB141_143.out
            have hcz25_0 : w12.cell? ⟨gb143,0,none⟩ = some (.int .i64 0):=(blk_cell BK143.out 0).trans rfl
            have hcz25_1 : w12.cell? ⟨gb143,1,none⟩ = some (.int .i64 0):=(blk_cell BK143.out 1).trans rfl
            have hcz25_2 : w12.cell? ⟨gb143,2,none⟩ = some (.int .i64 0):=(blk_cell BK143.out 2).trans rfl
            have hfz25_0:=blk_frozen BK143.out 0
            have hfz25_1:=blk_frozen BK143.out 1
            have hfz25_2:=blk_frozen BK143.out 2
            obtain ⟨Ao26,co26,eo26⟩:=Kd.R_slice HO_4.out
            subst eo26
            have p144 : 0 ≤ (((rd_T85 l0_0 x11_2).f0) : Int):=of_decide_eq_true (by first|(with_reducible assumption)|assumption)
            have q144 : ((rd_T85 l0_0 x11_2).f0) < (x4_2.length : Int):=of_decide_eq_true (by first|(with_reducible assumption)|assumption)
            obtain ⟨ad144,e144,hx144_0⟩:=Kd.at_bool (Kd.R_reads' HO_4.out).2.2 ((rd_T85 l0_0 x11_2).f0) p144 q144
            (try rw [← Nbq17.out] at hx144_0)
            cases e144
            have hn144_0 : ad144.block ≠ gb143:=Kd.own_blk (Kd.R_ne HO_4.out BK143.out (by decide))
            have hn144_1 : ad144.block ≠ gb143:=Kd.own_blk (Kd.R_ne HO_4.out BK143.out (by decide))
            have hn144_2 : ad144.block ≠ gb143:=Kd.own_blk (Kd.R_ne HO_4.out BK143.out (by decide))
            replace hx144_0:=(cell_far (p:=⟨gb143,0,none⟩) (by first|(rw [add_block];exact hn144_0)|(show (Addr.add _ _).block ≠ _;rw [add_block];exact hn144_0)|exact hn144_0) (.int .i64 ((rd_T85 l0_0 x11_2).f0))).trans hx144_0
            replace hx144_0:=(cell_far (p:=⟨gb143,1,none⟩) (by first|(rw [add_block];exact hn144_1)|(show (Addr.add _ _).block ≠ _;rw [add_block];exact hn144_1)|exact hn144_1) (.int .i64 ((rd_T85 l0_0 x11_2).f1))).trans hx144_0
            replace hx144_0:=(cell_far (p:=⟨gb143,2,none⟩) (by first|(rw [add_block];exact hn144_2)|(show (Addr.add _ _).block ≠ _;rw [add_block];exact hn144_2)|exact hn144_2) (.int .i64 ((rd_T85 l0_0 x11_2).f2))).trans hx144_0
            clear hn144_0
            clear hn144_1
            clear hn144_2
            replace p144:=eq_true p144
            replace q144:=eq_true q144
            go_wp2
            go_meet
            case rel=>exact ⟨_,(true),(by first|rfl|(simp;done)|(simp [*];done)),H',⟨by have:=HK1.out;have:=HK2.out;first|omega|exact Nat.le_refl _⟩,⟨by (with_reducible repeat (first|apply Kd.R_alloc|apply Kd.R_drewN|apply Kd.R_drew));exact Kd.R_mono (Kd.R_far (p:=⟨gb143,2,none⟩) (Kd.R_far (p:=⟨gb143,1,none⟩) (Kd.R_far (p:=⟨gb143,0,none⟩) (Kd.R_types HO_4.out BK143.out (by decide)) (fun _ hk=>hk.2) (.int .i64 ((rd_T85 l0_0 x11_2).f0))) (fun _ hk=>hk.2) (.int .i64 ((rd_T85 l0_0 x11_2).f1))) (fun _ hk=>hk.2) (.int .i64 ((rd_T85 l0_0 x11_2).f2))) (fun _ hk=>hk.1)⟩,⟨by (with_reducible repeat (first|refine blk_drewN ?_ _|refine blk_drew ?_|refine blk_alloc ?_ _));refine blk_far ?_ NB141_143.out _;(with_reducible repeat (first|refine blk_drewN ?_ _|refine blk_drew ?_|refine blk_alloc ?_ _));refine blk_far ?_ NB141_143.out _;(with_reducible repeat (first|refine blk_drewN ?_ _|refine blk_drew ?_|refine blk_alloc ?_ _));refine blk_far ?_ NB141_143.out _;(with_reducible repeat (first|refine blk_drewN ?_ _|refine blk_drew ?_|refine blk_alloc ?_ _));exact BK141.out⟩,⟨by (with_reducible repeat (first|refine blk_drewN ?_ _|refine blk_drew ?_|refine blk_alloc ?_ _));refine blk_put (cs:=#[.int .i64 ((rd_T85 l0_0 x11_2).f0),.int .i64 ((rd_T85 l0_0 x11_2).f1),.int .i64 0]) ?_ 2 _ rfl;(with_reducible repeat (first|refine blk_drewN ?_ _|refine blk_drew ?_|refine blk_alloc ?_ _));refine blk_put (cs:=#[.int .i64 ((rd_T85 l0_0 x11_2).f0),.int .i64 0,.int .i64 0]) ?_ 1 _ rfl;(with_reducible repeat (first|refine blk_drewN ?_ _|refine blk_drew ?_|refine blk_alloc ?_ _));refine blk_put (cs:=#[.int .i64 0,.int .i64 0,.int .i64 0]) ?_ 0 _ rfl;(with_reducible repeat (first|refine blk_drewN ?_ _|refine blk_drew ?_|refine blk_alloc ?_ _));exact BK143.out⟩,⟨by repeat (first|(with_reducible first|exact HK.out|apply Kept.alloc|apply Kept.drewN|apply Kept.drew|refine Kept.setCell ?_ (.inr GW141.out) _|refine Kept.setCell ?_ (.inr GW143.out) _)|exact HK.out)⟩,⟨by repeat (first|(with_reducible first|exact HB.out|apply below_alloc|apply pw_below_drewN|apply below_drew1|refine below_set ?_ GE141.out|refine below_set ?_ GE143.out)|exact HB.out)⟩⟩
          ·rw [if_neg c16] at H
           exact absurd H (by simp)
         ·rw [if_neg c15] at H
          exact absurd H (by simp)
        case rest =>
         clear HC10
         try clear c1
         try clear p1
         try clear q1
         try clear hx1
         try clear c2
         try clear p2
         try clear c5
         try clear c7
         try clear c8
         try clear c8b0
         try clear c9
         try clear c9b0
         try clear c13
         try clear p14
         try clear q14
         try clear hx14
         try clear c15
         try clear c15b0
         try clear c16
         try clear c16b0
         try clear q17
         try clear c18
         try clear c19
         try clear c19b0
         try clear c20
         try clear c20b0
         try clear c21
         try clear c24
         try clear hcz11_0
         try clear hcz11_1
         try clear hcz14_0
         try clear hcz14_1
         try clear hcz14_2
         try clear hcz22_0
         try clear hcz22_1
         try clear hcz22_2
         try clear hcz25_0
         try clear hcz25_1
         try clear hcz25_2
         try clear hfz11_0
         try clear hfz11_1
         try clear hfz14_0
         try clear hfz14_1
         try clear hfz14_2
         try clear hfz22_0
         try clear hfz22_1
         try clear hfz22_2
         try clear hfz25_0
         try clear hfz25_1
         try clear hfz25_2
         try clear hx142_0
         try clear hx142_1
         try clear hx142_2
         try clear hx144_0
         try clear hx145_0
         try clear p142
         try clear p144
         try clear p145
         try clear p2
         try clear q142
         try clear q144
         try clear q145
         obtain ⟨kq,x38_9,rfl,HA,HJ9,HO_4,BK141,BK143,HK,HB⟩:=hcut
         cases kq with
         | zero=>exact absurd HA.out (by simp [spec_l2close.j2])
         | succ kj9 =>
          have H:=HA.out
          clear HA
          simp only [spec_l2close.j2] at H
          by_cases c27 : x38_9 = true
          ·subst c27
           have H1 : (spec_l2close.l1 kj9 l1 a2 a3 x4_2 x10_2 (wrap64 (x11_2 + 1)) l0_0 a0_1) = some r:=by rw [if_pos rfl] at H;exact H
           clear H
           have H:=H1
           clear H1
           have H':=Aside0.mk H
           clear H
           go_wp2
           go_roundg kj9
           case measure=>have:=HK1.out;have:=HK2.out;have:=HJ9.out;omega
           case rel=>exact ⟨(x4_2),(x10_2),(wrap64 (x11_2 + 1)),(by first|rfl|(simp;done)|(simp [*];done)),(by first|rfl|(simp;done)|(simp [*];done)),H',⟨by have:=HK1.out;have:=HK2.out;have:=HJ9.out;omega⟩,⟨by (with_reducible repeat (first|apply Kd.R_alloc|apply Kd.R_drewN|apply Kd.R_drew));exact HO_4.out⟩,⟨by (with_reducible repeat (first|refine blk_drewN ?_ _|refine blk_drew ?_|refine blk_alloc ?_ _));exact BK141.out⟩,⟨by repeat (first|(with_reducible first|exact HK.out|apply Kept.alloc|apply Kept.drewN|apply Kept.drew|refine Kept.setCell ?_ (.inr GW141.out) _|refine Kept.setCell ?_ (.inr GW143.out) _)|exact HK.out)⟩,⟨by repeat (first|(with_reducible first|exact HB.out|apply below_alloc|apply pw_below_drewN|apply below_drew1|refine below_set ?_ GE141.out|refine below_set ?_ GE143.out)|exact HB.out)⟩⟩
          ·replace c27:=Bool.eq_false_iff.mpr c27
           subst c27
           have H1 : (if ((rd_T85 l0_0 x11_2).f2) < 0 then (if 0 ≤ ((rd_T85 l0_0 x11_2).f1) then (if ((rd_T85 l0_0 x11_2).f1) < (x4_2.length : Int) then (spec_l2close.l1 kj9 l1 a2 a3 (x4_2.set (((rd_T85 l0_0 x11_2).f1) : Int).toNat true) true (wrap64 (x11_2 + 1)) l0_0 a0_1) else (none)) else (none)) else (if 0 ≤ ((rd_T85 l0_0 x11_2).f2) then (if ((rd_T85 l0_0 x11_2).f2) < (l1.length : Int) then (if ((rd_T49 l1 ((rd_T85 l0_0 x11_2).f2)).f0) = 1 then (if a3 = 0 then (if 0 ≤ ((rd_T85 l0_0 x11_2).f1) then (if ((rd_T85 l0_0 x11_2).f1) < (x4_2.length : Int) then (spec_l2close.l1 kj9 l1 a2 a3 (x4_2.set (((rd_T85 l0_0 x11_2).f1) : Int).toNat true) true (wrap64 (x11_2 + 1)) l0_0 a0_1) else (none)) else (none)) else (if ((rd_T49 l1 ((rd_T85 l0_0 x11_2).f2)).f0) = 2 then (if a3 = (a2.size : Int) then (if 0 ≤ ((rd_T85 l0_0 x11_2).f1) then (if ((rd_T85 l0_0 x11_2).f1) < (x4_2.length : Int) then (spec_l2close.l1 kj9 l1 a2 a3 (x4_2.set (((rd_T85 l0_0 x11_2).f1) : Int).toNat true) true (wrap64 (x11_2 + 1)) l0_0 a0_1) else (none)) else (none)) else (spec_l2close.l1 kj9 l1 a2 a3 x4_2 x10_2 (wrap64 (x11_2 + 1)) l0_0 a0_1)) else (spec_l2close.l1 kj9 l1 a2 a3 x4_2 x10_2 (wrap64 (x11_2 + 1)) l0_0 a0_1))) else (if ((rd_T49 l1 ((rd_T85 l0_0 x11_2).f2)).f0) = 2 then (if a3 = (a2.size : Int) then (if 0 ≤ ((rd_T85 l0_0 x11_2).f1) then (if ((rd_T85 l0_0 x11_2).f1) < (x4_2.length : Int) then (spec_l2close.l1 kj9 l1 a2 a3 (x4_2.set (((rd_T85 l0_0 x11_2).f1) : Int).toNat true) true (wrap64 (x11_2 + 1)) l0_0 a0_1) else (none)) else (none)) else (spec_l2close.l1 kj9 l1 a2 a3 x4_2 x10_2 (wrap64 (x11_2 + 1)) l0_0 a0_1)) else (spec_l2close.l1 kj9 l1 a2 a3 x4_2 x10_2 (wrap64 (x11_2 + 1)) l0_0 a0_1))) else (none)) else (none))) = some r:=by rw [if_neg (show ¬ (false = true) by decide)] at H;exact H
           clear H
           have H:=H1
           clear H1
           by_cases c28 : ((rd_T85 l0_0 x11_2).f2) < 0
           ·rw [if_pos c28] at H
            have c28b0 : decide (((rd_T85 l0_0 x11_2).f2) < 0) = true:=decide_eq_true c28
            clear c28
            by_cases c29 : 0 ≤ ((rd_T85 l0_0 x11_2).f1)
            ·rw [if_pos c29] at H
             have c29b0 : decide (0 ≤ ((rd_T85 l0_0 x11_2).f1)) = true:=decide_eq_true c29
             clear c29
             by_cases c30 : ((rd_T85 l0_0 x11_2).f1) < (x4_2.length : Int)
             ·rw [if_pos c30] at H
              have c30b0 : decide (((rd_T85 l0_0 x11_2).f1) < (x4_2.length : Int)) = true:=decide_eq_true c30
              clear c30
              obtain ⟨y146,hy146⟩ : ∃ y_ : List Bool,y_ = (x4_2.set (((rd_T85 l0_0 x11_2).f1) : Int).toNat true):=⟨_,rfl⟩
              replace H : (spec_l2close.l1 kj9 l1 a2 a3 y146 true (wrap64 (x11_2 + 1)) l0_0 a0_1) = some r:=by first|(rw [hy146];with_reducible exact H)|(have H2_:=(Option.bind_some _ _).symm.trans H;rw [hy146];with_reducible exact H2_)|(have H2_:=(Option.bind_some _ _).symm.trans H;with_reducible exact H2_)|with_reducible exact H|(rw [hy146];exact H)|exact H
              have Ny146:=Aside0.mk hy146
              clear hy146
              have H':=Aside0.mk H
              clear H
              have hnb32:=NB143_141.out
              have hnc32:=NB141_143.out
              have hcz33_0 : wc.cell? ⟨gb143,0,none⟩ = some (.int .i64 ((rd_T85 l0_0 x11_2).f0)):=(blk_cell BK143.out 0).trans rfl
              have hcz33_1 : wc.cell? ⟨gb143,1,none⟩ = some (.int .i64 ((rd_T85 l0_0 x11_2).f1)):=(blk_cell BK143.out 1).trans rfl
              have hcz33_2 : wc.cell? ⟨gb143,2,none⟩ = some (.int .i64 ((rd_T85 l0_0 x11_2).f2)):=(blk_cell BK143.out 2).trans rfl
              have hfz33_0:=blk_frozen BK143.out 0
              have hfz33_1:=blk_frozen BK143.out 1
              have hfz33_2:=blk_frozen BK143.out 2
              have p31 : 0 ≤ (((rd_T85 l0_0 x11_2).f1) : Int):=of_decide_eq_true (by first|(with_reducible assumption)|assumption)
              have q31 : (((rd_T85 l0_0 x11_2).f1) : Int) < ((x4_2.length : Int) : Int):=of_decide_eq_true (by first|(with_reducible assumption)|assumption)
              obtain ⟨go31,co31,eo31,gb31,gl31,cl31,HG31⟩:=Kd.R_form HO_4.out (by omega)
              (first|cases eo31|(injection eo31 with ea_ en_ ec_;(first|subst ea_|(injection ea_ with ea_;subst ea_));subst ec_;clear en_))
              have GB31:=Aside0.mk gb31
              have GG31:=Aside0.mk HG31
              clear gb31 gl31 HG31
              have HMgo31:=Aside0.mk (show (P4_ go31 ∨ w.heap.size ≤ go31) from (HO_4.out.1 _ rfl))
              obtain ⟨hx31_0,hf31_0⟩:=Kd.R_celln false HO_4.out (((rd_T85 l0_0 x11_2).f1) : Int) p31 q31
              replace p31:=eq_true p31
              replace q31:=eq_true q31
              have HP34:=Kd.R_putg HO_4.out (((rd_T85 l0_0 x11_2).f1) : Int) true
              go_wp2_with (first|((with_reducible refine gate_store (t:=4) (p:=73) rfl ?_);refine store_event (t:=4) (p:=73) (v:=?vo_w35) (w1:=(wc.setCell ⟨go31,(((rd_T85 l0_0 x11_2).f1) : Int).toNat,none⟩ (.bool true))) ?hg ?ho ?hn ?hr ?_;(case ho=>rfl);(case hg=>rfl);(case hn=>rfl);(case hr=>first|(go_simp;done)|(go_simp;rfl));intro w35 hw;have hg : wc.grownBy w35 (some go31):=(by rw [hw];exact HP34.2);have hp_ : Kd.R Kd.bool 4 w35 w0.heap.size (fun k_=>(P4_ k_ ∨ w.heap.size ≤ k_)) (.slice (some ⟨go31,0,none⟩) x4_2.length co31) y146:=(by rw [hw,Ny146.out];exact HP34.1);clear HP34;have n0_:=Aside0.mk (hp_);have n1_:=Aside0.mk (blk_grown (g:=gb141) (o:=.cells #[.slice (some ad142) l0_0.length c0_0,.int .i64 a0_1] 59 (0,0)) (by (with_reducible repeat (first|refine blk_drewN ?_ _|refine blk_drew ?_|refine blk_alloc ?_ _));exact BK141.out) hg (Kd.R_ne HO_4.out BK141.out (by decide)));have n2_:=Aside0.mk (blk_grown (g:=gb143) (o:=.cells #[.int .i64 ((rd_T85 l0_0 x11_2).f0),.int .i64 ((rd_T85 l0_0 x11_2).f1),.int .i64 ((rd_T85 l0_0 x11_2).f2)] 85 (0,0)) (by (with_reducible repeat (first|refine blk_drewN ?_ _|refine blk_drew ?_|refine blk_alloc ?_ _));exact BK143.out) hg (Kd.R_ne HO_4.out BK143.out (by decide)));have n3_:=Aside0.mk ((by rw [hw];exact below_set (HB.out) GB31.out : Below w0.heap.size w0 w35));have n4_:=Aside0.mk (Kept.of_grown (S:=(fun k_=>P4_ k_)) hg (by repeat (first|(with_reducible first|exact HK.out|apply Kept.alloc|apply Kept.drewN|apply Kept.drew|refine Kept.setCell ?_ (.inr GW141.out) _|refine Kept.setCell ?_ (.inr GW143.out) _)|exact HK.out)) (fun k_ e_=>(HO_4.out.1 k_ e_)));clear HO_4;clear BK141;clear BK143;clear HB;clear HK;have HO_4:=n0_;have BK141:=n1_;have BK143:=n2_;have HB:=n3_;have HK:=n4_;clear n0_ n1_ n2_ n3_ n4_;clear hg hw hp_))
              go_roundg kj9
              case measure=>have:=HK1.out;have:=HK2.out;have:=HJ9.out;omega
              case rel=>exact ⟨(y146),(true),(wrap64 (x11_2 + 1)),(by first|rfl|(simp;done)|(simp [*];done)),(by first|rfl|(simp;done)|(simp [*];done)),H',⟨by have:=HK1.out;have:=HK2.out;have:=HJ9.out;omega⟩,⟨by (with_reducible repeat (first|apply Kd.R_alloc|apply Kd.R_drewN|apply Kd.R_drew));exact HO_4.out⟩,⟨by (with_reducible repeat (first|refine blk_drewN ?_ _|refine blk_drew ?_|refine blk_alloc ?_ _));exact BK141.out⟩,⟨by repeat (first|(with_reducible first|exact HK.out|apply Kept.alloc|apply Kept.drewN|apply Kept.drew|refine Kept.setCell ?_ (.inr GW141.out) _|refine Kept.setCell ?_ (.inr GW143.out) _)|exact HK.out)⟩,⟨by repeat (first|(with_reducible first|exact HB.out|apply below_alloc|apply pw_below_drewN|apply below_drew1|refine below_set ?_ GE141.out|refine below_set ?_ GE143.out)|exact HB.out)⟩⟩
             ·rw [if_neg c30] at H
              exact absurd H (by simp)
            ·rw [if_neg c29] at H
             exact absurd H (by simp)
           ·rw [if_neg c28] at H
            have c28b0 : decide (((rd_T85 l0_0 x11_2).f2) < 0) = false:=decide_eq_false c28
            clear c28
            by_cases c36 : 0 ≤ ((rd_T85 l0_0 x11_2).f2)
            ·rw [if_pos c36] at H
             have c36b0 : decide (0 ≤ ((rd_T85 l0_0 x11_2).f2)) = true:=decide_eq_true c36
             clear c36
             by_cases c37 : ((rd_T85 l0_0 x11_2).f2) < (l1.length : Int)
             ·rw [if_pos c37] at H
              have c37b0 : decide (((rd_T85 l0_0 x11_2).f2) < (l1.length : Int)) = true:=decide_eq_true c37
              clear c37
              by_cases c38 : ((rd_T49 l1 ((rd_T85 l0_0 x11_2).f2)).f0) = 1
              ·rw [if_pos c38] at H
               have c38b0 : (((rd_T49 l1 ((rd_T85 l0_0 x11_2).f2)).f0) == 1) = true:=beq_iff_eq.mpr c38
               have c38b1 : (((rd_T49 l1 ((rd_T85 l0_0 x11_2).f2)).f0) != 1) = false:=bne_eq_false_iff_eq.mpr c38
               clear c38
               by_cases c39 : a3 = 0
               ·rw [if_pos c39] at H
                have c39b0 : (a3 == 0) = true:=beq_iff_eq.mpr c39
                have c39b1 : (a3 != 0) = false:=bne_eq_false_iff_eq.mpr c39
                clear c39
                by_cases c40 : 0 ≤ ((rd_T85 l0_0 x11_2).f1)
                ·rw [if_pos c40] at H
                 have c40b0 : decide (0 ≤ ((rd_T85 l0_0 x11_2).f1)) = true:=decide_eq_true c40
                 clear c40
                 by_cases c41 : ((rd_T85 l0_0 x11_2).f1) < (x4_2.length : Int)
                 ·rw [if_pos c41] at H
                  have c41b0 : decide (((rd_T85 l0_0 x11_2).f1) < (x4_2.length : Int)) = true:=decide_eq_true c41
                  clear c41
                  obtain ⟨y148,hy148⟩ : ∃ y_ : List Bool,y_ = (x4_2.set (((rd_T85 l0_0 x11_2).f1) : Int).toNat true):=⟨_,rfl⟩
                  replace H : (spec_l2close.l1 kj9 l1 a2 a3 y148 true (wrap64 (x11_2 + 1)) l0_0 a0_1) = some r:=by first|(rw [hy148];with_reducible exact H)|(have H2_:=(Option.bind_some _ _).symm.trans H;rw [hy148];with_reducible exact H2_)|(have H2_:=(Option.bind_some _ _).symm.trans H;with_reducible exact H2_)|with_reducible exact H|(rw [hy148];exact H)|exact H
                  have Ny148:=Aside0.mk hy148
                  clear hy148
                  have H':=Aside0.mk H
                  clear H
                  have hnb43:=NB143_141.out
                  have hnc43:=NB141_143.out
                  have hcz44_0 : wc.cell? ⟨gb143,0,none⟩ = some (.int .i64 ((rd_T85 l0_0 x11_2).f0)):=(blk_cell BK143.out 0).trans rfl
                  have hcz44_1 : wc.cell? ⟨gb143,1,none⟩ = some (.int .i64 ((rd_T85 l0_0 x11_2).f1)):=(blk_cell BK143.out 1).trans rfl
                  have hcz44_2 : wc.cell? ⟨gb143,2,none⟩ = some (.int .i64 ((rd_T85 l0_0 x11_2).f2)):=(blk_cell BK143.out 2).trans rfl
                  have hfz44_0:=blk_frozen BK143.out 0
                  have hfz44_1:=blk_frozen BK143.out 1
                  have hfz44_2:=blk_frozen BK143.out 2
                  have p147 : 0 ≤ (((rd_T85 l0_0 x11_2).f2) : Int):=of_decide_eq_true (by first|(with_reducible assumption)|assumption)
                  have q147 : ((rd_T85 l0_0 x11_2).f2) < (l1.length : Int):=of_decide_eq_true (by first|(with_reducible assumption)|assumption)
                  obtain ⟨ad147,A147_3,c147_3,e147,hx147_0,hx147_1,hx147_2,hx147_3,hl147_3,hi147_3⟩:=at_T49 (Kd.C_kept_now HR1.out HK.out) ((rd_T85 l0_0 x11_2).f2) p147 q147
                  cases e147
                  have HR147_3:=Aside0.mk hi147_3
                  have HC147_3:=Aside0.mk hl147_3
                  clear hi147_3 hl147_3
                  replace p147:=eq_true p147
                  replace q147:=eq_true q147
                  have p42 : 0 ≤ (((rd_T85 l0_0 x11_2).f1) : Int):=of_decide_eq_true (by first|(with_reducible assumption)|assumption)
                  have q42 : (((rd_T85 l0_0 x11_2).f1) : Int) < ((x4_2.length : Int) : Int):=of_decide_eq_true (by first|(with_reducible assumption)|assumption)
                  obtain ⟨go42,co42,eo42,gb42,gl42,cl42,HG42⟩:=Kd.R_form HO_4.out (by omega)
                  (first|cases eo42|(injection eo42 with ea_ en_ ec_;(first|subst ea_|(injection ea_ with ea_;subst ea_));subst ec_;clear en_))
                  have GB42:=Aside0.mk gb42
                  have GG42:=Aside0.mk HG42
                  clear gb42 gl42 HG42
                  have HMgo42:=Aside0.mk (show (P4_ go42 ∨ w.heap.size ≤ go42) from (HO_4.out.1 _ rfl))
                  obtain ⟨hx42_0,hf42_0⟩:=Kd.R_celln false HO_4.out (((rd_T85 l0_0 x11_2).f1) : Int) p42 q42
                  replace p42:=eq_true p42
                  replace q42:=eq_true q42
                  have HP45:=Kd.R_putg HO_4.out (((rd_T85 l0_0 x11_2).f1) : Int) true
                  go_wp2_with (first|((with_reducible refine gate_store (t:=4) (p:=73) rfl ?_);refine store_event (t:=4) (p:=73) (v:=?vo_w46) (w1:=(wc.setCell ⟨go42,(((rd_T85 l0_0 x11_2).f1) : Int).toNat,none⟩ (.bool true))) ?hg ?ho ?hn ?hr ?_;(case ho=>rfl);(case hg=>rfl);(case hn=>rfl);(case hr=>first|(go_simp;done)|(go_simp;rfl));intro w46 hw;have hg : wc.grownBy w46 (some go42):=(by rw [hw];exact HP45.2);have hp_ : Kd.R Kd.bool 4 w46 w0.heap.size (fun k_=>(P4_ k_ ∨ w.heap.size ≤ k_)) (.slice (some ⟨go42,0,none⟩) x4_2.length co42) y148:=(by rw [hw,Ny148.out];exact HP45.1);clear HP45;have n0_:=Aside0.mk (hp_);have n1_:=Aside0.mk (blk_grown (g:=gb141) (o:=.cells #[.slice (some ad142) l0_0.length c0_0,.int .i64 a0_1] 59 (0,0)) (by (with_reducible repeat (first|refine blk_drewN ?_ _|refine blk_drew ?_|refine blk_alloc ?_ _));exact BK141.out) hg (Kd.R_ne HO_4.out BK141.out (by decide)));have n2_:=Aside0.mk (blk_grown (g:=gb143) (o:=.cells #[.int .i64 ((rd_T85 l0_0 x11_2).f0),.int .i64 ((rd_T85 l0_0 x11_2).f1),.int .i64 ((rd_T85 l0_0 x11_2).f2)] 85 (0,0)) (by (with_reducible repeat (first|refine blk_drewN ?_ _|refine blk_drew ?_|refine blk_alloc ?_ _));exact BK143.out) hg (Kd.R_ne HO_4.out BK143.out (by decide)));have n3_:=Aside0.mk ((by rw [hw];exact below_set (HB.out) GB42.out : Below w0.heap.size w0 w46));have n4_:=Aside0.mk (Kept.of_grown (S:=(fun k_=>P4_ k_)) hg (by repeat (first|(with_reducible first|exact HK.out|apply Kept.alloc|apply Kept.drewN|apply Kept.drew|refine Kept.setCell ?_ (.inr GW141.out) _|refine Kept.setCell ?_ (.inr GW143.out) _)|exact HK.out)) (fun k_ e_=>(HO_4.out.1 k_ e_)));clear HO_4;clear BK141;clear BK143;clear HB;clear HK;have HO_4:=n0_;have BK141:=n1_;have BK143:=n2_;have HB:=n3_;have HK:=n4_;clear n0_ n1_ n2_ n3_ n4_;clear hg hw hp_))
                  go_roundg kj9
                  case measure=>have:=HK1.out;have:=HK2.out;have:=HJ9.out;omega
                  case rel=>exact ⟨(y148),(true),(wrap64 (x11_2 + 1)),(by first|rfl|(simp;done)|(simp [*];done)),(by first|rfl|(simp;done)|(simp [*];done)),H',⟨by have:=HK1.out;have:=HK2.out;have:=HJ9.out;omega⟩,⟨by (with_reducible repeat (first|apply Kd.R_alloc|apply Kd.R_drewN|apply Kd.R_drew));exact HO_4.out⟩,⟨by (with_reducible repeat (first|refine blk_drewN ?_ _|refine blk_drew ?_|refine blk_alloc ?_ _));exact BK141.out⟩,⟨by repeat (first|(with_reducible first|exact HK.out|apply Kept.alloc|apply Kept.drewN|apply Kept.drew|refine Kept.setCell ?_ (.inr GW141.out) _|refine Kept.setCell ?_ (.inr GW143.out) _)|exact HK.out)⟩,⟨by repeat (first|(with_reducible first|exact HB.out|apply below_alloc|apply pw_below_drewN|apply below_drew1|refine below_set ?_ GE141.out|refine below_set ?_ GE143.out)|exact HB.out)⟩⟩
                 ·rw [if_neg c41] at H
                  exact absurd H (by simp)
                ·rw [if_neg c40] at H
                 exact absurd H (by simp)
               ·rw [if_neg c39] at H
                have c39b0 : (a3 == 0) = false:=beq_eq_false_iff_ne.mpr c39
                have c39b1 : (a3 != 0) = true:=bne_iff_ne.mpr c39
                by_cases c47 : ((rd_T49 l1 ((rd_T85 l0_0 x11_2).f2)).f0) = 2
                ·rw [if_pos c47] at H
                 have c47b0 : (((rd_T49 l1 ((rd_T85 l0_0 x11_2).f2)).f0) == 2) = true:=beq_iff_eq.mpr c47
                 have c47b1 : (((rd_T49 l1 ((rd_T85 l0_0 x11_2).f2)).f0) != 2) = false:=bne_eq_false_iff_eq.mpr c47
                 clear c47
                 by_cases c48 : a3 = (a2.size : Int)
                 ·rw [if_pos c48] at H
                  have c48b0 : (a3 == (a2.size : Int)) = true:=beq_iff_eq.mpr c48
                  have c48b1 : (a3 != (a2.size : Int)) = false:=bne_eq_false_iff_eq.mpr c48
                  clear c48
                  by_cases c49 : 0 ≤ ((rd_T85 l0_0 x11_2).f1)
                  ·rw [if_pos c49] at H
                   have c49b0 : decide (0 ≤ ((rd_T85 l0_0 x11_2).f1)) = true:=decide_eq_true c49
                   clear c49
                   by_cases c50 : ((rd_T85 l0_0 x11_2).f1) < (x4_2.length : Int)
                   ·rw [if_pos c50] at H
                    have c50b0 : decide (((rd_T85 l0_0 x11_2).f1) < (x4_2.length : Int)) = true:=decide_eq_true c50
                    clear c50
                    obtain ⟨y150,hy150⟩ : ∃ y_ : List Bool,y_ = (x4_2.set (((rd_T85 l0_0 x11_2).f1) : Int).toNat true):=⟨_,rfl⟩
                    replace H : (spec_l2close.l1 kj9 l1 a2 a3 y150 true (wrap64 (x11_2 + 1)) l0_0 a0_1) = some r:=by first|(rw [hy150];with_reducible exact H)|(have H2_:=(Option.bind_some _ _).symm.trans H;rw [hy150];with_reducible exact H2_)|(have H2_:=(Option.bind_some _ _).symm.trans H;with_reducible exact H2_)|with_reducible exact H|(rw [hy150];exact H)|exact H
                    have Ny150:=Aside0.mk hy150
                    clear hy150
                    have H':=Aside0.mk H
                    clear H
                    have hnb52:=NB143_141.out
                    have hnc52:=NB141_143.out
                    have hcz53_0 : wc.cell? ⟨gb143,0,none⟩ = some (.int .i64 ((rd_T85 l0_0 x11_2).f0)):=(blk_cell BK143.out 0).trans rfl
                    have hcz53_1 : wc.cell? ⟨gb143,1,none⟩ = some (.int .i64 ((rd_T85 l0_0 x11_2).f1)):=(blk_cell BK143.out 1).trans rfl
                    have hcz53_2 : wc.cell? ⟨gb143,2,none⟩ = some (.int .i64 ((rd_T85 l0_0 x11_2).f2)):=(blk_cell BK143.out 2).trans rfl
                    have hfz53_0:=blk_frozen BK143.out 0
                    have hfz53_1:=blk_frozen BK143.out 1
                    have hfz53_2:=blk_frozen BK143.out 2
                    have p147 : 0 ≤ (((rd_T85 l0_0 x11_2).f2) : Int):=of_decide_eq_true (by first|(with_reducible assumption)|assumption)
                    have q147 : ((rd_T85 l0_0 x11_2).f2) < (l1.length : Int):=of_decide_eq_true (by first|(with_reducible assumption)|assumption)
                    obtain ⟨ad147,A147_3,c147_3,e147,hx147_0,hx147_1,hx147_2,hx147_3,hl147_3,hi147_3⟩:=at_T49 (Kd.C_kept_now HR1.out HK.out) ((rd_T85 l0_0 x11_2).f2) p147 q147
                    cases e147
                    have HR147_3:=Aside0.mk hi147_3
                    have HC147_3:=Aside0.mk hl147_3
                    clear hi147_3 hl147_3
                    replace p147:=eq_true p147
                    replace q147:=eq_true q147
                    have p149 : 0 ≤ (((rd_T85 l0_0 x11_2).f2) : Int):=of_decide_eq_true (by first|(with_reducible assumption)|assumption)
                    have q149 : ((rd_T85 l0_0 x11_2).f2) < (l1.length : Int):=of_decide_eq_true (by first|(with_reducible assumption)|assumption)
                    obtain ⟨ad149,A149_3,c149_3,e149,hx149_0,hx149_1,hx149_2,hx149_3,hl149_3,hi149_3⟩:=at_T49 (Kd.C_kept_now HR1.out HK.out) ((rd_T85 l0_0 x11_2).f2) p149 q149
                    obtain rfl : ad147 = ad149:=(by injection e149)
                    have HR149_3:=Aside0.mk hi149_3
                    have HC149_3:=Aside0.mk hl149_3
                    clear hi149_3 hl149_3
                    replace p149:=eq_true p149
                    replace q149:=eq_true q149
                    have ea_:=Option.some.inj (hx147_3.symm.trans hx149_3)
                    injection ea_ with ea_ en_ ec_
                    subst ea_
                    subst ec_
                    clear en_
                    have p51 : 0 ≤ (((rd_T85 l0_0 x11_2).f1) : Int):=of_decide_eq_true (by first|(with_reducible assumption)|assumption)
                    have q51 : (((rd_T85 l0_0 x11_2).f1) : Int) < ((x4_2.length : Int) : Int):=of_decide_eq_true (by first|(with_reducible assumption)|assumption)
                    obtain ⟨go51,co51,eo51,gb51,gl51,cl51,HG51⟩:=Kd.R_form HO_4.out (by omega)
                    (first|cases eo51|(injection eo51 with ea_ en_ ec_;(first|subst ea_|(injection ea_ with ea_;subst ea_));subst ec_;clear en_))
                    have GB51:=Aside0.mk gb51
                    have GG51:=Aside0.mk HG51
                    clear gb51 gl51 HG51
                    have HMgo51:=Aside0.mk (show (P4_ go51 ∨ w.heap.size ≤ go51) from (HO_4.out.1 _ rfl))
                    obtain ⟨hx51_0,hf51_0⟩:=Kd.R_celln false HO_4.out (((rd_T85 l0_0 x11_2).f1) : Int) p51 q51
                    replace p51:=eq_true p51
                    replace q51:=eq_true q51
                    have HP54:=Kd.R_putg HO_4.out (((rd_T85 l0_0 x11_2).f1) : Int) true
                    go_wp2_with (first|((with_reducible refine gate_store (t:=4) (p:=73) rfl ?_);refine store_event (t:=4) (p:=73) (v:=?vo_w55) (w1:=(wc.setCell ⟨go51,(((rd_T85 l0_0 x11_2).f1) : Int).toNat,none⟩ (.bool true))) ?hg ?ho ?hn ?hr ?_;(case ho=>rfl);(case hg=>rfl);(case hn=>rfl);(case hr=>first|(go_simp;done)|(go_simp;rfl));intro w55 hw;have hg : wc.grownBy w55 (some go51):=(by rw [hw];exact HP54.2);have hp_ : Kd.R Kd.bool 4 w55 w0.heap.size (fun k_=>(P4_ k_ ∨ w.heap.size ≤ k_)) (.slice (some ⟨go51,0,none⟩) x4_2.length co51) y150:=(by rw [hw,Ny150.out];exact HP54.1);clear HP54;have n0_:=Aside0.mk (hp_);have n1_:=Aside0.mk (blk_grown (g:=gb141) (o:=.cells #[.slice (some ad142) l0_0.length c0_0,.int .i64 a0_1] 59 (0,0)) (by (with_reducible repeat (first|refine blk_drewN ?_ _|refine blk_drew ?_|refine blk_alloc ?_ _));exact BK141.out) hg (Kd.R_ne HO_4.out BK141.out (by decide)));have n2_:=Aside0.mk (blk_grown (g:=gb143) (o:=.cells #[.int .i64 ((rd_T85 l0_0 x11_2).f0),.int .i64 ((rd_T85 l0_0 x11_2).f1),.int .i64 ((rd_T85 l0_0 x11_2).f2)] 85 (0,0)) (by (with_reducible repeat (first|refine blk_drewN ?_ _|refine blk_drew ?_|refine blk_alloc ?_ _));exact BK143.out) hg (Kd.R_ne HO_4.out BK143.out (by decide)));have n3_:=Aside0.mk ((by rw [hw];exact below_set (HB.out) GB51.out : Below w0.heap.size w0 w55));have n4_:=Aside0.mk (Kept.of_grown (S:=(fun k_=>P4_ k_)) hg (by repeat (first|(with_reducible first|exact HK.out|apply Kept.alloc|apply Kept.drewN|apply Kept.drew|refine Kept.setCell ?_ (.inr GW141.out) _|refine Kept.setCell ?_ (.inr GW143.out) _)|exact HK.out)) (fun k_ e_=>(HO_4.out.1 k_ e_)));clear HO_4;clear BK141;clear BK143;clear HB;clear HK;have HO_4:=n0_;have BK141:=n1_;have BK143:=n2_;have HB:=n3_;have HK:=n4_;clear n0_ n1_ n2_ n3_ n4_;clear hg hw hp_))
                    go_roundg kj9
                    case measure=>have:=HK1.out;have:=HK2.out;have:=HJ9.out;omega
                    case rel=>exact ⟨(y150),(true),(wrap64 (x11_2 + 1)),(by first|rfl|(simp;done)|(simp [*];done)),(by first|rfl|(simp;done)|(simp [*];done)),H',⟨by have:=HK1.out;have:=HK2.out;have:=HJ9.out;omega⟩,⟨by (with_reducible repeat (first|apply Kd.R_alloc|apply Kd.R_drewN|apply Kd.R_drew));exact HO_4.out⟩,⟨by (with_reducible repeat (first|refine blk_drewN ?_ _|refine blk_drew ?_|refine blk_alloc ?_ _));exact BK141.out⟩,⟨by repeat (first|(with_reducible first|exact HK.out|apply Kept.alloc|apply Kept.drewN|apply Kept.drew|refine Kept.setCell ?_ (.inr GW141.out) _|refine Kept.setCell ?_ (.inr GW143.out) _)|exact HK.out)⟩,⟨by repeat (first|(with_reducible first|exact HB.out|apply below_alloc|apply pw_below_drewN|apply below_drew1|refine below_set ?_ GE141.out|refine below_set ?_ GE143.out)|exact HB.out)⟩⟩
                   ·rw [if_neg c50] at H
                    exact absurd H (by simp)
                  ·rw [if_neg c49] at H
                   exact absurd H (by simp)
                 ·rw [if_neg c48] at H
                  have c48b0 : (a3 == (a2.size : Int)) = false:=beq_eq_false_iff_ne.mpr c48
                  have c48b1 : (a3 != (a2.size : Int)) = true:=bne_iff_ne.mpr c48
                  have H':=Aside0.mk H
                  clear H
                  have hnb56:=NB143_141.out
                  have hnc56:=NB141_143.out
                  have hcz57_0 : wc.cell? ⟨gb143,0,none⟩ = some (.int .i64 ((rd_T85 l0_0 x11_2).f0)):=(blk_cell BK143.out 0).trans rfl
                  have hcz57_1 : wc.cell? ⟨gb143,1,none⟩ = some (.int .i64 ((rd_T85 l0_0 x11_2).f1)):=(blk_cell BK143.out 1).trans rfl
                  have hcz57_2 : wc.cell? ⟨gb143,2,none⟩ = some (.int .i64 ((rd_T85 l0_0 x11_2).f2)):=(blk_cell BK143.out 2).trans rfl
                  have hfz57_0:=blk_frozen BK143.out 0
                  have hfz57_1:=blk_frozen BK143.out 1
                  have hfz57_2:=blk_frozen BK143.out 2
                  have p147 : 0 ≤ (((rd_T85 l0_0 x11_2).f2) : Int):=of_decide_eq_true (by first|(with_reducible assumption)|assumption)
                  have q147 : ((rd_T85 l0_0 x11_2).f2) < (l1.length : Int):=of_decide_eq_true (by first|(with_reducible assumption)|assumption)
                  obtain ⟨ad147,A147_3,c147_3,e147,hx147_0,hx147_1,hx147_2,hx147_3,hl147_3,hi147_3⟩:=at_T49 (Kd.C_kept_now HR1.out HK.out) ((rd_T85 l0_0 x11_2).f2) p147 q147
                  cases e147
                  have HR147_3:=Aside0.mk hi147_3
                  have HC147_3:=Aside0.mk hl147_3
                  clear hi147_3 hl147_3
                  replace p147:=eq_true p147
                  replace q147:=eq_true q147
                  have p149 : 0 ≤ (((rd_T85 l0_0 x11_2).f2) : Int):=of_decide_eq_true (by first|(with_reducible assumption)|assumption)
                  have q149 : ((rd_T85 l0_0 x11_2).f2) < (l1.length : Int):=of_decide_eq_true (by first|(with_reducible assumption)|assumption)
                  obtain ⟨ad149,A149_3,c149_3,e149,hx149_0,hx149_1,hx149_2,hx149_3,hl149_3,hi149_3⟩:=at_T49 (Kd.C_kept_now HR1.out HK.out) ((rd_T85 l0_0 x11_2).f2) p149 q149
                  obtain rfl : ad147 = ad149:=(by injection e149)
                  have HR149_3:=Aside0.mk hi149_3
                  have HC149_3:=Aside0.mk hl149_3
                  clear hi149_3 hl149_3
                  replace p149:=eq_true p149
                  replace q149:=eq_true q149
                  have ea_:=Option.some.inj (hx147_3.symm.trans hx149_3)
                  injection ea_ with ea_ en_ ec_
                  subst ea_
                  subst ec_
                  clear en_
                  go_wp2
                  go_roundg kj9
                  case measure=>have:=HK1.out;have:=HK2.out;have:=HJ9.out;omega
                  case rel=>exact ⟨(x4_2),(x10_2),(wrap64 (x11_2 + 1)),(by first|rfl|(simp;done)|(simp [*];done)),(by first|rfl|(simp;done)|(simp [*];done)),H',⟨by have:=HK1.out;have:=HK2.out;have:=HJ9.out;omega⟩,⟨by (with_reducible repeat (first|apply Kd.R_alloc|apply Kd.R_drewN|apply Kd.R_drew));exact HO_4.out⟩,⟨by (with_reducible repeat (first|refine blk_drewN ?_ _|refine blk_drew ?_|refine blk_alloc ?_ _));exact BK141.out⟩,⟨by repeat (first|(with_reducible first|exact HK.out|apply Kept.alloc|apply Kept.drewN|apply Kept.drew|refine Kept.setCell ?_ (.inr GW141.out) _|refine Kept.setCell ?_ (.inr GW143.out) _)|exact HK.out)⟩,⟨by repeat (first|(with_reducible first|exact HB.out|apply below_alloc|apply pw_below_drewN|apply below_drew1|refine below_set ?_ GE141.out|refine below_set ?_ GE143.out)|exact HB.out)⟩⟩
                ·rw [if_neg c47] at H
                 have c47b0 : (((rd_T49 l1 ((rd_T85 l0_0 x11_2).f2)).f0) == 2) = false:=beq_eq_false_iff_ne.mpr c47
                 have c47b1 : (((rd_T49 l1 ((rd_T85 l0_0 x11_2).f2)).f0) != 2) = true:=bne_iff_ne.mpr c47
                 have H':=Aside0.mk H
                 clear H
                 have hnb58:=NB143_141.out
                 have hnc58:=NB141_143.out
                 have hcz59_0 : wc.cell? ⟨gb143,0,none⟩ = some (.int .i64 ((rd_T85 l0_0 x11_2).f0)):=(blk_cell BK143.out 0).trans rfl
                 have hcz59_1 : wc.cell? ⟨gb143,1,none⟩ = some (.int .i64 ((rd_T85 l0_0 x11_2).f1)):=(blk_cell BK143.out 1).trans rfl
                 have hcz59_2 : wc.cell? ⟨gb143,2,none⟩ = some (.int .i64 ((rd_T85 l0_0 x11_2).f2)):=(blk_cell BK143.out 2).trans rfl
                 have hfz59_0:=blk_frozen BK143.out 0
                 have hfz59_1:=blk_frozen BK143.out 1
                 have hfz59_2:=blk_frozen BK143.out 2
                 have p147 : 0 ≤ (((rd_T85 l0_0 x11_2).f2) : Int):=of_decide_eq_true (by first|(with_reducible assumption)|assumption)
                 have q147 : ((rd_T85 l0_0 x11_2).f2) < (l1.length : Int):=of_decide_eq_true (by first|(with_reducible assumption)|assumption)
                 obtain ⟨ad147,A147_3,c147_3,e147,hx147_0,hx147_1,hx147_2,hx147_3,hl147_3,hi147_3⟩:=at_T49 (Kd.C_kept_now HR1.out HK.out) ((rd_T85 l0_0 x11_2).f2) p147 q147
                 cases e147
                 have HR147_3:=Aside0.mk hi147_3
                 have HC147_3:=Aside0.mk hl147_3
                 clear hi147_3 hl147_3
                 replace p147:=eq_true p147
                 replace q147:=eq_true q147
                 have p149 : 0 ≤ (((rd_T85 l0_0 x11_2).f2) : Int):=of_decide_eq_true (by first|(with_reducible assumption)|assumption)
                 have q149 : ((rd_T85 l0_0 x11_2).f2) < (l1.length : Int):=of_decide_eq_true (by first|(with_reducible assumption)|assumption)
                 obtain ⟨ad149,A149_3,c149_3,e149,hx149_0,hx149_1,hx149_2,hx149_3,hl149_3,hi149_3⟩:=at_T49 (Kd.C_kept_now HR1.out HK.out) ((rd_T85 l0_0 x11_2).f2) p149 q149
                 obtain rfl : ad147 = ad149:=(by injection e149)
                 have HR149_3:=Aside0.mk hi149_3
                 have HC149_3:=Aside0.mk hl149_3
                 clear hi149_3 hl149_3
                 replace p149:=eq_true p149
                 replace q149:=eq_true q149
                 have ea_:=Option.some.inj (hx147_3.symm.trans hx149_3)
                 injection ea_ with ea_ en_ ec_
                 subst ea_
                 subst ec_
                 clear en_
                 go_wp2
                 go_roundg kj9
                 case measure=>have:=HK1.out;have:=HK2.out;have:=HJ9.out;omega
                 case rel=>exact ⟨(x4_2),(x10_2),(wrap64 (x11_2 + 1)),(by first|rfl|(simp;done)|(simp [*];done)),(by first|rfl|(simp;done)|(simp [*];done)),H',⟨by have:=HK1.out;have:=HK2.out;have:=HJ9.out;omega⟩,⟨by (with_reducible repeat (first|apply Kd.R_alloc|apply Kd.R_drewN|apply Kd.R_drew));exact HO_4.out⟩,⟨by (with_reducible repeat (first|refine blk_drewN ?_ _|refine blk_drew ?_|refine blk_alloc ?_ _));exact BK141.out⟩,⟨by repeat (first|(with_reducible first|exact HK.out|apply Kept.alloc|apply Kept.drewN|apply Kept.drew|refine Kept.setCell ?_ (.inr GW141.out) _|refine Kept.setCell ?_ (.inr GW143.out) _)|exact HK.out)⟩,⟨by repeat (first|(with_reducible first|exact HB.out|apply below_alloc|apply pw_below_drewN|apply below_drew1|refine below_set ?_ GE141.out|refine below_set ?_ GE143.out)|exact HB.out)⟩⟩
              ·rw [if_neg c38] at H
               have c38b0 : (((rd_T49 l1 ((rd_T85 l0_0 x11_2).f2)).f0) == 1) = false:=beq_eq_false_iff_ne.mpr c38
               have c38b1 : (((rd_T49 l1 ((rd_T85 l0_0 x11_2).f2)).f0) != 1) = true:=bne_iff_ne.mpr c38
               by_cases c60 : ((rd_T49 l1 ((rd_T85 l0_0 x11_2).f2)).f0) = 2
               ·rw [if_pos c60] at H
                have c60b0 : (((rd_T49 l1 ((rd_T85 l0_0 x11_2).f2)).f0) == 2) = true:=beq_iff_eq.mpr c60
                have c60b1 : (((rd_T49 l1 ((rd_T85 l0_0 x11_2).f2)).f0) != 2) = false:=bne_eq_false_iff_eq.mpr c60
                clear c60
                by_cases c61 : a3 = (a2.size : Int)
                ·rw [if_pos c61] at H
                 have c61b0 : (a3 == (a2.size : Int)) = true:=beq_iff_eq.mpr c61
                 have c61b1 : (a3 != (a2.size : Int)) = false:=bne_eq_false_iff_eq.mpr c61
                 clear c61
                 by_cases c62 : 0 ≤ ((rd_T85 l0_0 x11_2).f1)
                 ·rw [if_pos c62] at H
                  have c62b0 : decide (0 ≤ ((rd_T85 l0_0 x11_2).f1)) = true:=decide_eq_true c62
                  clear c62
                  by_cases c63 : ((rd_T85 l0_0 x11_2).f1) < (x4_2.length : Int)
                  ·rw [if_pos c63] at H
                   have c63b0 : decide (((rd_T85 l0_0 x11_2).f1) < (x4_2.length : Int)) = true:=decide_eq_true c63
                   clear c63
                   obtain ⟨y152,hy152⟩ : ∃ y_ : List Bool,y_ = (x4_2.set (((rd_T85 l0_0 x11_2).f1) : Int).toNat true):=⟨_,rfl⟩
                   replace H : (spec_l2close.l1 kj9 l1 a2 a3 y152 true (wrap64 (x11_2 + 1)) l0_0 a0_1) = some r:=by first|(rw [hy152];with_reducible exact H)|(have H2_:=(Option.bind_some _ _).symm.trans H;rw [hy152];with_reducible exact H2_)|(have H2_:=(Option.bind_some _ _).symm.trans H;with_reducible exact H2_)|with_reducible exact H|(rw [hy152];exact H)|exact H
                   have Ny152:=Aside0.mk hy152
                   clear hy152
                   have H':=Aside0.mk H
                   clear H
                   have hnb65:=NB143_141.out
                   have hnc65:=NB141_143.out
                   have hcz66_0 : wc.cell? ⟨gb143,0,none⟩ = some (.int .i64 ((rd_T85 l0_0 x11_2).f0)):=(blk_cell BK143.out 0).trans rfl
                   have hcz66_1 : wc.cell? ⟨gb143,1,none⟩ = some (.int .i64 ((rd_T85 l0_0 x11_2).f1)):=(blk_cell BK143.out 1).trans rfl
                   have hcz66_2 : wc.cell? ⟨gb143,2,none⟩ = some (.int .i64 ((rd_T85 l0_0 x11_2).f2)):=(blk_cell BK143.out 2).trans rfl
                   have hfz66_0:=blk_frozen BK143.out 0
                   have hfz66_1:=blk_frozen BK143.out 1
                   have hfz66_2:=blk_frozen BK143.out 2
                   have p147 : 0 ≤ (((rd_T85 l0_0 x11_2).f2) : Int):=of_decide_eq_true (by first|(with_reducible assumption)|assumption)
                   have q147 : ((rd_T85 l0_0 x11_2).f2) < (l1.length : Int):=of_decide_eq_true (by first|(with_reducible assumption)|assumption)
                   obtain ⟨ad147,A147_3,c147_3,e147,hx147_0,hx147_1,hx147_2,hx147_3,hl147_3,hi147_3⟩:=at_T49 (Kd.C_kept_now HR1.out HK.out) ((rd_T85 l0_0 x11_2).f2) p147 q147
                   cases e147
                   have HR147_3:=Aside0.mk hi147_3
                   have HC147_3:=Aside0.mk hl147_3
                   clear hi147_3 hl147_3
                   replace p147:=eq_true p147
                   replace q147:=eq_true q147
                   have p151 : 0 ≤ (((rd_T85 l0_0 x11_2).f2) : Int):=of_decide_eq_true (by first|(with_reducible assumption)|assumption)
                   have q151 : ((rd_T85 l0_0 x11_2).f2) < (l1.length : Int):=of_decide_eq_true (by first|(with_reducible assumption)|assumption)
                   obtain ⟨ad151,A151_3,c151_3,e151,hx151_0,hx151_1,hx151_2,hx151_3,hl151_3,hi151_3⟩:=at_T49 (Kd.C_kept_now HR1.out HK.out) ((rd_T85 l0_0 x11_2).f2) p151 q151
                   obtain rfl : ad147 = ad151:=(by injection e151)
                   have HR151_3:=Aside0.mk hi151_3
                   have HC151_3:=Aside0.mk hl151_3
                   clear hi151_3 hl151_3
                   replace p151:=eq_true p151
                   replace q151:=eq_true q151
                   have ea_:=Option.some.inj (hx147_3.symm.trans hx151_3)
                   injection ea_ with ea_ en_ ec_
                   subst ea_
                   subst ec_
                   clear en_
                   have p64 : 0 ≤ (((rd_T85 l0_0 x11_2).f1) : Int):=of_decide_eq_true (by first|(with_reducible assumption)|assumption)
                   have q64 : (((rd_T85 l0_0 x11_2).f1) : Int) < ((x4_2.length : Int) : Int):=of_decide_eq_true (by first|(with_reducible assumption)|assumption)
                   obtain ⟨go64,co64,eo64,gb64,gl64,cl64,HG64⟩:=Kd.R_form HO_4.out (by omega)
                   (first|cases eo64|(injection eo64 with ea_ en_ ec_;(first|subst ea_|(injection ea_ with ea_;subst ea_));subst ec_;clear en_))
                   have GB64:=Aside0.mk gb64
                   have GG64:=Aside0.mk HG64
                   clear gb64 gl64 HG64
                   have HMgo64:=Aside0.mk (show (P4_ go64 ∨ w.heap.size ≤ go64) from (HO_4.out.1 _ rfl))
                   obtain ⟨hx64_0,hf64_0⟩:=Kd.R_celln false HO_4.out (((rd_T85 l0_0 x11_2).f1) : Int) p64 q64
                   replace p64:=eq_true p64
                   replace q64:=eq_true q64
                   have HP67:=Kd.R_putg HO_4.out (((rd_T85 l0_0 x11_2).f1) : Int) true
                   go_wp2_with (first|((with_reducible refine gate_store (t:=4) (p:=73) rfl ?_);refine store_event (t:=4) (p:=73) (v:=?vo_w68) (w1:=(wc.setCell ⟨go64,(((rd_T85 l0_0 x11_2).f1) : Int).toNat,none⟩ (.bool true))) ?hg ?ho ?hn ?hr ?_;(case ho=>rfl);(case hg=>rfl);(case hn=>rfl);(case hr=>first|(go_simp;done)|(go_simp;rfl));intro w68 hw;have hg : wc.grownBy w68 (some go64):=(by rw [hw];exact HP67.2);have hp_ : Kd.R Kd.bool 4 w68 w0.heap.size (fun k_=>(P4_ k_ ∨ w.heap.size ≤ k_)) (.slice (some ⟨go64,0,none⟩) x4_2.length co64) y152:=(by rw [hw,Ny152.out];exact HP67.1);clear HP67;have n0_:=Aside0.mk (hp_);have n1_:=Aside0.mk (blk_grown (g:=gb141) (o:=.cells #[.slice (some ad142) l0_0.length c0_0,.int .i64 a0_1] 59 (0,0)) (by (with_reducible repeat (first|refine blk_drewN ?_ _|refine blk_drew ?_|refine blk_alloc ?_ _));exact BK141.out) hg (Kd.R_ne HO_4.out BK141.out (by decide)));have n2_:=Aside0.mk (blk_grown (g:=gb143) (o:=.cells #[.int .i64 ((rd_T85 l0_0 x11_2).f0),.int .i64 ((rd_T85 l0_0 x11_2).f1),.int .i64 ((rd_T85 l0_0 x11_2).f2)] 85 (0,0)) (by (with_reducible repeat (first|refine blk_drewN ?_ _|refine blk_drew ?_|refine blk_alloc ?_ _));exact BK143.out) hg (Kd.R_ne HO_4.out BK143.out (by decide)));have n3_:=Aside0.mk ((by rw [hw];exact below_set (HB.out) GB64.out : Below w0.heap.size w0 w68));have n4_:=Aside0.mk (Kept.of_grown (S:=(fun k_=>P4_ k_)) hg (by repeat (first|(with_reducible first|exact HK.out|apply Kept.alloc|apply Kept.drewN|apply Kept.drew|refine Kept.setCell ?_ (.inr GW141.out) _|refine Kept.setCell ?_ (.inr GW143.out) _)|exact HK.out)) (fun k_ e_=>(HO_4.out.1 k_ e_)));clear HO_4;clear BK141;clear BK143;clear HB;clear HK;have HO_4:=n0_;have BK141:=n1_;have BK143:=n2_;have HB:=n3_;have HK:=n4_;clear n0_ n1_ n2_ n3_ n4_;clear hg hw hp_))
                   go_roundg kj9
                   case measure=>have:=HK1.out;have:=HK2.out;have:=HJ9.out;omega
                   case rel=>exact ⟨(y152),(true),(wrap64 (x11_2 + 1)),(by first|rfl|(simp;done)|(simp [*];done)),(by first|rfl|(simp;done)|(simp [*];done)),H',⟨by have:=HK1.out;have:=HK2.out;have:=HJ9.out;omega⟩,⟨by (with_reducible repeat (first|apply Kd.R_alloc|apply Kd.R_drewN|apply Kd.R_drew));exact HO_4.out⟩,⟨by (with_reducible repeat (first|refine blk_drewN ?_ _|refine blk_drew ?_|refine blk_alloc ?_ _));exact BK141.out⟩,⟨by repeat (first|(with_reducible first|exact HK.out|apply Kept.alloc|apply Kept.drewN|apply Kept.drew|refine Kept.setCell ?_ (.inr GW141.out) _|refine Kept.setCell ?_ (.inr GW143.out) _)|exact HK.out)⟩,⟨by repeat (first|(with_reducible first|exact HB.out|apply below_alloc|apply pw_below_drewN|apply below_drew1|refine below_set ?_ GE141.out|refine below_set ?_ GE143.out)|exact HB.out)⟩⟩
                  ·rw [if_neg c63] at H
                   exact absurd H (by simp)
                 ·rw [if_neg c62] at H
                  exact absurd H (by simp)
                ·rw [if_neg c61] at H
                 have c61b0 : (a3 == (a2.size : Int)) = false:=beq_eq_false_iff_ne.mpr c61
                 have c61b1 : (a3 != (a2.size : Int)) = true:=bne_iff_ne.mpr c61
                 have H':=Aside0.mk H
                 clear H
                 have hnb69:=NB143_141.out
                 have hnc69:=NB141_143.out
                 have hcz70_0 : wc.cell? ⟨gb143,0,none⟩ = some (.int .i64 ((rd_T85 l0_0 x11_2).f0)):=(blk_cell BK143.out 0).trans rfl
                 have hcz70_1 : wc.cell? ⟨gb143,1,none⟩ = some (.int .i64 ((rd_T85 l0_0 x11_2).f1)):=(blk_cell BK143.out 1).trans rfl
                 have hcz70_2 : wc.cell? ⟨gb143,2,none⟩ = some (.int .i64 ((rd_T85 l0_0 x11_2).f2)):=(blk_cell BK143.out 2).trans rfl
                 have hfz70_0:=blk_frozen BK143.out 0
                 have hfz70_1:=blk_frozen BK143.out 1
                 have hfz70_2:=blk_frozen BK143.out 2
                 have p147 : 0 ≤ (((rd_T85 l0_0 x11_2).f2) : Int):=of_decide_eq_true (by first|(with_reducible assumption)|assumption)
                 have q147 : ((rd_T85 l0_0 x11_2).f2) < (l1.length : Int):=of_decide_eq_true (by first|(with_reducible assumption)|assumption)
                 obtain ⟨ad147,A147_3,c147_3,e147,hx147_0,hx147_1,hx147_2,hx147_3,hl147_3,hi147_3⟩:=at_T49 (Kd.C_kept_now HR1.out HK.out) ((rd_T85 l0_0 x11_2).f2) p147 q147
                 cases e147
                 have HR147_3:=Aside0.mk hi147_3
                 have HC147_3:=Aside0.mk hl147_3
                 clear hi147_3 hl147_3
                 replace p147:=eq_true p147
                 replace q147:=eq_true q147
                 have p151 : 0 ≤ (((rd_T85 l0_0 x11_2).f2) : Int):=of_decide_eq_true (by first|(with_reducible assumption)|assumption)
                 have q151 : ((rd_T85 l0_0 x11_2).f2) < (l1.length : Int):=of_decide_eq_true (by first|(with_reducible assumption)|assumption)
                 obtain ⟨ad151,A151_3,c151_3,e151,hx151_0,hx151_1,hx151_2,hx151_3,hl151_3,hi151_3⟩:=at_T49 (Kd.C_kept_now HR1.out HK.out) ((rd_T85 l0_0 x11_2).f2) p151 q151
                 obtain rfl : ad147 = ad151:=(by injection e151)
                 have HR151_3:=Aside0.mk hi151_3
                 have HC151_3:=Aside0.mk hl151_3
                 clear hi151_3 hl151_3
                 replace p151:=eq_true p151
                 replace q151:=eq_true q151
                 have ea_:=Option.some.inj (hx147_3.symm.trans hx151_3)
                 injection ea_ with ea_ en_ ec_
                 subst ea_
                 subst ec_
                 clear en_
                 go_wp2
                 go_roundg kj9
                 case measure=>have:=HK1.out;have:=HK2.out;have:=HJ9.out;omega
                 case rel=>exact ⟨(x4_2),(x10_2),(wrap64 (x11_2 + 1)),(by first|rfl|(simp;done)|(simp [*];done)),(by first|rfl|(simp;done)|(simp [*];done)),H',⟨by have:=HK1.out;have:=HK2.out;have:=HJ9.out;omega⟩,⟨by (with_reducible repeat (first|apply Kd.R_alloc|apply Kd.R_drewN|apply Kd.R_drew));exact HO_4.out⟩,⟨by (with_reducible repeat (first|refine blk_drewN ?_ _|refine blk_drew ?_|refine blk_alloc ?_ _));exact BK141.out⟩,⟨by repeat (first|(with_reducible first|exact HK.out|apply Kept.alloc|apply Kept.drewN|apply Kept.drew|refine Kept.setCell ?_ (.inr GW141.out) _|refine Kept.setCell ?_ (.inr GW143.out) _)|exact HK.out)⟩,⟨by repeat (first|(with_reducible first|exact HB.out|apply below_alloc|apply pw_below_drewN|apply below_drew1|refine below_set ?_ GE141.out|refine below_set ?_ GE143.out)|exact HB.out)⟩⟩
               ·rw [if_neg c60] at H
                have c60b0 : (((rd_T49 l1 ((rd_T85 l0_0 x11_2).f2)).f0) == 2) = false:=beq_eq_false_iff_ne.mpr c60
                have c60b1 : (((rd_T49 l1 ((rd_T85 l0_0 x11_2).f2)).f0) != 2) = true:=bne_iff_ne.mpr c60
                have H':=Aside0.mk H
                clear H
                have hnb71:=NB143_141.out
                have hnc71:=NB141_143.out
                have hcz72_0 : wc.cell? ⟨gb143,0,none⟩ = some (.int .i64 ((rd_T85 l0_0 x11_2).f0)):=(blk_cell BK143.out 0).trans rfl
                have hcz72_1 : wc.cell? ⟨gb143,1,none⟩ = some (.int .i64 ((rd_T85 l0_0 x11_2).f1)):=(blk_cell BK143.out 1).trans rfl
                have hcz72_2 : wc.cell? ⟨gb143,2,none⟩ = some (.int .i64 ((rd_T85 l0_0 x11_2).f2)):=(blk_cell BK143.out 2).trans rfl
                have hfz72_0:=blk_frozen BK143.out 0
                have hfz72_1:=blk_frozen BK143.out 1
                have hfz72_2:=blk_frozen BK143.out 2
                have p147 : 0 ≤ (((rd_T85 l0_0 x11_2).f2) : Int):=of_decide_eq_true (by first|(with_reducible assumption)|assumption)
                have q147 : ((rd_T85 l0_0 x11_2).f2) < (l1.length : Int):=of_decide_eq_true (by first|(with_reducible assumption)|assumption)
                obtain ⟨ad147,A147_3,c147_3,e147,hx147_0,hx147_1,hx147_2,hx147_3,hl147_3,hi147_3⟩:=at_T49 (Kd.C_kept_now HR1.out HK.out) ((rd_T85 l0_0 x11_2).f2) p147 q147
                cases e147
                have HR147_3:=Aside0.mk hi147_3
                have HC147_3:=Aside0.mk hl147_3
                clear hi147_3 hl147_3
                replace p147:=eq_true p147
                replace q147:=eq_true q147
                have p151 : 0 ≤ (((rd_T85 l0_0 x11_2).f2) : Int):=of_decide_eq_true (by first|(with_reducible assumption)|assumption)
                have q151 : ((rd_T85 l0_0 x11_2).f2) < (l1.length : Int):=of_decide_eq_true (by first|(with_reducible assumption)|assumption)
                obtain ⟨ad151,A151_3,c151_3,e151,hx151_0,hx151_1,hx151_2,hx151_3,hl151_3,hi151_3⟩:=at_T49 (Kd.C_kept_now HR1.out HK.out) ((rd_T85 l0_0 x11_2).f2) p151 q151
                obtain rfl : ad147 = ad151:=(by injection e151)
                have HR151_3:=Aside0.mk hi151_3
                have HC151_3:=Aside0.mk hl151_3
                clear hi151_3 hl151_3
                replace p151:=eq_true p151
                replace q151:=eq_true q151
                have ea_:=Option.some.inj (hx147_3.symm.trans hx151_3)
                injection ea_ with ea_ en_ ec_
                subst ea_
                subst ec_
                clear en_
                go_wp2
                go_roundg kj9
                case measure=>have:=HK1.out;have:=HK2.out;have:=HJ9.out;omega
                case rel=>exact ⟨(x4_2),(x10_2),(wrap64 (x11_2 + 1)),(by first|rfl|(simp;done)|(simp [*];done)),(by first|rfl|(simp;done)|(simp [*];done)),H',⟨by have:=HK1.out;have:=HK2.out;have:=HJ9.out;omega⟩,⟨by (with_reducible repeat (first|apply Kd.R_alloc|apply Kd.R_drewN|apply Kd.R_drew));exact HO_4.out⟩,⟨by (with_reducible repeat (first|refine blk_drewN ?_ _|refine blk_drew ?_|refine blk_alloc ?_ _));exact BK141.out⟩,⟨by repeat (first|(with_reducible first|exact HK.out|apply Kept.alloc|apply Kept.drewN|apply Kept.drew|refine Kept.setCell ?_ (.inr GW141.out) _|refine Kept.setCell ?_ (.inr GW143.out) _)|exact HK.out)⟩,⟨by repeat (first|(with_reducible first|exact HB.out|apply below_alloc|apply pw_below_drewN|apply below_drew1|refine below_set ?_ GE141.out|refine below_set ?_ GE143.out)|exact HB.out)⟩⟩
             ·rw [if_neg c37] at H
              exact absurd H (by simp)
            ·rw [if_neg c36] at H
             exact absurd H (by simp)
       ·rw [if_neg c9] at H
        exact absurd H (by simp)
      ·rw [if_neg c8] at H
       have c8b0 : decide (x11_2 < (l0_0.length : Int)) = false:=decide_eq_false c8
       clear c8
       have H':=Aside0.mk H
       clear H
       have hcz73_0 : wr.cell? ⟨gb141,0,none⟩ = some (.slice A0_0 l0_0.length c0_0):=(blk_cell BK141.out 0).trans rfl
       have hcz73_1 : wr.cell? ⟨gb141,1,none⟩ = some (.int .i64 a0_1):=(blk_cell BK141.out 1).trans rfl
       have hfz73_0:=blk_frozen BK141.out 0
       have hfz73_1:=blk_frozen BK141.out 1
       go_wp2
       go_roundg k2
       case measure=>have:=HK1.out;have:=HK2.out;omega
       case rel=>exact ⟨(x4_2),(x10_2),(by first|rfl|(simp;done)|(simp [*];done)),H',⟨by have:=HK1.out;have:=HK2.out;omega⟩,⟨by (with_reducible repeat (first|apply Kd.R_alloc|apply Kd.R_drewN|apply Kd.R_drew));exact HO_4.out⟩,⟨by (with_reducible repeat (first|refine blk_drewN ?_ _|refine blk_drew ?_|refine blk_alloc ?_ _));exact BK141.out⟩,⟨by repeat (first|(with_reducible first|exact HK.out|apply Kept.alloc|apply Kept.drewN|apply Kept.drew|refine Kept.setCell ?_ (.inr GW141.out) _)|exact HK.out)⟩,⟨by repeat (first|(with_reducible first|exact HB.out|apply below_alloc|apply pw_below_drewN|apply below_drew1|refine below_set ?_ GE141.out)|exact HB.out)⟩⟩
   ·replace c7:=Bool.eq_false_iff.mpr c7
    subst c7
    have H1 : (some x4_1) = some r:=by rw [if_neg (show ¬ (false = true) by decide)] at H;exact H
    clear H
    have H:=H1
    clear H1
    obtain rfl:=Option.some.inj H
    go_wp2
    first|go_end0|((try simp only [Exit.inBlock,Exit.then]);refine bodyPost_ret (results_none rfl _ _ _) rfl ?_)
    exact ⟨by first|rfl|(simp [errW_none,errW_some] <;> rfl)|(simp [*,errW_none,errW_some] <;> rfl),by (with_reducible repeat (first|apply Kd.R_alloc|apply Kd.R_drewN|apply Kd.R_drew));exact HO_4.out,by repeat (first|(with_reducible first|exact HB.out|apply below_alloc|apply pw_below_drewN|apply below_drew1|refine below_set ?_ GE141.out)|exact HB.out),by repeat (first|(with_reducible first|exact HK.out|apply Kept.alloc|apply Kept.drewN|apply Kept.drew|refine Kept.setCell ?_ (.inr GW141.out) _)|exact HK.out)⟩
def spec_l2in.l0 : Nat → Int → Int → Int → Bool → ByteArray → List Int → Option (Bool)
 | 0,_,_,_,_,_,_=>none
 | k + 1,x1,x5,x154000,x154001,x154002,x154003=>if (wrap64 (x5 + 1)) < (x154002.size : Int) then (if 0 ≤ x5 then (if x5 < (x154002.size : Int) then (if x1 ≥ (bt x154002 x5) then (if 0 ≤ (wrap64 (x5 + 1)) then (if x1 ≤ (bt x154002 (wrap64 (x5 + 1))) then (some (!x154001)) else (spec_l2in.l0 k x1 (wrap64 (x5 + 2)) x154000 x154001 x154002 x154003)) else (none)) else (spec_l2in.l0 k x1 (wrap64 (x5 + 2)) x154000 x154001 x154002 x154003)) else (none)) else (none)) else (some x154001)
def spec_l2in.f (k : Nat) (a0_0 : Int) (a0_1 : Bool) (a0_2 : ByteArray) (l0_3 : List Int) (a1 : Int) : Option (Bool):=spec_l2in.l0 k a1 0 a0_0 a0_1 a0_2 l0_3
set_option maxHeartbeats 8000000 in
set_option maxRecDepth 100000 in
theorem spec_l2in.calls (k : Nat) (a0_0 : Int) (a0_1 : Bool) (a0_2 : ByteArray) (A0_3 : Option Addr) (c0_3 : Nat) (l0_3 : List Int) (a1 : Int) (r : Bool) (w : World) (hr0_3 : Kd.C (Kd.int .i64) w A0_3 l0_3.length l0_3) (hc0_3 : l0_3.length ≤ c0_3) (h : spec_l2in.f k a0_0 a0_1 a0_2 l0_3 a1 = some r) :
  Calls Tryd.prog 58 #[.agg #[.int .i64 a0_0,.bool a0_1,.string a0_2,.slice A0_3 l0_3.length c0_3],.int .u8 a1] w fun e w'=>e = .returned (.bool r) ∧ Below w.heap.size w w':=by
 have hu49:=Tryd.underlying49
 have HR0_3:=Aside0.mk hr0_3
 have HC0_3:=Aside0.mk hc0_3
 clear hr0_3 hc0_3
 have HB:=Aside0.mk (Below.refl w.heap.size w)
 have H : (spec_l2in.l0 k a1 0 a0_0 a0_1 a0_2 l0_3) = some r:=h
 clear h
 have H':=Aside0.mk H
 clear H
 go_enter Tryd.func58,Tryd.ntmps58
 go_wp2_with (first|((with_reducible refine gate_dst (N:=2) rfl ?_);refine box_event ?hg (N:=2) ?hd (cs:=#[.int .i64 a0_0,.bool a0_1,.string a0_2,.slice A0_3 l0_3.length c0_3]) (t:=49) ?hr ?_;(case hd=>rfl);(case hg=>rfl);(case hr=>first|(go_simp;done)|(go_simp;rfl));intro gb153 hg w3 hbox hb;have n0_:=Aside0.mk (below_step (by repeat (first|(with_reducible first|exact HB.out|apply below_alloc|apply pw_below_drewN|apply below_drew1)|exact HB.out)) hb);have n1_:=Aside0.mk (hbox);have n2_:=Aside0.mk ((by rw [hg];exact (below_size (by repeat (first|(with_reducible first|exact HB.out|apply below_alloc|apply pw_below_drewN|apply below_drew1)|exact HB.out))) : w.heap.size ≤ gb153));have n3_:=Aside0.mk ((by rw [hg];exact (below_size (by repeat (first|(with_reducible first|exact HB.out|apply below_alloc|apply pw_below_drewN|apply below_drew1)|exact HB.out))) : w.heap.size ≤ gb153));clear HB;have HB:=n0_;have BK153:=n1_;have GW153:=n2_;have GE153:=n3_;clear n0_ n1_ n2_ n3_;clear hb hbox hg))
 go_loopg [5] k (fun kq v5 w'=>∃ (x5_1 : Int),v5 = .int .i64 x5_1 ∧ Aside0 (spec_l2in.l0 kq a1 x5_1 a0_0 a0_1 a0_2 l0_3 = some r) ∧ Aside0 (kq ≤ k) ∧ Aside0 (w'.heap[gb153]? = some (.cells #[.int .i64 a0_0,.bool a0_1,.string a0_2,(.slice A0_3 l0_3.length c0_3)] 49 (0,0))) ∧ Aside0 (Below w.heap.size w w'))
 case atStart=>exact ⟨(0),(by first|rfl|(simp;done)|(simp [*];done)),H',⟨Nat.le_refl _⟩,⟨by (with_reducible repeat (first|refine blk_drewN ?_ _|refine blk_drew ?_|refine blk_alloc ?_ _));exact BK153.out⟩,⟨by repeat (first|(with_reducible first|exact HB.out|apply below_alloc|apply pw_below_drewN|apply below_drew1|refine below_set ?_ GE153.out)|exact HB.out)⟩⟩
 case round =>
  clear H'
  try clear p2
  obtain ⟨x5_1,rfl,HA,HK1,BK153,HB⟩:=hrel
  cases gk with
  | zero=>exact absurd HA.out (by simp [spec_l2in.l0])
  | succ k1 =>
   have H:=HA.out
   clear HA
   simp only [spec_l2in.l0] at H
   by_cases c4 : (wrap64 (x5_1 + 1)) < (a0_2.size : Int)
   ·rw [if_pos c4] at H
    have c4b0 : decide ((wrap64 (x5_1 + 1)) < (a0_2.size : Int)) = true:=decide_eq_true c4
    clear c4
    by_cases c5 : 0 ≤ x5_1
    ·rw [if_pos c5] at H
     have c5b0 : decide (0 ≤ x5_1) = true:=decide_eq_true c5
     clear c5
     by_cases c6 : x5_1 < (a0_2.size : Int)
     ·rw [if_pos c6] at H
      have c6b0 : decide (x5_1 < (a0_2.size : Int)) = true:=decide_eq_true c6
      clear c6
      by_cases c8 : a1 ≥ (bt a0_2 x5_1)
      ·rw [if_pos c8] at H
       have c8b0 : decide ((bt a0_2 x5_1) ≤ a1) = true:=decide_eq_true c8
       clear c8
       obtain ⟨ji9,hji9⟩ : ∃ j_ : Int,(wrap64 (x5_1 + 1)) = j_:=⟨_,rfl⟩
       replace H : (if 0 ≤ (ji9) then (if a1 ≤ (bt a0_2 (ji9)) then (some (!a0_1)) else (spec_l2in.l0 k1 a1 (wrap64 (x5_1 + 2)) a0_0 a0_1 a0_2 l0_3)) else (none)) = some r:=by first|(rw [hji9] at H;exact H)|(simp only [hji9] at H ⊢;exact H)
       (try rw [hji9] at c4b0)
       have hji9w : (IntKind.i64.wrap (x5_1 + 1)) = ji9:=(i64_w _).trans hji9
       by_cases c10 : 0 ≤ (ji9)
       ·rw [if_pos c10] at H
        have c10b0 : decide (0 ≤ (ji9)) = true:=decide_eq_true c10
        clear c10
        by_cases c12 : a1 ≤ (bt a0_2 (ji9))
        ·rw [if_pos c12] at H
         have c12b0 : decide (a1 ≤ (bt a0_2 (ji9))) = true:=decide_eq_true c12
         clear c12
         obtain rfl:=Option.some.inj H
         have hcz13_0 : wr.cell? ⟨gb153,0,none⟩ = some (.int .i64 a0_0):=(blk_cell BK153.out 0).trans rfl
         have hcz13_1 : wr.cell? ⟨gb153,1,none⟩ = some (.bool a0_1):=(blk_cell BK153.out 1).trans rfl
         have hcz13_2 : wr.cell? ⟨gb153,2,none⟩ = some (.string a0_2):=(blk_cell BK153.out 2).trans rfl
         have hcz13_3 : wr.cell? ⟨gb153,3,none⟩ = some (.slice A0_3 l0_3.length c0_3):=(blk_cell BK153.out 3).trans rfl
         have hfz13_0:=blk_frozen BK153.out 0
         have hfz13_1:=blk_frozen BK153.out 1
         have hfz13_2:=blk_frozen BK153.out 2
         have hfz13_3:=blk_frozen BK153.out 3
         have p7 : 0 ≤ (x5_1 : Int):=of_decide_eq_true (by first|(with_reducible assumption)|assumption)
         have q7 : x5_1 < (a0_2.size : Int):=of_decide_eq_true (by first|(with_reducible assumption)|assumption)
         have hx7:=bt_at a0_2 x5_1
         replace p7:=eq_true p7
         replace q7:=eq_true q7
         have p11 : 0 ≤ ((ji9) : Int):=of_decide_eq_true (by first|(with_reducible assumption)|assumption)
         have q11 : (ji9) < (a0_2.size : Int):=of_decide_eq_true (by first|(with_reducible assumption)|assumption)
         have hx11:=bt_at a0_2 (ji9)
         replace p11:=eq_true p11
         replace q11:=eq_true q11
         go_wp2
         go_ret
         exact ⟨by first|rfl|(simp [errW_none,errW_some] <;> rfl)|(simp only [← hji9];first|rfl|(simp [errW_none,errW_some] <;> rfl))|(simp [*,errW_none,errW_some] <;> rfl),by repeat (first|(with_reducible first|exact HB.out|apply below_alloc|apply pw_below_drewN|apply below_drew1|refine below_set ?_ GE153.out)|exact HB.out)⟩
        ·rw [if_neg c12] at H
         have c12b0 : decide (a1 ≤ (bt a0_2 (ji9))) = false:=decide_eq_false c12
         clear c12
         have H':=Aside0.mk H
         clear H
         have hcz14_0 : wr.cell? ⟨gb153,0,none⟩ = some (.int .i64 a0_0):=(blk_cell BK153.out 0).trans rfl
         have hcz14_1 : wr.cell? ⟨gb153,1,none⟩ = some (.bool a0_1):=(blk_cell BK153.out 1).trans rfl
         have hcz14_2 : wr.cell? ⟨gb153,2,none⟩ = some (.string a0_2):=(blk_cell BK153.out 2).trans rfl
         have hcz14_3 : wr.cell? ⟨gb153,3,none⟩ = some (.slice A0_3 l0_3.length c0_3):=(blk_cell BK153.out 3).trans rfl
         have hfz14_0:=blk_frozen BK153.out 0
         have hfz14_1:=blk_frozen BK153.out 1
         have hfz14_2:=blk_frozen BK153.out 2
         have hfz14_3:=blk_frozen BK153.out 3
         have p7 : 0 ≤ (x5_1 : Int):=of_decide_eq_true (by first|(with_reducible assumption)|assumption)
         have q7 : x5_1 < (a0_2.size : Int):=of_decide_eq_true (by first|(with_reducible assumption)|assumption)
         have hx7:=bt_at a0_2 x5_1
         replace p7:=eq_true p7
         replace q7:=eq_true q7
         have p11 : 0 ≤ ((ji9) : Int):=of_decide_eq_true (by first|(with_reducible assumption)|assumption)
         have q11 : (ji9) < (a0_2.size : Int):=of_decide_eq_true (by first|(with_reducible assumption)|assumption)
         have hx11:=bt_at a0_2 (ji9)
         replace p11:=eq_true p11
         replace q11:=eq_true q11
         go_wp2
         go_roundg k1
         case measure=>have:=HK1.out;omega
         case rel=>exact ⟨(wrap64 (x5_1 + 2)),(by first|rfl|(simp;done)|(simp [*];done)),H',⟨by have:=HK1.out;omega⟩,⟨by (with_reducible repeat (first|refine blk_drewN ?_ _|refine blk_drew ?_|refine blk_alloc ?_ _));exact BK153.out⟩,⟨by repeat (first|(with_reducible first|exact HB.out|apply below_alloc|apply pw_below_drewN|apply below_drew1|refine below_set ?_ GE153.out)|exact HB.out)⟩⟩
       ·rw [if_neg c10] at H
        exact absurd H (by simp)
      ·rw [if_neg c8] at H
       have c8b0 : decide ((bt a0_2 x5_1) ≤ a1) = false:=decide_eq_false c8
       clear c8
       have H':=Aside0.mk H
       clear H
       have hcz15_0 : wr.cell? ⟨gb153,0,none⟩ = some (.int .i64 a0_0):=(blk_cell BK153.out 0).trans rfl
       have hcz15_1 : wr.cell? ⟨gb153,1,none⟩ = some (.bool a0_1):=(blk_cell BK153.out 1).trans rfl
       have hcz15_2 : wr.cell? ⟨gb153,2,none⟩ = some (.string a0_2):=(blk_cell BK153.out 2).trans rfl
       have hcz15_3 : wr.cell? ⟨gb153,3,none⟩ = some (.slice A0_3 l0_3.length c0_3):=(blk_cell BK153.out 3).trans rfl
       have hfz15_0:=blk_frozen BK153.out 0
       have hfz15_1:=blk_frozen BK153.out 1
       have hfz15_2:=blk_frozen BK153.out 2
       have hfz15_3:=blk_frozen BK153.out 3
       have p7 : 0 ≤ (x5_1 : Int):=of_decide_eq_true (by first|(with_reducible assumption)|assumption)
       have q7 : x5_1 < (a0_2.size : Int):=of_decide_eq_true (by first|(with_reducible assumption)|assumption)
       have hx7:=bt_at a0_2 x5_1
       replace p7:=eq_true p7
       replace q7:=eq_true q7
       go_wp2
       go_roundg k1
       case measure=>have:=HK1.out;omega
       case rel=>exact ⟨(wrap64 (x5_1 + 2)),(by first|rfl|(simp;done)|(simp [*];done)),H',⟨by have:=HK1.out;omega⟩,⟨by (with_reducible repeat (first|refine blk_drewN ?_ _|refine blk_drew ?_|refine blk_alloc ?_ _));exact BK153.out⟩,⟨by repeat (first|(with_reducible first|exact HB.out|apply below_alloc|apply pw_below_drewN|apply below_drew1|refine below_set ?_ GE153.out)|exact HB.out)⟩⟩
     ·rw [if_neg c6] at H
      exact absurd H (by simp)
    ·rw [if_neg c5] at H
     exact absurd H (by simp)
   ·rw [if_neg c4] at H
    have c4b0 : decide ((wrap64 (x5_1 + 1)) < (a0_2.size : Int)) = false:=decide_eq_false c4
    clear c4
    obtain rfl:=Option.some.inj H
    have hcz16_0 : wr.cell? ⟨gb153,0,none⟩ = some (.int .i64 a0_0):=(blk_cell BK153.out 0).trans rfl
    have hcz16_1 : wr.cell? ⟨gb153,1,none⟩ = some (.bool a0_1):=(blk_cell BK153.out 1).trans rfl
    have hcz16_2 : wr.cell? ⟨gb153,2,none⟩ = some (.string a0_2):=(blk_cell BK153.out 2).trans rfl
    have hcz16_3 : wr.cell? ⟨gb153,3,none⟩ = some (.slice A0_3 l0_3.length c0_3):=(blk_cell BK153.out 3).trans rfl
    have hfz16_0:=blk_frozen BK153.out 0
    have hfz16_1:=blk_frozen BK153.out 1
    have hfz16_2:=blk_frozen BK153.out 2
    have hfz16_3:=blk_frozen BK153.out 3
    go_wp2
    go_ret
    exact ⟨by first|rfl|(simp [errW_none,errW_some] <;> rfl)|(simp [*,errW_none,errW_some] <;> rfl),by repeat (first|(with_reducible first|exact HB.out|apply below_alloc|apply pw_below_drewN|apply below_drew1|refine below_set ?_ GE153.out)|exact HB.out)⟩
mutual
def spec_l2ends.l0 : Nat → List (S49) → ByteArray → List Int → List Bool → Int → List (S85) → Int → Option (List Int)
 | 0,_,_,_,_,_,_,_=>none
 | k + 1,x1,x2,x9,x10,x11,x155000,x155001=>(spec_l2close.f k x155000 x155001 x1 x2 x11 x10).bind fun t159=>(if 1 < (x10.length : Int) then (if rdOf false t159 1 = true then (if x9.length < 17592186044416 then (spec_l2ends.j1 k x1 x2 (x9 ++ [x11]) t159 x11 x155000 x155001) else (none)) else (spec_l2ends.j1 k x1 x2 x9 t159 x11 x155000 x155001)) else (none))
def spec_l2ends.j1 : Nat → List (S49) → ByteArray → List Int → List Bool → Int → List (S85) → Int → Option (List Int)
 | 0,_,_,_,_,_,_,_=>none
 | k + 1,x1,x2,x9,x10,x11,x155000,x155001=>if x11 = (x2.size : Int) then (some x9) else (if 0 ≤ x155001 then (if (x155001 : Int).toNat ≤ 281474976710656 then (spec_l2ends.l1 k x1 x2 x9 x10 x11 (List.replicate (x155001 : Int).toNat false) 0 x155000 x155001) else (none)) else (none))
def spec_l2ends.l1 : Nat → List (S49) → ByteArray → List Int → List Bool → Int → List Bool → Int → List (S85) → Int → Option (List Int)
 | 0,_,_,_,_,_,_,_,_,_=>none
 | k + 1,x1,x2,x9,x10,x11,x12,x13,x155000,x155001=>if x13 < (x155000.length : Int) then (if 0 ≤ x13 then (if 0 ≤ ((rd_T85 x155000 x13).f0) then (if ((rd_T85 x155000 x13).f0) < (x10.length : Int) then (if rdOf false x10 ((rd_T85 x155000 x13).f0) = true then (if ((rd_T85 x155000 x13).f2) ≥ 0 then (if 0 ≤ ((rd_T85 x155000 x13).f2) then (if ((rd_T85 x155000 x13).f2) < (x1.length : Int) then (if ((rd_T49 x1 ((rd_T85 x155000 x13).f2)).f0) = 0 then (if 0 ≤ x11 then (if x11 < (x2.size : Int) then ((spec_l2in.f k ((rd_T49 x1 ((rd_T85 x155000 x13).f2)).f0) ((rd_T49 x1 ((rd_T85 x155000 x13).f2)).f1) ((rd_T49 x1 ((rd_T85 x155000 x13).f2)).f2) ((rd_T49 x1 ((rd_T85 x155000 x13).f2)).f3) (bt x2 x11)).bind fun t172=>(if t172 = true then (if 0 ≤ ((rd_T85 x155000 x13).f1) then (if ((rd_T85 x155000 x13).f1) < (x12.length : Int) then (spec_l2ends.l1 k x1 x2 x9 x10 x11 (x12.set (((rd_T85 x155000 x13).f1) : Int).toNat true) (wrap64 (x13 + 1)) x155000 x155001) else (none)) else (none)) else (spec_l2ends.l1 k x1 x2 x9 x10 x11 x12 (wrap64 (x13 + 1)) x155000 x155001))) else (none)) else (none)) else (spec_l2ends.l1 k x1 x2 x9 x10 x11 x12 (wrap64 (x13 + 1)) x155000 x155001)) else (none)) else (none)) else (spec_l2ends.l1 k x1 x2 x9 x10 x11 x12 (wrap64 (x13 + 1)) x155000 x155001)) else (spec_l2ends.l1 k x1 x2 x9 x10 x11 x12 (wrap64 (x13 + 1)) x155000 x155001)) else (none)) else (none)) else (none)) else (spec_l2ends.l0 k x1 x2 x9 x12 (wrap64 (x11 + 1)) x155000 x155001)
end
def spec_l2ends.f (k : Nat) (l0_0 : List (S85)) (a0_1 : Int) (l1 : List (S49)) (a2 : ByteArray) (a3 : Int) : Option (List Int):=if 0 ≤ a0_1 then (if (a0_1 : Int).toNat ≤ 281474976710656 then ((some (List.replicate (a0_1 : Int).toNat false : List Bool)).bind fun y155=>(if 0 < (y155.length : Int) then (spec_l2ends.l0 k l1 a2 ([] : List Int) (y155.set (0 : Int).toNat true) a3 l0_0 a0_1) else (none))) else (none)) else (none)
def spec_l2ends.T16 : Bool × List (List Nat × List Nat):=(true,[([],[]),([],[]),([1],[1]),([0,2],[0,2]),([3],[3]),([4],[4]),([5],[5]),([6,5],[5,6]),([7,5],[5,7]),([5,8],[5,8]),([9,5],[9]),([10],[10]),([10],[10]),([12,10],[10,12]),([11,13,10],[10,11,13]),([14,10],[10,14]),([15,10],[10,15]),([16,10],[10,16]),([10,17],[10,17]),([18,10],[18]),([19],[19]),([19],[19]),([21,19],[19,21]),([20,22,19],[19,20,22]),([23,19],[19,23]),([19],[19]),([19],[19]),([25,26,19],[19,25,26]),([24,27,19,19],[19,24,27]),([19,28],[19,28])])
def spec_l2ends.B16 : List Nat:=[0,0,2,7,15,31,63,127,255,511,1023,2047,2047,6143,16383,32767,65535,131071,262143,524287,1048575,1048575,3145727,8388607,16777215,1048575,1048575,101711871,268435455,536870911]
theorem spec_l2ends.tab16 : rtab .any (opsOf Tryd.f39 16) = spec_l2ends.T16:=by kernel_rfl
theorem spec_l2ends.bits16 : waitsOk spec_l2ends.T16.2 spec_l2ends.B16 = true:=by kernel_rfl
end Go.Proofs.YtlakdfbfkbndiaaDoor.Q
