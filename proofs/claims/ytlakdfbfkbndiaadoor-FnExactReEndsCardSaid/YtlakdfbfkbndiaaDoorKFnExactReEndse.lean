/- What the row of FnExactReEnds rests on, and the row: for every input that can be read the call returns true and the input reads as it did; condition: what the row lists of the library reads as the program lays it. -/
import Derived.Test.YtlakdfbfkbndiaaDoorKFnExactReEndsd
set_option linter.unusedVariables false
set_option linter.unusedSimpArgs false
namespace Go.Proofs.YtlakdfbfkbndiaaDoor.Q
open Go.RowKit Go.Proofs.YtlakdfbfkbndiaaDoorW.PrintWords Go.Proofs.YtlakdfbfkbndiaaDoorW.PrintLast Go.Proofs.YtlakdfbfkbndiaaDoorW.PrintMore
attribute [local go_sem] max2_int min2_int max_two min_two max_three min_three max_four min_four   -- for this text's walks alone
set_option linter.unusedVariables false
set_option linter.unusedSimpArgs false
set_option maxHeartbeats 8000000 in
set_option maxRecDepth 100000 in
theorem spec_l2ends.calls (k : Nat) (A0_0 : Option Addr) (c0_0 : Nat) (l0_0 : List (S85)) (a0_1 : Int) (A1 : Option Addr) (c1 : Nat) (l1 : List (S49)) (a2 : ByteArray) (a3 : Int) (r : List Int) (w : World) (hr0_0 : Kd.C k85 w A0_0 l0_0.length l0_0) (hc0_0 : l0_0.length ≤ c0_0) (hr1 : Kd.C k49 w A1 l1.length l1) (hc1 : l1.length ≤ c1) (h : spec_l2ends.f k l0_0 a0_1 l1 a2 a3 = some r) :
  Calls Tryd.prog 39 #[.agg #[.slice A0_0 l0_0.length c0_0,.int .i64 a0_1],.slice A1 l1.length c1,.string a2,.int .i64 a3] w fun e w'=>∃ v0_ : Value,e = .returned (v0_) ∧ Kd.R (Kd.int .i64) 3 w' w.heap.size (fun _=>True) v0_ r ∧ Below w.heap.size w w':=by
 have hu59:=Tryd.underlying59
 have hu85:=Tryd.underlying85
 have hu49:=Tryd.underlying49
 have HR0_0:=Aside0.mk hr0_0
 have HC0_0:=Aside0.mk hc0_0
 clear hr0_0 hc0_0
 have HR1:=Aside0.mk hr1
 have HC1:=Aside0.mk hc1
 clear hr1 hc1
 have HB:=Aside0.mk (Below.refl w.heap.size w)
 have H : (if 0 ≤ a0_1 then (if (a0_1 : Int).toNat ≤ 281474976710656 then ((some (List.replicate (a0_1 : Int).toNat false : List Bool)).bind fun y155=>(if 0 < (y155.length : Int) then (spec_l2ends.l0 k l1 a2 ([] : List Int) (y155.set (0 : Int).toNat true) a3 l0_0 a0_1) else (none))) else (none)) else (none)) = some r:=h
 clear h
 by_cases c5 : 0 ≤ a0_1
 ·rw [if_pos c5] at H
  have c5b0:=eq_true c5
  have c5b1 : decide (0 ≤ a0_1) = true:=decide_eq_true c5
  clear c5
  by_cases c6 : (a0_1 : Int).toNat ≤ 281474976710656
  ·rw [if_pos c6] at H
   have c6b0:=eq_true c6
   have c6b1 : decide ((a0_1 : Int).toNat ≤ 281474976710656) = true:=decide_eq_true c6
   clear c6
   obtain ⟨y155,hy155⟩ : ∃ y_ : List Bool,y_ = (List.replicate (a0_1 : Int).toNat false):=⟨_,rfl⟩
   replace H : (if 0 < (y155.length : Int) then (spec_l2ends.l0 k l1 a2 ([] : List Int) (y155.set (0 : Int).toNat true) a3 l0_0 a0_1) else (none)) = some r:=by first|(rw [hy155];with_reducible exact H)|(have H2_:=(Option.bind_some _ _).symm.trans H;rw [hy155];with_reducible exact H2_)|(have H2_:=(Option.bind_some _ _).symm.trans H;with_reducible exact H2_)|with_reducible exact H|(rw [hy155];exact H)|exact H
   have Ny155:=Aside0.mk hy155
   clear hy155
   by_cases c7 : 0 < (y155.length : Int)
   ·rw [if_pos c7] at H
    have c7b0 : decide (0 < (y155.length : Int)) = true:=decide_eq_true c7
    have c7b1 : decide (0 < y155.length) = true:=decide_eq_true (by omega)
    clear c7
    obtain ⟨y158,hy158⟩ : ∃ y_ : List Bool,y_ = (y155.set (0 : Int).toNat true):=⟨_,rfl⟩
    replace H : (spec_l2ends.l0 k l1 a2 ([] : List Int) y158 a3 l0_0 a0_1) = some r:=by first|(rw [hy158];with_reducible exact H)|(have H2_:=(Option.bind_some _ _).symm.trans H;rw [hy158];with_reducible exact H2_)|(have H2_:=(Option.bind_some _ _).symm.trans H;with_reducible exact H2_)|with_reducible exact H|(rw [hy158];exact H)|exact H
    have Ny158:=Aside0.mk hy158
    clear hy158
    have H':=Aside0.mk H
    clear H
    go_enter Tryd.func39,Tryd.ntmps39
    go_wp2_with (first|((with_reducible refine gate_dst (N:=4) rfl ?_);refine box_event ?hg (N:=4) ?hd (cs:=#[.slice A0_0 l0_0.length c0_0,.int .i64 a0_1]) (t:=59) ?hr ?_;(case hd=>rfl);(case hg=>rfl);(case hr=>first|(go_simp;done)|(go_simp;rfl));intro gb154 hg w9 hbox hb;have n0_:=Aside0.mk (below_step (by repeat (first|(with_reducible first|exact HB.out|apply below_alloc|apply pw_below_drewN|apply below_drew1)|exact HB.out)) hb);have n1_:=Aside0.mk (hbox);have n2_:=Aside0.mk ((by rw [hg];exact (below_size (by repeat (first|(with_reducible first|exact HB.out|apply below_alloc|apply pw_below_drewN|apply below_drew1)|exact HB.out))) : w.heap.size ≤ gb154));have n3_:=Aside0.mk ((by rw [hg];exact (below_size (by repeat (first|(with_reducible first|exact HB.out|apply below_alloc|apply pw_below_drewN|apply below_drew1)|exact HB.out))) : w.heap.size ≤ gb154));clear HB;have HB:=n0_;have BK154:=n1_;have GW154:=n2_;have GE154:=n3_;clear n0_ n1_ n2_ n3_;clear hb hbox hg;have hcz10_0 : w9.cell? ⟨gb154,0,none⟩ = some (.slice A0_0 l0_0.length c0_0):=(blk_cell BK154.out 0).trans rfl;have hcz10_1 : w9.cell? ⟨gb154,1,none⟩ = some (.int .i64 a0_1):=(blk_cell BK154.out 1).trans rfl;have hfz10_0:=blk_frozen BK154.out 0;have hfz10_1:=blk_frozen BK154.out 1)|((with_reducible refine gate_dst (N:=17) rfl ?_);refine Kd.R_make Kd.bool _ 4 rfl (N:=17) rfl 51 _ _ rfl a0_1 rfl rfl Tryd.underlying51 (.bool false) 1 info4 rfl (by decide) (by omega) false (ok:=fun _=>True) (okp:=fun _=>True) rfl (fun _ hk=>hk) trivial (of_decide_eq_true (by first|(with_reducible assumption)|assumption)) (Nat.le_trans (Nat.mul_le_mul_right _ (of_decide_eq_true (by first|(with_reducible assumption)|assumption) : a0_1.toNat ≤ 281474976710656)) (by omega)) (Below.refl _ _) (Nat.le_refl _) ?_;intro v156 w11 ho12 hb hg_ hnew_;clear hg_ hnew_;(first|rw [← Ny155.out] at ho12|(simp only [Int.reduceToNat] at ho12;rw [← Ny155.out] at ho12));have n0_:=Aside0.mk (Kd.R_lower ho12 (below_size (by repeat (first|(with_reducible first|exact HB.out|apply below_alloc|apply pw_below_drewN|apply below_drew1|refine below_set ?_ GE154.out)|exact HB.out))));have n1_:=Aside0.mk (blk_below (g:=gb154) (o:=.cells #[.slice A0_0 l0_0.length c0_0,.int .i64 a0_1] 59 (0,0)) (by (with_reducible repeat (first|refine blk_drewN ?_ _|refine blk_drew ?_|refine blk_alloc ?_ _));exact BK154.out) hb);have n2_:=Aside0.mk (below_step (by repeat (first|(with_reducible first|exact HB.out|apply below_alloc|apply pw_below_drewN|apply below_drew1|refine below_set ?_ GE154.out)|exact HB.out)) hb);clear BK154;clear HB;have HO157:=n0_;have BK154:=n1_;have HB:=n2_;clear n0_ n1_ n2_;clear hb ho12;have p8 : 0 ≤ (0 : Int):=(by omega);have q8 : (0 : Int) < ((y155.length : Int) : Int):=of_decide_eq_true (by first|(with_reducible assumption)|assumption);have qi8 : (0 < y155.length) = True:=eq_true (by omega);obtain ⟨go8,co8,eo8,gb8,gl8,cl8,HG8⟩:=Kd.R_form HO157.out (by omega);(first|cases eo8|(injection eo8 with ea_ en_ ec_;(first|subst ea_|(injection ea_ with ea_;subst ea_));subst ec_;clear en_));have GB8:=Aside0.mk gb8;have GG8:=Aside0.mk HG8;clear gb8 gl8 HG8;obtain ⟨hx8_0,hf8_0⟩:=Kd.R_celln false HO157.out (0 : Int) p8 q8;(try rw [show ((0 : Int)).toNat = 0 from rfl] at hx8_0);(try simp only [Nat.reduceMul,Nat.zero_mul,Nat.zero_add,Nat.reduceAdd] at hx8_0);(try rw [show ((0 : Int)).toNat = 0 from rfl] at hf8_0);(try simp only [Nat.reduceMul,Nat.zero_mul,Nat.zero_add,Nat.reduceAdd] at hf8_0);replace p8:=eq_true p8;replace q8:=eq_true q8;obtain ⟨hy13_,hz13_⟩:=Kd.R_celln false HO157.out (0 : Int) (by omega) (of_decide_eq_true (by first|(with_reducible assumption)|assumption));(try simp only [Int.reduceToNat,Int.toNat_zero,Int.toNat_ofNat,Nat.reduceMul,Nat.zero_mul,Nat.zero_add] at hy13_ hz13_);(try rw [show ((0 : Int)).toNat = 0 from rfl] at hy13_);(try rw [show ((0 : Int)).toNat = 0 from rfl] at hz13_);have HP13:=Kd.R_putg HO157.out (0 : Int) true)|((with_reducible refine gate_store (t:=4) (p:=19) rfl ?_);refine store_event (t:=4) (p:=19) (v:=?vo_w14) (w1:=(w11.setCell ⟨go8,(0 : Int).toNat,none⟩ (.bool true))) ?hg ?ho ?hn ?hr ?_;(case ho=>rfl);(case hg=>rfl);(case hn=>rfl);(case hr=>first|(go_simp;done)|(go_simp;rfl));intro w14 hw;have hg : w11.grownBy w14 (some go8):=(by rw [hw];exact HP13.2);have hp_ : Kd.R Kd.bool 4 w14 w.heap.size (fun _=>True) (.slice (some ⟨go8,0,none⟩) y155.length co8) y158:=(by rw [hw,Ny158.out];exact HP13.1);clear HP13;have n0_:=Aside0.mk (blk_grown (g:=gb154) (o:=.cells #[.slice A0_0 l0_0.length c0_0,.int .i64 a0_1] 59 (0,0)) (by (with_reducible repeat (first|refine blk_drewN ?_ _|refine blk_drew ?_|refine blk_alloc ?_ _));exact BK154.out) hg (Kd.R_ne HO157.out BK154.out (by decide)));have n1_:=Aside0.mk (hp_);have n2_:=Aside0.mk ((by rw [hw];exact below_set (HB.out) GB8.out : Below w.heap.size w w14));clear BK154;clear HO157;clear HB;have BK154:=n0_;have HO157:=n1_;have HB:=n2_;clear n0_ n1_ n2_;clear hg hw hp_))
    go_loopg [9,10,11] k (fun kq v9 v10 v11 w'=>∃ (x9_1 : List Int) (x10_1 : List Bool) (x11_1 : Int),v11 = .int .i64 x11_1 ∧ Aside0 (spec_l2ends.l0 kq l1 a2 x9_1 x10_1 x11_1 l0_0 a0_1 = some r) ∧ Aside0 (kq ≤ k) ∧ Aside0 (Kd.R (Kd.int .i64) 3 w' w.heap.size (fun _=>True) v9 x9_1) ∧ Aside0 (Kd.R Kd.bool 4 w' w.heap.size (fun _=>True) v10 x10_1) ∧ Aside0 (w'.heap[gb154]? = some (.cells #[(.slice A0_0 l0_0.length c0_0),.int .i64 a0_1] 59 (0,0))) ∧ Aside0 (Below w.heap.size w w'))
    case atStart=>exact ⟨(([] : List Int)),(y158),(a3),(by first|rfl|(simp;done)|(simp [*];done)),H',⟨Nat.le_refl _⟩,⟨by first|exact Kd.R_nil _ _ _ _ _|exact Kd.N_nil _ _ _ _ _|exact Kd.V_nil _ _ _ _ _|exact Kd.Q_nil _ _ _ _ _|exact Kd.S_nil _ _ _ _ _⟩,⟨by (with_reducible repeat (first|apply Kd.R_alloc|apply Kd.R_drewN|apply Kd.R_drew));exact HO157.out⟩,⟨by (with_reducible repeat (first|refine blk_drewN ?_ _|refine blk_drew ?_|refine blk_alloc ?_ _));exact BK154.out⟩,⟨by repeat (first|(with_reducible first|exact HB.out|apply below_alloc|apply pw_below_drewN|apply below_drew1|refine below_set ?_ GE154.out)|exact HB.out)⟩⟩
    case round =>
     clear H'
     try clear c1
     try clear p2
     try clear c3
     try clear c5
     try clear c5b0
     try clear c5b1
     try clear c6
     try clear c6b0
     try clear c6b1
     try clear c7
     try clear c7b0
     try clear c7b1
     try clear p8
     try clear q8
     try clear hx8
     try clear qi8
     try clear hf8
     try clear hcz10_0
     try clear hcz10_1
     try clear hfz10_0
     try clear hfz10_1
     try clear hx8_0
     try clear p8
     try clear q8
     obtain ⟨x9_1,x10_1,x11_1,rfl,HA,HK1,HO_9,HO_10,BK154,HB⟩:=hrel
     cases gk with
     | zero=>exact absurd HA.out (by simp [spec_l2ends.l0])
     | succ k1 =>
      have H:=HA.out
      clear HA
      simp only [spec_l2ends.l0] at H
      replace H:=Option.bind_eq_some_iff.mp H
      obtain ⟨t159,A150,H⟩:=H
      replace H : (if 1 < (x10_1.length : Int) then (if rdOf false t159 1 = true then (if x9_1.length < 17592186044416 then (spec_l2ends.j1 k1 l1 a2 (x9_1 ++ [x11_1]) t159 x11_1 l0_0 a0_1) else (none)) else (spec_l2ends.j1 k1 l1 a2 x9_1 t159 x11_1 l0_0 a0_1)) else (none)) = some r:=H
      have A15:=Aside0.mk A150
      clear A150
      by_cases c16 : 1 < (x10_1.length : Int)
      ·rw [if_pos c16] at H
       have c16b0 : decide (1 < (x10_1.length : Int)) = true:=decide_eq_true c16
       have c16b1 : decide (1 < x10_1.length) = true:=decide_eq_true (by omega)
       clear c16
       have HC17:=Aside0.mk H
       clear H
       have hcz18_0 : wr.cell? ⟨gb154,0,none⟩ = some (.slice A0_0 l0_0.length c0_0):=(blk_cell BK154.out 0).trans rfl
       have hcz18_1 : wr.cell? ⟨gb154,1,none⟩ = some (.int .i64 a0_1):=(blk_cell BK154.out 1).trans rfl
       have hfz18_0:=blk_frozen BK154.out 0
       have hfz18_1:=blk_frozen BK154.out 1
       obtain ⟨Ao19,co19,eo19⟩:=Kd.R_slice HO_10.out
       subst eo19
       go_upto_if 31 with (first|((with_reducible refine gate_callee (f:=57) rfl ?_);refine goesL_ (some 28) rfl rfl Tryd.func57 (by kernel_rfl) rfl #[.agg #[.slice A0_0 l0_0.length c0_0,.int .i64 a0_1],.slice A1 l1.length c1,.string a2,.int .i64 x11_1,.slice Ao19 x10_1.length co19] rfl (by (try simp only [List.map_toArray,List.map_cons,List.map_nil]);first|done|rfl|(simp only [List.length_drop,List.length_take];rfl)) ?_;(with_reducible refine (spec_l2close.calls k1 _ _ l0_0 a0_1 _ _ l1 a2 x11_1 (fun k_=>some k_ = (.slice Ao19 x10_1.length co19 : Value).ownBlock) (.slice Ao19 x10_1.length co19) x10_1 t159 w _ ?side1 ?side2 ?side3 ?side4 ?side5 ?side6 A15.out).mono ?_);(case side1=>repeat (first|(with_reducible first|exact HB.out|apply below_alloc|apply pw_below_drewN|apply below_drew1|refine below_set ?_ GE154.out)|exact HB.out));(case side2=>exact Kd.C_kept_came k85_heap HR0_0.out (by repeat (first|(with_reducible first|exact HB.out|apply below_alloc|apply pw_below_drewN|apply below_drew1|refine below_set ?_ GE154.out)|exact HB.out)) (fun k_ hs_=>(fun e_=>Kd.R_base HO_10.out k_ e_.symm) hs_));(case side3=>exact HC0_0.out);(case side4=>exact Kd.C_kept_came k49_heap HR1.out (by repeat (first|(with_reducible first|exact HB.out|apply below_alloc|apply pw_below_drewN|apply below_drew1|refine below_set ?_ GE154.out)|exact HB.out)) (fun k_ hs_=>(fun e_=>Kd.R_base HO_10.out k_ e_.symm) hs_));(case side5=>exact HC1.out);(case side6=>exact Kd.R_tight rfl HO_10.out);rintro e w20 ⟨rfl,hy0,hb,hkp⟩;refine ⟨_,rfl,?_⟩;have n0_:=Aside0.mk (Kd.R_mono (ok':=fun k_=>True) (Kd.R_keptB ((Kd.R_apart' HO_9.out (Kd.R_typed HO_10.out) (by decide))) hkp (fun k_ hk_ hs_=>(hk_.2) hs_)) (fun k_ hk_=>trivial));have n1_:=Aside0.mk (Kd.R_reok rfl hy0 (fun k_ e_=>HO_10.out.1 k_ e_));have n2_:=Aside0.mk (blk_kept (by (with_reducible repeat (first|refine blk_drewN ?_ _|refine blk_drew ?_|refine blk_alloc ?_ _));exact BK154.out) hkp (fun hs_=>(fun e_=>(Kd.R_ne HO_10.out BK154.out (by decide)) e_) hs_));have n3_:=Aside0.mk (hb);clear HO_9;clear HO_10;clear BK154;clear HB;have HO_9:=n0_;have HO_10:=n1_;have BK154:=n2_;have HB:=n3_;clear n0_ n1_ n2_ n3_;(try clear hb);(try clear hkp);(try clear hy0);have p160 : 0 ≤ (1 : Int):=(by omega);have q160 : 1 < (t159.length : Int):=(by have h_ : (1 : Int) < ((x10_1.length : Int) : Int):=of_decide_eq_true (by first|(with_reducible assumption)|assumption);have e_:=(Kd.R_reads' HO_10.out).1;omega);have ql160 : ((1 : Int) < ((x10_1.length : Int) : Int)) = True:=eq_true (of_decide_eq_true (by first|(with_reducible assumption)|assumption));(try have qn160 : (1 < x10_1.length) = True:=eq_true (by have h_ : (1 : Int) < ((x10_1.length : Int) : Int):=of_decide_eq_true (by first|(with_reducible assumption)|assumption);omega));obtain ⟨ad160,e160,hx160_0⟩:=Kd.at_bool (Kd.R_reads' HO_10.out).2.2 1 p160 q160;cases e160;(try simp only [show (1 : Int).toNat = 1 from rfl,Nat.reduceMul,Nat.reduceEqDiff,Go.Addr.add,↓reduceIte] at hx160_0);have qi160 : (1 < t159.length) = True:=eq_true (by omega);(try rw [show ((1 : Int)).toNat = 1 from rfl] at hx160_0);replace p160:=eq_true p160;replace q160:=eq_true q160))
       (try simp only [Act.put,List.setIfInBounds_toArray,List.set_cons_zero,List.set_cons_succ])
       go_cut [9] (fun v9 wc=>∃ (kq : Nat) (x9_16 : List Int),Aside0 (spec_l2ends.j1 kq l1 a2 x9_16 t159 x11_1 l0_0 a0_1 = some r) ∧ Aside0 (kq ≤ k1) ∧ Aside0 (Kd.R (Kd.int .i64) 3 wc w.heap.size (fun _=>True) v9 x9_16) ∧ Aside0 (Kd.R Kd.bool 4 wc w.heap.size (fun _=>True) (.slice (some ad160) x10_1.length co19) t159) ∧ Aside0 (wc.heap[gb154]? = some (.cells #[(.slice A0_0 l0_0.length c0_0),.int .i64 a0_1] 59 (0,0))) ∧ Aside0 (Below w.heap.size w wc))
       case first =>
        have H:=HC17.out
        clear HC17
        obtain ⟨bq21,hbq21⟩ : ∃ b_ : Bool,b_ = (rdOf false t159 1):=⟨_,rfl⟩
        replace H : (if bq21 = true then (if x9_1.length < 17592186044416 then (spec_l2ends.j1 k1 l1 a2 (x9_1 ++ [x11_1]) t159 x11_1 l0_0 a0_1) else (none)) else (spec_l2ends.j1 k1 l1 a2 x9_1 t159 x11_1 l0_0 a0_1)) = some r:=by rw [← hbq21] at H;exact H
        have Nbq21:=Aside0.mk hbq21
        clear hbq21
        (try rw [← Nbq21.out])
        by_cases c22 : bq21 = true
        ·subst c22
         have H1 : (if x9_1.length < 17592186044416 then (spec_l2ends.j1 k1 l1 a2 (x9_1 ++ [x11_1]) t159 x11_1 l0_0 a0_1) else (none)) = some r:=by rw [if_pos rfl] at H;exact H
         clear H
         have H:=H1
         clear H1
         by_cases c23 : x9_1.length < 17592186044416
         ·rw [if_pos c23] at H
          have LMc23:=Aside0.mk c23
          clear c23
          obtain ⟨y161,hy161⟩ : ∃ y_ : List Int,y_ = (x9_1 ++ [x11_1]):=⟨_,rfl⟩
          replace H : (spec_l2ends.j1 k1 l1 a2 y161 t159 x11_1 l0_0 a0_1) = some r:=by first|(rw [hy161];with_reducible exact H)|(have H2_:=(Option.bind_some _ _).symm.trans H;rw [hy161];with_reducible exact H2_)|(have H2_:=(Option.bind_some _ _).symm.trans H;with_reducible exact H2_)|with_reducible exact H|(rw [hy161];exact H)|exact H
          have Ny161:=Aside0.mk hy161
          clear hy161
          have H':=Aside0.mk H
          clear H
          go_wp2_with (first|((with_reducible refine gate_builtin (b:=.append) (xs:=#[.tmp 32,.tmp 34]) rfl ?_);at_builtin;refine Kd.R_append (Kd.int .i64) (w0:=w) w.heap.size rfl (.tmp 32) (.tmp 34) 31 3 (.int .i64 0) 8 rfl Tryd.underlying31 info3 rfl (by decide) (by omega) u9 x9_1 x11_1 [.int .i64 x11_1] (fun _=>True) (fun _=>False) rfl rfl ?aP (fun _ hk=>hk.elim) ?aF ?aO ?aB ?aS ?aL ?_;(case aP=>exact rfl);(case aB=>exact (by repeat (first|(with_reducible first|exact HB.out|apply below_alloc|apply pw_below_drewN|apply below_drew1|refine below_set ?_ GE154.out)|exact HB.out)));(case aF=>exact (fun _ _=>trivial));(case aO=>exact (by (with_reducible repeat (first|apply Kd.R_alloc|apply Kd.R_drewN|apply Kd.R_drew));exact HO_9.out));(case aS=>exact (below_size (by repeat (first|(with_reducible first|exact HB.out|apply below_alloc|apply pw_below_drewN|apply below_drew1|refine below_set ?_ GE154.out)|exact HB.out))));(case aL=>have:=LMc23.out;omega);intro v162 w24 ho hb hg hat;rw [← Ny161.out] at ho;have n0_:=Aside0.mk (Kd.R_over' (by (with_reducible repeat (first|apply Kd.R_alloc|apply Kd.R_drewN|apply Kd.R_drew));exact HO_10.out) (Kd.R_typed (by (with_reducible repeat (first|apply Kd.R_alloc|apply Kd.R_drewN|apply Kd.R_drew));exact HO_9.out)) (by decide) hg);have n1_:=Aside0.mk (blk_grown (g:=gb154) (o:=.cells #[.slice A0_0 l0_0.length c0_0,.int .i64 a0_1] 59 (0,0)) (by (with_reducible repeat (first|refine blk_drewN ?_ _|refine blk_drew ?_|refine blk_alloc ?_ _));exact BK154.out) hg (Kd.R_ne HO_9.out BK154.out (by decide)));have n2_:=Aside0.mk (hb);have n3_:=Aside0.mk (ho);clear HO_10;clear BK154;clear HB;clear HO_9;have HO_10:=n0_;have BK154:=n1_;have HB:=n2_;have HO163:=n3_;clear n0_ n1_ n2_ n3_;clear ho hb hg hat))
          go_meet
          case rel=>exact ⟨_,(y161),H',⟨by have:=HK1.out;first|omega|exact Nat.le_refl _⟩,⟨by (with_reducible repeat (first|apply Kd.R_alloc|apply Kd.R_drewN|apply Kd.R_drew));exact HO163.out⟩,⟨by (with_reducible repeat (first|apply Kd.R_alloc|apply Kd.R_drewN|apply Kd.R_drew));exact HO_10.out⟩,⟨by (with_reducible repeat (first|refine blk_drewN ?_ _|refine blk_drew ?_|refine blk_alloc ?_ _));exact BK154.out⟩,⟨by repeat (first|(with_reducible first|exact HB.out|apply below_alloc|apply pw_below_drewN|apply below_drew1|refine below_set ?_ GE154.out)|exact HB.out)⟩⟩
         ·rw [if_neg c23] at H
          exact absurd H (by simp)
        ·replace c22:=Bool.eq_false_iff.mpr c22
         subst c22
         have H1 : (spec_l2ends.j1 k1 l1 a2 x9_1 t159 x11_1 l0_0 a0_1) = some r:=by rw [if_neg (show ¬ (false = true) by decide)] at H;exact H
         clear H
         have H:=H1
         clear H1
         have H':=Aside0.mk H
         clear H
         go_wp2
         go_meet
         case rel=>exact ⟨_,(x9_1),H',⟨by have:=HK1.out;first|omega|exact Nat.le_refl _⟩,⟨by (with_reducible repeat (first|apply Kd.R_alloc|apply Kd.R_drewN|apply Kd.R_drew));exact HO_9.out⟩,⟨by (with_reducible repeat (first|apply Kd.R_alloc|apply Kd.R_drewN|apply Kd.R_drew));exact HO_10.out⟩,⟨by (with_reducible repeat (first|refine blk_drewN ?_ _|refine blk_drew ?_|refine blk_alloc ?_ _));exact BK154.out⟩,⟨by repeat (first|(with_reducible first|exact HB.out|apply below_alloc|apply pw_below_drewN|apply below_drew1|refine below_set ?_ GE154.out)|exact HB.out)⟩⟩
       case rest =>
        clear HC17
        try clear c1
        try clear p1
        try clear q1
        try clear hx1
        try clear qi1
        try clear c2
        try clear p2
        try clear q2
        try clear c3
        try clear c5
        try clear c5b0
        try clear c5b1
        try clear c6
        try clear c6b0
        try clear c6b1
        try clear c7
        try clear c7b0
        try clear c7b1
        try clear p8
        try clear q8
        try clear hx8
        try clear qi8
        try clear hf8
        try clear c16
        try clear c16b0
        try clear c16b1
        try clear p16
        try clear q16
        try clear hx16
        try clear qi16
        try clear q21
        try clear c22
        try clear c23
        try clear hcz10_0
        try clear hcz10_1
        try clear hcz18_0
        try clear hcz18_1
        try clear hfz10_0
        try clear hfz10_1
        try clear hfz18_0
        try clear hfz18_1
        try clear hx160_0
        try clear hx8_0
        try clear p160
        try clear p2
        try clear p8
        try clear q160
        try clear q8
        obtain ⟨kq,x9_16,HA,HJ16,HO_9,HO_10,BK154,HB⟩:=hcut
        have hl10_16:=(Kd.R_reads' HO_10.out).1
        rw [hl10_16] at HO_10
        (try simp only [hl10_16])
        (try simp only [hl10_16] at BK154)
        (try simp only [hl10_16] at HO_9)
        cases kq with
        | zero=>exact absurd HA.out (by simp [spec_l2ends.j1])
        | succ kj16 =>
         have H:=HA.out
         clear HA
         simp only [spec_l2ends.j1] at H
         by_cases c25 : x11_1 = (a2.size : Int)
         ·rw [if_pos c25] at H
          have c25b0 : (x11_1 == (a2.size : Int)) = true:=beq_iff_eq.mpr c25
          have c25b1 : (x11_1 != (a2.size : Int)) = false:=bne_eq_false_iff_eq.mpr c25
          clear c25
          obtain rfl:=Option.some.inj H
          go_wp2
          go_ret
          exact ⟨_,by first|rfl|(simp [errW_none,errW_some] <;> rfl)|(simp [*,errW_none,errW_some] <;> rfl),by (with_reducible repeat (first|apply Kd.R_alloc|apply Kd.R_drewN|apply Kd.R_drew));exact HO_9.out,by repeat (first|(with_reducible first|exact HB.out|apply below_alloc|apply pw_below_drewN|apply below_drew1|refine below_set ?_ GE154.out)|exact HB.out)⟩
         ·rw [if_neg c25] at H
          have c25b0 : (x11_1 == (a2.size : Int)) = false:=beq_eq_false_iff_ne.mpr c25
          have c25b1 : (x11_1 != (a2.size : Int)) = true:=bne_iff_ne.mpr c25
          by_cases c26 : 0 ≤ a0_1
          ·rw [if_pos c26] at H
           have c26b0:=eq_true c26
           have c26b1 : decide (0 ≤ a0_1) = true:=decide_eq_true c26
           clear c26
           by_cases c27 : (a0_1 : Int).toNat ≤ 281474976710656
           ·rw [if_pos c27] at H
            have c27b0:=eq_true c27
            have c27b1 : decide ((a0_1 : Int).toNat ≤ 281474976710656) = true:=decide_eq_true c27
            clear c27
            obtain ⟨y164,hy164⟩ : ∃ y_ : List Bool,y_ = (List.replicate (a0_1 : Int).toNat false):=⟨_,rfl⟩
            replace H : (spec_l2ends.l1 kj16 l1 a2 x9_16 t159 x11_1 y164 0 l0_0 a0_1) = some r:=by first|(rw [hy164];with_reducible exact H)|(have H2_:=(Option.bind_some _ _).symm.trans H;rw [hy164];with_reducible exact H2_)|(have H2_:=(Option.bind_some _ _).symm.trans H;with_reducible exact H2_)|with_reducible exact H|(rw [hy164];exact H)|exact H
            have Ny164:=Aside0.mk hy164
            clear hy164
            have H':=Aside0.mk H
            clear H
            have hcz28_0 : wc.cell? ⟨gb154,0,none⟩ = some (.slice A0_0 l0_0.length c0_0):=(blk_cell BK154.out 0).trans rfl
            have hcz28_1 : wc.cell? ⟨gb154,1,none⟩ = some (.int .i64 a0_1):=(blk_cell BK154.out 1).trans rfl
            have hfz28_0:=blk_frozen BK154.out 0
            have hfz28_1:=blk_frozen BK154.out 1
            go_wp2_with (first|((with_reducible refine gate_dst (N:=43) rfl ?_);refine Kd.R_make Kd.bool _ 4 rfl (N:=43) rfl 51 _ _ rfl a0_1 rfl rfl Tryd.underlying51 (.bool false) 1 info4 rfl (by decide) (by omega) false (ok:=fun _=>True) (okp:=fun _=>True) rfl (fun _ hk=>hk) trivial (of_decide_eq_true (by first|(with_reducible assumption)|assumption)) (Nat.le_trans (Nat.mul_le_mul_right _ (of_decide_eq_true (by first|(with_reducible assumption)|assumption) : a0_1.toNat ≤ 281474976710656)) (by omega)) (Below.refl _ _) (Nat.le_refl _) ?_;intro v165 w29 ho30 hb hg_ hnew_;clear hg_ hnew_;(first|rw [← Ny164.out] at ho30|(simp only [Int.reduceToNat] at ho30;rw [← Ny164.out] at ho30));have n0_:=Aside0.mk (Kd.R_below (by (with_reducible repeat (first|apply Kd.R_alloc|apply Kd.R_drewN|apply Kd.R_drew));exact HO_9.out) hb);have n1_:=Aside0.mk (Kd.R_elder' (by (with_reducible repeat (first|apply Kd.R_alloc|apply Kd.R_drewN|apply Kd.R_drew));exact HO_10.out) (Kd.R_base ho30) hb);have n2_:=Aside0.mk (Kd.R_lower (Kd.R_new' ho30 (Kd.R_lt (by (with_reducible repeat (first|apply Kd.R_alloc|apply Kd.R_drewN|apply Kd.R_drew));exact HO_10.out))) (below_size (by repeat (first|(with_reducible first|exact HB.out|apply below_alloc|apply pw_below_drewN|apply below_drew1|refine below_set ?_ GE154.out)|exact HB.out))));have n3_:=Aside0.mk (blk_below (g:=gb154) (o:=.cells #[.slice A0_0 l0_0.length c0_0,.int .i64 a0_1] 59 (0,0)) (by (with_reducible repeat (first|refine blk_drewN ?_ _|refine blk_drew ?_|refine blk_alloc ?_ _));exact BK154.out) hb);have n4_:=Aside0.mk (below_step (by repeat (first|(with_reducible first|exact HB.out|apply below_alloc|apply pw_below_drewN|apply below_drew1|refine below_set ?_ GE154.out)|exact HB.out)) hb);clear HO_9;clear HO_10;clear BK154;clear HB;have HO_9:=n0_;have HO_10:=n1_;have HO166:=n2_;have BK154:=n3_;have HB:=n4_;clear n0_ n1_ n2_ n3_ n4_;clear hb ho30))
            go_loopg [13] kj16 (fun kq v13 w'=>∃ (x12_3 : List Bool) (x13_3 : Int),v13 = .int .i64 x13_3 ∧ Aside0 (spec_l2ends.l1 kq l1 a2 x9_16 t159 x11_1 x12_3 x13_3 l0_0 a0_1 = some r) ∧ Aside0 (kq ≤ kj16) ∧ Aside0 (Kd.R (Kd.int .i64) 3 w' w.heap.size (fun _=>True) u9 x9_16) ∧ Aside0 (Kd.R Kd.bool 4 w' w.heap.size (fun k_=>some k_ ≠ (v165 : Value).ownBlock) (.slice (some ad160) t159.length co19) t159) ∧ Aside0 (Kd.R Kd.bool 4 w' w.heap.size (fun k_=>some k_ ≠ ((.slice (some ad160) t159.length co19) : Value).ownBlock) v165 x12_3) ∧ Aside0 (w'.heap[gb154]? = some (.cells #[(.slice A0_0 l0_0.length c0_0),.int .i64 a0_1] 59 (0,0))) ∧ Aside0 (Below w.heap.size w w'))
            case atStart=>exact ⟨(y164),(0),(by first|rfl|(simp;done)|(simp [*];done)),H',⟨Nat.le_refl _⟩,⟨by (try simp only [hl10_16]);(with_reducible repeat (first|apply Kd.R_alloc|apply Kd.R_drewN|apply Kd.R_drew));exact HO_9.out⟩,⟨by (try simp only [hl10_16]);(with_reducible repeat (first|apply Kd.R_alloc|apply Kd.R_drewN|apply Kd.R_drew));exact Kd.R_mono HO_10.out (fun _ hk=>hk.2)⟩,⟨by (try simp only [hl10_16]);(with_reducible repeat (first|apply Kd.R_alloc|apply Kd.R_drewN|apply Kd.R_drew));exact Kd.R_mono HO166.out (fun _ hk=>hk.2)⟩,⟨by (try simp only [hl10_16]);(with_reducible repeat (first|refine blk_drewN ?_ _|refine blk_drew ?_|refine blk_alloc ?_ _));exact BK154.out⟩,⟨by repeat (first|(with_reducible first|exact HB.out|apply below_alloc|apply pw_below_drewN|apply below_drew1|refine below_set ?_ GE154.out)|exact HB.out)⟩⟩
            case round =>
             clear H'
             try clear c1
             try clear p1
             try clear q1
             try clear hx1
             try clear qi1
             try clear c2
             try clear p2
             try clear q2
             try clear c3
             try clear c5
             try clear c5b0
             try clear c5b1
             try clear c6
             try clear c6b0
             try clear c6b1
             try clear c7
             try clear c7b0
             try clear c7b1
             try clear p8
             try clear q8
             try clear hx8
             try clear qi8
             try clear hf8
             try clear c16
             try clear c16b0
             try clear c16b1
             try clear p16
             try clear q16
             try clear hx16
             try clear qi16
             try clear q21
             try clear c22
             try clear c23
             try clear c25
             try clear c25b0
             try clear c25b1
             try clear c26
             try clear c26b0
             try clear c26b1
             try clear c27
             try clear c27b0
             try clear c27b1
             try clear hcz10_0
             try clear hcz10_1
             try clear hcz18_0
             try clear hcz18_1
             try clear hcz28_0
             try clear hcz28_1
             try clear hfz10_0
             try clear hfz10_1
             try clear hfz18_0
             try clear hfz18_1
             try clear hfz28_0
             try clear hfz28_1
             try clear hx160_0
             try clear hx8_0
             try clear p1
             try clear p16
             try clear p160
             try clear p2
             try clear p8
             try clear q1
             try clear q16
             try clear q160
             try clear q2
             try clear q21
             try clear q8
             obtain ⟨x12_3,x13_3,rfl,HA,HK3,HO_9,HO_10,HO_12,BK154,HB⟩:=hrel
             cases gk with
             | zero=>exact absurd HA.out (by simp [spec_l2ends.l1])
             | succ k3 =>
              have H:=HA.out
              clear HA
              simp only [spec_l2ends.l1] at H
              by_cases c31 : x13_3 < (l0_0.length : Int)
              ·rw [if_pos c31] at H
               have c31b0 : decide (x13_3 < (l0_0.length : Int)) = true:=decide_eq_true c31
               clear c31
               by_cases c32 : 0 ≤ x13_3
               ·rw [if_pos c32] at H
                have c32b0 : decide (0 ≤ x13_3) = true:=decide_eq_true c32
                clear c32
                by_cases c33 : 0 ≤ ((rd_T85 l0_0 x13_3).f0)
                ·rw [if_pos c33] at H
                 have c33b0 : decide (0 ≤ ((rd_T85 l0_0 x13_3).f0)) = true:=decide_eq_true c33
                 clear c33
                 by_cases c34 : ((rd_T85 l0_0 x13_3).f0) < (t159.length : Int)
                 ·rw [if_pos c34] at H
                  have c34b0 : decide (((rd_T85 l0_0 x13_3).f0) < (t159.length : Int)) = true:=decide_eq_true c34
                  clear c34
                  obtain ⟨bq35,hbq35⟩ : ∃ b_ : Bool,b_ = (rdOf false t159 ((rd_T85 l0_0 x13_3).f0)):=⟨_,rfl⟩
                  replace H : (if bq35 = true then (if ((rd_T85 l0_0 x13_3).f2) ≥ 0 then (if 0 ≤ ((rd_T85 l0_0 x13_3).f2) then (if ((rd_T85 l0_0 x13_3).f2) < (l1.length : Int) then (if ((rd_T49 l1 ((rd_T85 l0_0 x13_3).f2)).f0) = 0 then (if 0 ≤ x11_1 then (if x11_1 < (a2.size : Int) then ((spec_l2in.f k3 ((rd_T49 l1 ((rd_T85 l0_0 x13_3).f2)).f0) ((rd_T49 l1 ((rd_T85 l0_0 x13_3).f2)).f1) ((rd_T49 l1 ((rd_T85 l0_0 x13_3).f2)).f2) ((rd_T49 l1 ((rd_T85 l0_0 x13_3).f2)).f3) (bt a2 x11_1)).bind fun t172=>(if t172 = true then (if 0 ≤ ((rd_T85 l0_0 x13_3).f1) then (if ((rd_T85 l0_0 x13_3).f1) < (x12_3.length : Int) then (spec_l2ends.l1 k3 l1 a2 x9_16 t159 x11_1 (x12_3.set (((rd_T85 l0_0 x13_3).f1) : Int).toNat true) (wrap64 (x13_3 + 1)) l0_0 a0_1) else (none)) else (none)) else (spec_l2ends.l1 k3 l1 a2 x9_16 t159 x11_1 x12_3 (wrap64 (x13_3 + 1)) l0_0 a0_1))) else (none)) else (none)) else (spec_l2ends.l1 k3 l1 a2 x9_16 t159 x11_1 x12_3 (wrap64 (x13_3 + 1)) l0_0 a0_1)) else (none)) else (none)) else (spec_l2ends.l1 k3 l1 a2 x9_16 t159 x11_1 x12_3 (wrap64 (x13_3 + 1)) l0_0 a0_1)) else (spec_l2ends.l1 k3 l1 a2 x9_16 t159 x11_1 x12_3 (wrap64 (x13_3 + 1)) l0_0 a0_1)) = some r:=by rw [← hbq35] at H;exact H
                  have Nbq35:=Aside0.mk hbq35
                  clear hbq35
                  by_cases c36 : bq35 = true
                  ·subst c36
                   have H1 : (if ((rd_T85 l0_0 x13_3).f2) ≥ 0 then (if 0 ≤ ((rd_T85 l0_0 x13_3).f2) then (if ((rd_T85 l0_0 x13_3).f2) < (l1.length : Int) then (if ((rd_T49 l1 ((rd_T85 l0_0 x13_3).f2)).f0) = 0 then (if 0 ≤ x11_1 then (if x11_1 < (a2.size : Int) then ((spec_l2in.f k3 ((rd_T49 l1 ((rd_T85 l0_0 x13_3).f2)).f0) ((rd_T49 l1 ((rd_T85 l0_0 x13_3).f2)).f1) ((rd_T49 l1 ((rd_T85 l0_0 x13_3).f2)).f2) ((rd_T49 l1 ((rd_T85 l0_0 x13_3).f2)).f3) (bt a2 x11_1)).bind fun t172=>(if t172 = true then (if 0 ≤ ((rd_T85 l0_0 x13_3).f1) then (if ((rd_T85 l0_0 x13_3).f1) < (x12_3.length : Int) then (spec_l2ends.l1 k3 l1 a2 x9_16 t159 x11_1 (x12_3.set (((rd_T85 l0_0 x13_3).f1) : Int).toNat true) (wrap64 (x13_3 + 1)) l0_0 a0_1) else (none)) else (none)) else (spec_l2ends.l1 k3 l1 a2 x9_16 t159 x11_1 x12_3 (wrap64 (x13_3 + 1)) l0_0 a0_1))) else (none)) else (none)) else (spec_l2ends.l1 k3 l1 a2 x9_16 t159 x11_1 x12_3 (wrap64 (x13_3 + 1)) l0_0 a0_1)) else (none)) else (none)) else (spec_l2ends.l1 k3 l1 a2 x9_16 t159 x11_1 x12_3 (wrap64 (x13_3 + 1)) l0_0 a0_1)) = some r:=by rw [if_pos rfl] at H;exact H
                   clear H
                   have H:=H1
                   clear H1
                   by_cases c37 : ((rd_T85 l0_0 x13_3).f2) ≥ 0
                   ·rw [if_pos c37] at H
                    have c37b0 : decide (0 ≤ ((rd_T85 l0_0 x13_3).f2)) = true:=decide_eq_true c37
                    clear c37
                    by_cases c38 : 0 ≤ ((rd_T85 l0_0 x13_3).f2)
                    ·rw [if_pos c38] at H
                     have c38b0 : decide (0 ≤ ((rd_T85 l0_0 x13_3).f2)) = true:=decide_eq_true c38
                     clear c38
                     by_cases c39 : ((rd_T85 l0_0 x13_3).f2) < (l1.length : Int)
                     ·rw [if_pos c39] at H
                      have c39b0 : decide (((rd_T85 l0_0 x13_3).f2) < (l1.length : Int)) = true:=decide_eq_true c39
                      clear c39
                      by_cases c40 : ((rd_T49 l1 ((rd_T85 l0_0 x13_3).f2)).f0) = 0
                      ·rw [if_pos c40] at H
                       have c40b0 : (((rd_T49 l1 ((rd_T85 l0_0 x13_3).f2)).f0) == 0) = true:=beq_iff_eq.mpr c40
                       have c40b1 : (((rd_T49 l1 ((rd_T85 l0_0 x13_3).f2)).f0) != 0) = false:=bne_eq_false_iff_eq.mpr c40
                       clear c40
                       by_cases c41 : 0 ≤ x11_1
                       ·rw [if_pos c41] at H
                        have c41b0 : decide (0 ≤ x11_1) = true:=decide_eq_true c41
                        clear c41
                        by_cases c42 : x11_1 < (a2.size : Int)
                        ·rw [if_pos c42] at H
                         have c42b0 : decide (x11_1 < (a2.size : Int)) = true:=decide_eq_true c42
                         clear c42
                         replace H:=Option.bind_eq_some_iff.mp H
                         obtain ⟨t172,A440,H⟩:=H
                         replace H : (if t172 = true then (if 0 ≤ ((rd_T85 l0_0 x13_3).f1) then (if ((rd_T85 l0_0 x13_3).f1) < (x12_3.length : Int) then (spec_l2ends.l1 k3 l1 a2 x9_16 t159 x11_1 (x12_3.set (((rd_T85 l0_0 x13_3).f1) : Int).toNat true) (wrap64 (x13_3 + 1)) l0_0 a0_1) else (none)) else (none)) else (spec_l2ends.l1 k3 l1 a2 x9_16 t159 x11_1 x12_3 (wrap64 (x13_3 + 1)) l0_0 a0_1)) = some r:=H
                         have A44:=Aside0.mk A440
                         clear A440
                         by_cases c45 : t172 = true
                         ·subst c45
                          have H1 : (if 0 ≤ ((rd_T85 l0_0 x13_3).f1) then (if ((rd_T85 l0_0 x13_3).f1) < (x12_3.length : Int) then (spec_l2ends.l1 k3 l1 a2 x9_16 t159 x11_1 (x12_3.set (((rd_T85 l0_0 x13_3).f1) : Int).toNat true) (wrap64 (x13_3 + 1)) l0_0 a0_1) else (none)) else (none)) = some r:=by rw [if_pos rfl] at H;exact H
                          clear H
                          have H:=H1
                          clear H1
                          by_cases c46 : 0 ≤ ((rd_T85 l0_0 x13_3).f1)
                          ·rw [if_pos c46] at H
                           have c46b0 : decide (0 ≤ ((rd_T85 l0_0 x13_3).f1)) = true:=decide_eq_true c46
                           clear c46
                           by_cases c47 : ((rd_T85 l0_0 x13_3).f1) < (x12_3.length : Int)
                           ·rw [if_pos c47] at H
                            have c47b0 : decide (((rd_T85 l0_0 x13_3).f1) < (x12_3.length : Int)) = true:=decide_eq_true c47
                            clear c47
                            obtain ⟨y173,hy173⟩ : ∃ y_ : List Bool,y_ = (x12_3.set (((rd_T85 l0_0 x13_3).f1) : Int).toNat true):=⟨_,rfl⟩
                            replace H : (spec_l2ends.l1 k3 l1 a2 x9_16 t159 x11_1 y173 (wrap64 (x13_3 + 1)) l0_0 a0_1) = some r:=by first|(rw [hy173];with_reducible exact H)|(have H2_:=(Option.bind_some _ _).symm.trans H;rw [hy173];with_reducible exact H2_)|(have H2_:=(Option.bind_some _ _).symm.trans H;with_reducible exact H2_)|with_reducible exact H|(rw [hy173];exact H)|exact H
                            have Ny173:=Aside0.mk hy173
                            clear hy173
                            have H':=Aside0.mk H
                            clear H
                            have hcz49_0 : wr.cell? ⟨gb154,0,none⟩ = some (.slice A0_0 l0_0.length c0_0):=(blk_cell BK154.out 0).trans rfl
                            have hcz49_1 : wr.cell? ⟨gb154,1,none⟩ = some (.int .i64 a0_1):=(blk_cell BK154.out 1).trans rfl
                            have hfz49_0:=blk_frozen BK154.out 0
                            have hfz49_1:=blk_frozen BK154.out 1
                            have p167 : 0 ≤ (x13_3 : Int):=of_decide_eq_true (by first|(with_reducible assumption)|assumption)
                            have q167 : x13_3 < (l0_0.length : Int):=of_decide_eq_true (by first|(with_reducible assumption)|assumption)
                            obtain ⟨ad167,e167,hx167_0,hx167_1,hx167_2⟩:=at_T85 HR0_0.out x13_3 p167 q167
                            cases e167
                            replace hx167_0:=(HB.out.cell (World.block_lt_of_cell? w _ hx167_0)).trans hx167_0
                            replace hx167_1:=(HB.out.cell (World.block_lt_of_cell? w _ hx167_1)).trans hx167_1
                            replace hx167_2:=(HB.out.cell (World.block_lt_of_cell? w _ hx167_2)).trans hx167_2
                            replace p167:=eq_true p167
                            replace q167:=eq_true q167
                            try go_wp2_with (first|((with_reducible refine gate_dst (N:=14) rfl ?_);refine box_event ?hg (N:=14) ?hd (cs:=#[.int .i64 0,.int .i64 0,.int .i64 0]) (t:=85) ?hr ?_;(case hd=>rfl);(case hg=>rfl);(case hr=>first|(go_simp;done)|(go_simp;rfl));intro gb168 hg w50 hbox hb;have n0_:=Aside0.mk (Kd.R_below (by (with_reducible repeat (first|apply Kd.R_alloc|apply Kd.R_drewN|apply Kd.R_drew));exact HO_9.out) hb);have n1_:=Aside0.mk (Kd.R_below (by (with_reducible repeat (first|apply Kd.R_alloc|apply Kd.R_drewN|apply Kd.R_drew));exact HO_10.out) hb);have n2_:=Aside0.mk (Kd.R_below (by (with_reducible repeat (first|apply Kd.R_alloc|apply Kd.R_drewN|apply Kd.R_drew));exact HO_12.out) hb);have n3_:=Aside0.mk (blk_below (g:=gb154) (o:=.cells #[.slice (some ad167) l0_0.length c0_0,.int .i64 a0_1] 59 (0,0)) (by (with_reducible repeat (first|refine blk_drewN ?_ _|refine blk_drew ?_|refine blk_alloc ?_ _));exact BK154.out) hb);have n4_:=Aside0.mk (below_step (by repeat (first|(with_reducible first|exact HB.out|apply below_alloc|apply pw_below_drewN|apply below_drew1|refine below_set ?_ GE154.out)|exact HB.out)) hb);have n5_:=Aside0.mk (hbox);have n6_:=Aside0.mk ((by rw [hg];exact (below_size (by repeat (first|(with_reducible first|exact HB.out|apply below_alloc|apply pw_below_drewN|apply below_drew1|refine below_set ?_ GE154.out)|exact HB.out))) : w.heap.size ≤ gb168));have n7_:=Aside0.mk ((by rw [hg];exact (below_size (by repeat (first|(with_reducible first|exact HB.out|apply below_alloc|apply pw_below_drewN|apply below_drew1|refine below_set ?_ GE154.out)|exact HB.out))) : w.heap.size ≤ gb168));have n8_:=Aside0.mk ((by rw [hg];exact Nat.ne_of_lt (blk_lt (g:=gb154) (o:=.cells #[.slice (some ad167) l0_0.length c0_0,.int .i64 a0_1] 59 (0,0)) (by (with_reducible repeat (first|refine blk_drewN ?_ _|refine blk_drew ?_|refine blk_alloc ?_ _));exact BK154.out)) : gb154 ≠ gb168));have n9_:=Aside0.mk ((by rw [hg];exact Nat.ne_of_gt (blk_lt (g:=gb154) (o:=.cells #[.slice (some ad167) l0_0.length c0_0,.int .i64 a0_1] 59 (0,0)) (by (with_reducible repeat (first|refine blk_drewN ?_ _|refine blk_drew ?_|refine blk_alloc ?_ _));exact BK154.out)) : gb168 ≠ gb154));clear HO_9;clear HO_10;clear HO_12;clear BK154;clear HB;have HO_9:=n0_;have HO_10:=n1_;have HO_12:=n2_;have BK154:=n3_;have HB:=n4_;have BK168:=n5_;have GW168:=n6_;have GE168:=n7_;have NB154_168:=n8_;have NB168_154:=n9_;clear n0_ n1_ n2_ n3_ n4_ n5_ n6_ n7_ n8_ n9_;clear hb hbox hg;have hnb51:=NB168_154.out;have hnc51:=NB154_168.out;have hcz52_0 : w50.cell? ⟨gb168,0,none⟩ = some (.int .i64 0):=(blk_cell BK168.out 0).trans rfl;have hcz52_1 : w50.cell? ⟨gb168,1,none⟩ = some (.int .i64 0):=(blk_cell BK168.out 1).trans rfl;have hcz52_2 : w50.cell? ⟨gb168,2,none⟩ = some (.int .i64 0):=(blk_cell BK168.out 2).trans rfl;have hfz52_0:=blk_frozen BK168.out 0;have hfz52_1:=blk_frozen BK168.out 1;have hfz52_2:=blk_frozen BK168.out 2))
                            have n0_ : Aside0 (Kd.R (Kd.int .i64) 3 (((w50.setCell ⟨gb168,0,none⟩ (.int .i64 ((rd_T85 l0_0 x13_3).f0))).setCell ⟨gb168,1,none⟩ (.int .i64 ((rd_T85 l0_0 x13_3).f1))).setCell ⟨gb168,2,none⟩ (.int .i64 ((rd_T85 l0_0 x13_3).f2))) w.heap.size (fun _=>True) u9 x9_16):=⟨by (with_reducible repeat (first|apply Kd.R_alloc|apply Kd.R_drewN|apply Kd.R_drew));exact Kd.R_mono (Kd.R_far (p:=⟨gb168,2,none⟩) (Kd.R_far (p:=⟨gb168,1,none⟩) (Kd.R_far (p:=⟨gb168,0,none⟩) (Kd.R_types HO_9.out BK168.out (by decide)) (fun _ hk=>hk.2) (.int .i64 ((rd_T85 l0_0 x13_3).f0))) (fun _ hk=>hk.2) (.int .i64 ((rd_T85 l0_0 x13_3).f1))) (fun _ hk=>hk.2) (.int .i64 ((rd_T85 l0_0 x13_3).f2))) (fun _ hk=>trivial)⟩
                            have n1_ : Aside0 (Kd.R Kd.bool 4 (((w50.setCell ⟨gb168,0,none⟩ (.int .i64 ((rd_T85 l0_0 x13_3).f0))).setCell ⟨gb168,1,none⟩ (.int .i64 ((rd_T85 l0_0 x13_3).f1))).setCell ⟨gb168,2,none⟩ (.int .i64 ((rd_T85 l0_0 x13_3).f2))) w.heap.size (fun k_=>some k_ ≠ (v165 : Value).ownBlock) (.slice (some ad160) t159.length co19) t159):=⟨by (with_reducible repeat (first|apply Kd.R_alloc|apply Kd.R_drewN|apply Kd.R_drew));exact Kd.R_mono (Kd.R_far (p:=⟨gb168,2,none⟩) (Kd.R_far (p:=⟨gb168,1,none⟩) (Kd.R_far (p:=⟨gb168,0,none⟩) (Kd.R_types HO_10.out BK168.out (by decide)) (fun _ hk=>hk.2) (.int .i64 ((rd_T85 l0_0 x13_3).f0))) (fun _ hk=>hk.2) (.int .i64 ((rd_T85 l0_0 x13_3).f1))) (fun _ hk=>hk.2) (.int .i64 ((rd_T85 l0_0 x13_3).f2))) (fun _ hk=>hk.1)⟩
                            have n2_ : Aside0 (Kd.R Kd.bool 4 (((w50.setCell ⟨gb168,0,none⟩ (.int .i64 ((rd_T85 l0_0 x13_3).f0))).setCell ⟨gb168,1,none⟩ (.int .i64 ((rd_T85 l0_0 x13_3).f1))).setCell ⟨gb168,2,none⟩ (.int .i64 ((rd_T85 l0_0 x13_3).f2))) w.heap.size (fun k_=>some k_ ≠ (.slice (some ad160) t159.length co19 : Value).ownBlock) v165 x12_3):=⟨by (with_reducible repeat (first|apply Kd.R_alloc|apply Kd.R_drewN|apply Kd.R_drew));exact Kd.R_mono (Kd.R_far (p:=⟨gb168,2,none⟩) (Kd.R_far (p:=⟨gb168,1,none⟩) (Kd.R_far (p:=⟨gb168,0,none⟩) (Kd.R_types HO_12.out BK168.out (by decide)) (fun _ hk=>hk.2) (.int .i64 ((rd_T85 l0_0 x13_3).f0))) (fun _ hk=>hk.2) (.int .i64 ((rd_T85 l0_0 x13_3).f1))) (fun _ hk=>hk.2) (.int .i64 ((rd_T85 l0_0 x13_3).f2))) (fun _ hk=>hk.1)⟩
                            have n3_ : Aside0 ((((w50.setCell ⟨gb168,0,none⟩ (.int .i64 ((rd_T85 l0_0 x13_3).f0))).setCell ⟨gb168,1,none⟩ (.int .i64 ((rd_T85 l0_0 x13_3).f1))).setCell ⟨gb168,2,none⟩ (.int .i64 ((rd_T85 l0_0 x13_3).f2))).heap[gb154]? = some (.cells #[.slice (some ad167) l0_0.length c0_0,.int .i64 a0_1] 59 (0,0))):=⟨by (with_reducible repeat (first|refine blk_drewN ?_ _|refine blk_drew ?_|refine blk_alloc ?_ _));refine blk_far ?_ NB154_168.out _;(with_reducible repeat (first|refine blk_drewN ?_ _|refine blk_drew ?_|refine blk_alloc ?_ _));refine blk_far ?_ NB154_168.out _;(with_reducible repeat (first|refine blk_drewN ?_ _|refine blk_drew ?_|refine blk_alloc ?_ _));refine blk_far ?_ NB154_168.out _;(with_reducible repeat (first|refine blk_drewN ?_ _|refine blk_drew ?_|refine blk_alloc ?_ _));exact BK154.out⟩
                            have n4_ : Aside0 ((((w50.setCell ⟨gb168,0,none⟩ (.int .i64 ((rd_T85 l0_0 x13_3).f0))).setCell ⟨gb168,1,none⟩ (.int .i64 ((rd_T85 l0_0 x13_3).f1))).setCell ⟨gb168,2,none⟩ (.int .i64 ((rd_T85 l0_0 x13_3).f2))).heap[gb168]? = some (.cells #[.int .i64 ((rd_T85 l0_0 x13_3).f0),.int .i64 ((rd_T85 l0_0 x13_3).f1),.int .i64 ((rd_T85 l0_0 x13_3).f2)] 85 (0,0))):=⟨by (with_reducible repeat (first|refine blk_drewN ?_ _|refine blk_drew ?_|refine blk_alloc ?_ _));refine blk_put (cs:=#[.int .i64 ((rd_T85 l0_0 x13_3).f0),.int .i64 ((rd_T85 l0_0 x13_3).f1),.int .i64 0]) ?_ 2 _ rfl;(with_reducible repeat (first|refine blk_drewN ?_ _|refine blk_drew ?_|refine blk_alloc ?_ _));refine blk_put (cs:=#[.int .i64 ((rd_T85 l0_0 x13_3).f0),.int .i64 0,.int .i64 0]) ?_ 1 _ rfl;(with_reducible repeat (first|refine blk_drewN ?_ _|refine blk_drew ?_|refine blk_alloc ?_ _));refine blk_put (cs:=#[.int .i64 0,.int .i64 0,.int .i64 0]) ?_ 0 _ rfl;(with_reducible repeat (first|refine blk_drewN ?_ _|refine blk_drew ?_|refine blk_alloc ?_ _));exact BK168.out⟩
                            have n5_ : Aside0 (Below w.heap.size w (((w50.setCell ⟨gb168,0,none⟩ (.int .i64 ((rd_T85 l0_0 x13_3).f0))).setCell ⟨gb168,1,none⟩ (.int .i64 ((rd_T85 l0_0 x13_3).f1))).setCell ⟨gb168,2,none⟩ (.int .i64 ((rd_T85 l0_0 x13_3).f2)))):=⟨by repeat (first|(with_reducible first|exact HB.out|apply below_alloc|apply pw_below_drewN|apply below_drew1|refine below_set ?_ GE154.out|refine below_set ?_ GE168.out)|exact HB.out)⟩
                            (try clear HO_9)
                            (try clear HO_10)
                            (try clear HO_12)
                            (try clear BK154)
                            (try clear BK168)
                            (try clear HB)
                            generalize (((w50.setCell ⟨gb168,0,none⟩ (.int .i64 ((rd_T85 l0_0 x13_3).f0))).setCell ⟨gb168,1,none⟩ (.int .i64 ((rd_T85 l0_0 x13_3).f1))).setCell ⟨gb168,2,none⟩ (.int .i64 ((rd_T85 l0_0 x13_3).f2))) = w53 at n0_ n1_ n2_ n3_ n4_ n5_ ⊢
                            have HO_9:=n0_
                            have HO_10:=n1_
                            have HO_12:=n2_
                            have BK154:=n3_
                            have BK168:=n4_
                            have HB:=n5_
                            clear n0_ n1_ n2_ n3_ n4_ n5_
                            have n0_:=Aside0.mk (Kd.R_drew HO_9.out)
                            have n1_:=Aside0.mk (Kd.R_drew HO_10.out)
                            have n2_:=Aside0.mk (Kd.R_drew HO_12.out)
                            have n3_:=Aside0.mk (blk_drew BK154.out)
                            have n4_:=Aside0.mk (blk_drew BK168.out)
                            have n5_:=Aside0.mk (below_drew1 HB.out)
                            clear HO_9
                            clear HO_10
                            clear HO_12
                            clear BK154
                            clear BK168
                            clear HB
                            have HO_9:=n0_
                            have HO_10:=n1_
                            have HO_12:=n2_
                            have BK154:=n3_
                            have BK168:=n4_
                            have HB:=n5_
                            clear n0_ n1_ n2_ n3_ n4_ n5_
                            have p169 : 0 ≤ (((rd_T85 l0_0 x13_3).f0) : Int):=of_decide_eq_true (by first|(with_reducible assumption)|assumption)
                            have q169 : ((rd_T85 l0_0 x13_3).f0) < (t159.length : Int):=of_decide_eq_true (by first|(with_reducible assumption)|assumption)
                            obtain ⟨ad169,e169,hx169_0⟩:=Kd.at_bool (Kd.R_reads' HO_10.out).2.2 ((rd_T85 l0_0 x13_3).f0) p169 q169
                            (try rw [← Nbq35.out] at hx169_0)
                            obtain rfl : ad160 = ad169:=(by injection e169)
                            replace p169:=eq_true p169
                            replace q169:=eq_true q169
                            have p170 : 0 ≤ (((rd_T85 l0_0 x13_3).f2) : Int):=of_decide_eq_true (by first|(with_reducible assumption)|assumption)
                            have q170 : ((rd_T85 l0_0 x13_3).f2) < (l1.length : Int):=of_decide_eq_true (by first|(with_reducible assumption)|assumption)
                            obtain ⟨ad170,A170_3,c170_3,e170,hx170_0,hx170_1,hx170_2,hx170_3,hl170_3,hi170_3⟩:=at_T49 HR1.out ((rd_T85 l0_0 x13_3).f2) p170 q170
                            have hw170_3:=hx170_3
                            have hw170_2:=hx170_2
                            have hw170_1:=hx170_1
                            have hw170_0:=hx170_0
                            (try rw [← Nbq35.out] at hx170_1)
                            cases e170
                            replace hx170_0:=(HB.out.cell (World.block_lt_of_cell? w _ hx170_0)).trans hx170_0
                            replace hx170_1:=(HB.out.cell (World.block_lt_of_cell? w _ hx170_1)).trans hx170_1
                            replace hx170_2:=(HB.out.cell (World.block_lt_of_cell? w _ hx170_2)).trans hx170_2
                            replace hx170_3:=(HB.out.cell (World.block_lt_of_cell? w _ hx170_3)).trans hx170_3
                            have HR170_3:=Aside0.mk hi170_3
                            have HC170_3:=Aside0.mk hl170_3
                            clear hi170_3 hl170_3
                            replace p170:=eq_true p170
                            replace q170:=eq_true q170
                            have p171 : 0 ≤ (((rd_T85 l0_0 x13_3).f2) : Int):=of_decide_eq_true (by first|(with_reducible assumption)|assumption)
                            have q171 : ((rd_T85 l0_0 x13_3).f2) < (l1.length : Int):=of_decide_eq_true (by first|(with_reducible assumption)|assumption)
                            obtain ⟨ad171,A171_3,c171_3,e171,hx171_0,hx171_1,hx171_2,hx171_3,hl171_3,hi171_3⟩:=at_T49 HR1.out ((rd_T85 l0_0 x13_3).f2) p171 q171
                            have hw171_3:=hx171_3
                            have hw171_2:=hx171_2
                            have hw171_1:=hx171_1
                            have hw171_0:=hx171_0
                            (try rw [← Nbq35.out] at hx171_1)
                            obtain rfl : ad170 = ad171:=(by injection e171)
                            replace hx171_0:=(HB.out.cell (World.block_lt_of_cell? w _ hx171_0)).trans hx171_0
                            replace hx171_1:=(HB.out.cell (World.block_lt_of_cell? w _ hx171_1)).trans hx171_1
                            replace hx171_2:=(HB.out.cell (World.block_lt_of_cell? w _ hx171_2)).trans hx171_2
                            replace hx171_3:=(HB.out.cell (World.block_lt_of_cell? w _ hx171_3)).trans hx171_3
                            have HR171_3:=Aside0.mk hi171_3
                            have HC171_3:=Aside0.mk hl171_3
                            clear hi171_3 hl171_3
                            replace p171:=eq_true p171
                            replace q171:=eq_true q171
                            have ea_:=Option.some.inj (hx170_3.symm.trans hx171_3)
                            injection ea_ with ea_ en_ ec_
                            subst ea_
                            subst ec_
                            clear en_
                            have p43 : 0 ≤ (x11_1 : Int):=of_decide_eq_true (by first|(with_reducible assumption)|assumption)
                            have q43 : x11_1 < (a2.size : Int):=of_decide_eq_true (by first|(with_reducible assumption)|assumption)
                            have hx43:=bt_at a2 x11_1
                            replace p43:=eq_true p43
                            replace q43:=eq_true q43
                            refine start_ (n:=30) (S:=fun w'=>w'.cell? ⟨gb168,0,none⟩ = some (.int .i64 ((rd_T85 l0_0 x13_3).f0)) ∧ w'.cell? ⟨gb168,1,none⟩ = some (.int .i64 ((rd_T85 l0_0 x13_3).f1)) ∧ w'.cell? ⟨gb168,2,none⟩ = some (.int .i64 ((rd_T85 l0_0 x13_3).f2)) ∧ w'.cell? (ad160.add (((rd_T85 l0_0 x13_3).f0)).toNat) = some (.bool true) ∧ w'.cell? (ad170.add ((((rd_T85 l0_0 x13_3).f2)).toNat * 4)) = some (.int .i64 ((rd_T49 l1 ((rd_T85 l0_0 x13_3).f2)).f0)) ∧ w'.cell? ⟨(ad170.add ((((rd_T85 l0_0 x13_3).f2)).toNat * 4)).block,(ad170.add ((((rd_T85 l0_0 x13_3).f2)).toNat * 4)).off + 1,none⟩ = some (.bool ((rd_T49 l1 ((rd_T85 l0_0 x13_3).f2)).f1)) ∧ w'.cell? ⟨(ad170.add ((((rd_T85 l0_0 x13_3).f2)).toNat * 4)).block,(ad170.add ((((rd_T85 l0_0 x13_3).f2)).toNat * 4)).off + 2,none⟩ = some (.string ((rd_T49 l1 ((rd_T85 l0_0 x13_3).f2)).f2)) ∧ w'.cell? ⟨(ad170.add ((((rd_T85 l0_0 x13_3).f2)).toNat * 4)).block,(ad170.add ((((rd_T85 l0_0 x13_3).f2)).toNat * 4)).off + 3,none⟩ = some (.slice A170_3 ((rd_T49 l1 ((rd_T85 l0_0 x13_3).f2)).f3).length c170_3) ∧ w'.cell? (ad170.add ((((rd_T85 l0_0 x13_3).f2)).toNat * 4)) = some (.int .i64 ((rd_T49 l1 ((rd_T85 l0_0 x13_3).f2)).f0)) ∧ w'.cell? ⟨(ad170.add ((((rd_T85 l0_0 x13_3).f2)).toNat * 4)).block,(ad170.add ((((rd_T85 l0_0 x13_3).f2)).toNat * 4)).off + 1,none⟩ = some (.bool ((rd_T49 l1 ((rd_T85 l0_0 x13_3).f2)).f1)) ∧ w'.cell? ⟨(ad170.add ((((rd_T85 l0_0 x13_3).f2)).toNat * 4)).block,(ad170.add ((((rd_T85 l0_0 x13_3).f2)).toNat * 4)).off + 2,none⟩ = some (.string ((rd_T49 l1 ((rd_T85 l0_0 x13_3).f2)).f2)) ∧ w'.cell? ⟨(ad170.add ((((rd_T85 l0_0 x13_3).f2)).toNat * 4)).block,(ad170.add ((((rd_T85 l0_0 x13_3).f2)).toNat * 4)).off + 3,none⟩ = some (.slice A170_3 ((rd_T49 l1 ((rd_T85 l0_0 x13_3).f2)).f3).length c170_3)) (ds:=[]) #[false,false,false,false,false,false,false,false,false,false,false,false,false,false,false,false,false,false,false,false,false,false,false,false,false,false,false,false,false,false] (by kernel_rfl) rfl rfl ⟨(blk_cell BK168.out 0).trans rfl,(blk_cell BK168.out 1).trans rfl,(blk_cell BK168.out 2).trans rfl,hx169_0,((HB.out.cell (World.block_lt_of_cell? w _ hw170_0)).trans hw170_0),((HB.out.cell (World.block_lt_of_cell? w _ hw170_1)).trans hw170_1),((HB.out.cell (World.block_lt_of_cell? w _ hw170_2)).trans hw170_2),((HB.out.cell (World.block_lt_of_cell? w _ hw170_3)).trans hw170_3),((HB.out.cell (World.block_lt_of_cell? w _ hw171_0)).trans hw171_0),((HB.out.cell (World.block_lt_of_cell? w _ hw171_1)).trans hw171_1),((HB.out.cell (World.block_lt_of_cell? w _ hw171_2)).trans hw171_2),((HB.out.cell (World.block_lt_of_cell? w _ hw171_3)).trans hw171_3)⟩ (fun hHeld=>?_);refine with_tabW spec_l2ends.tab16 spec_l2ends.bits16 (fun HT_ HW_=>?_)
                            generalize w53.drew = w54 at HO_9 HO_10 HO_12 BK154 BK168 HB HR170_3 HR171_3 hx169_0 hx170_0 hx170_1 hx170_2 hx170_3 hx171_0 hx171_1 hx171_2 hx171_3 hHeld ⊢
                            refine pure_ (i:=0) (N:=some 56) (v:=?_) (a':=?_) #[true,false,false,false,false,false,false,false,false,false,false,false,false,false,false,false,false,false,false,false,false,false,false,false,false,false,false,false,false,false] rfl rfl (any_of HT_.out (by kernel_rfl)) (fun _ _ _ h=>h) (Or.inl ⟨by rfl,?_⟩) ?_ ?_
                            rotate_left
                            ·intro w'
                             go_simp
                             first|with_reducible rfl|(rw [if_neg (by simp only [ByteArray.size_append,ByteArray.size_extract,eq_iff_iff,iff_true,iff_false] at *;omega)];try with_reducible rfl)
                            rotate_left
                            ·simp only [Act.put,List.setIfInBounds_toArray,List.set_cons_zero,List.set_cons_succ,i64_w,i32_w]
                             rfl
                            refine pure_ (i:=1) (N:=some 57) (v:=?_) (a':=?_) #[true,true,false,false,false,false,false,false,false,false,false,false,false,false,false,false,false,false,false,false,false,false,false,false,false,false,false,false,false,false] rfl rfl (any_of HT_.out (by kernel_rfl)) (fun _ _ _ h=>h) (Or.inl ⟨by rfl,?_⟩) ?_ ?_
                            rotate_left
                            ·intro w'
                             go_simp
                             first|with_reducible rfl|(rw [if_neg (by simp only [ByteArray.size_append,ByteArray.size_extract,eq_iff_iff,iff_true,iff_false] at *;omega)];try with_reducible rfl)
                            rotate_left
                            ·simp only [Act.put,List.setIfInBounds_toArray,List.set_cons_zero,List.set_cons_succ,i64_w,i32_w]
                             rfl
                            refine take_ (i:=2) (N:=some 58) (v:=?_) (a':=?_) #[true,true,true,false,false,false,false,false,false,false,false,false,false,false,false,false,false,false,false,false,false,false,false,false,false,false,false,false,false,false] rfl rfl (take_ofW HT_.out HW_.out (by kernel_rfl)) (fun _ _ _ h=>h) (Or.inl ⟨by rfl,?_⟩) hHeld ?_ ?_
                            rotate_left
                            ·rintro w' ⟨s0,s1,s2,s3,s4,s5,s6,s7,s8,s9,s10,s11⟩
                             go_simp
                             first|with_reducible rfl|(rw [if_neg (by simp only [ByteArray.size_append,ByteArray.size_extract,eq_iff_iff,iff_true,iff_false] at *;omega)];try with_reducible rfl)
                            rotate_left
                            ·simp only [Act.put,List.setIfInBounds_toArray,List.set_cons_zero,List.set_cons_succ,i64_w,i32_w]
                             rfl
                            refine pure_ (i:=3) (N:=some 59) (v:=?_) (a':=?_) #[true,true,true,true,false,false,false,false,false,false,false,false,false,false,false,false,false,false,false,false,false,false,false,false,false,false,false,false,false,false] rfl rfl (any_of HT_.out (by kernel_rfl)) (fun _ _ _ h=>h) (Or.inl ⟨by rfl,?_⟩) ?_ ?_
                            rotate_left
                            ·intro w'
                             go_simp
                             first|with_reducible rfl|(rw [if_neg (by simp only [ByteArray.size_append,ByteArray.size_extract,eq_iff_iff,iff_true,iff_false] at *;omega)];try with_reducible rfl)
                            rotate_left
                            ·simp only [Act.put,List.setIfInBounds_toArray,List.set_cons_zero,List.set_cons_succ,i64_w,i32_w]
                             rfl
                            refine take_ (i:=4) (N:=some 60) (v:=?_) (a':=?_) #[true,true,true,true,true,false,false,false,false,false,false,false,false,false,false,false,false,false,false,false,false,false,false,false,false,false,false,false,false,false] rfl rfl (take_ofW HT_.out HW_.out (by kernel_rfl)) (fun _ _ _ h=>h) (Or.inl ⟨by rfl,?_⟩) hHeld ?_ ?_
                            rotate_left
                            ·rintro w' ⟨s0,s1,s2,s3,s4,s5,s6,s7,s8,s9,s10,s11⟩
                             go_simp
                             first|with_reducible rfl|(rw [if_neg (by simp only [ByteArray.size_append,ByteArray.size_extract,eq_iff_iff,iff_true,iff_false] at *;omega)];try with_reducible rfl)
                            rotate_left
                            ·simp only [Act.put,List.setIfInBounds_toArray,List.set_cons_zero,List.set_cons_succ,i64_w,i32_w]
                             rfl
                            refine pure_ (i:=5) (N:=some 61) (v:=?_) (a':=?_) #[true,true,true,true,true,true,false,false,false,false,false,false,false,false,false,false,false,false,false,false,false,false,false,false,false,false,false,false,false,false] rfl rfl (any_of HT_.out (by kernel_rfl)) (fun _ _ _ h=>h) (Or.inl ⟨by rfl,?_⟩) ?_ ?_
                            rotate_left
                            ·intro w'
                             go_simp
                             first|with_reducible rfl|(rw [if_neg (by simp only [ByteArray.size_append,ByteArray.size_extract,eq_iff_iff,iff_true,iff_false] at *;omega)];try with_reducible rfl)
                            rotate_left
                            ·simp only [Act.put,List.setIfInBounds_toArray,List.set_cons_zero,List.set_cons_succ,i64_w,i32_w]
                             rfl
                            refine pure_ (i:=6) (N:=some 62) (v:=?_) (a':=?_) #[true,true,true,true,true,true,true,false,false,false,false,false,false,false,false,false,false,false,false,false,false,false,false,false,false,false,false,false,false,false] rfl rfl (any_of HT_.out (by kernel_rfl)) (fun _ _ _ h=>h) (Or.inl ⟨by rfl,?_⟩) ?_ ?_
                            rotate_left
                            ·intro w'
                             go_simp
                             first|with_reducible rfl|(rw [if_neg (by simp only [ByteArray.size_append,ByteArray.size_extract,eq_iff_iff,iff_true,iff_false] at *;omega)];try with_reducible rfl)
                            rotate_left
                            ·simp only [Act.put,List.setIfInBounds_toArray,List.set_cons_zero,List.set_cons_succ,i64_w,i32_w]
                             rfl
                            refine take_ (i:=7) (N:=some 63) (v:=?_) (a':=?_) #[true,true,true,true,true,true,true,true,false,false,false,false,false,false,false,false,false,false,false,false,false,false,false,false,false,false,false,false,false,false] rfl rfl (take_ofW HT_.out HW_.out (by kernel_rfl)) (fun _ _ _ h=>h) (Or.inl ⟨by rfl,?_⟩) hHeld ?_ ?_
                            rotate_left
                            ·rintro w' ⟨s0,s1,s2,s3,s4,s5,s6,s7,s8,s9,s10,s11⟩
                             go_simp
                             first|with_reducible rfl|(rw [if_neg (by simp only [ByteArray.size_append,ByteArray.size_extract,eq_iff_iff,iff_true,iff_false] at *;omega)];try with_reducible rfl)
                            rotate_left
                            ·simp only [Act.put,List.setIfInBounds_toArray,List.set_cons_zero,List.set_cons_succ,i64_w,i32_w]
                             rfl
                            refine pure_ (i:=8) (N:=some 64) (v:=?_) (a':=?_) #[true,true,true,true,true,true,true,true,true,false,false,false,false,false,false,false,false,false,false,false,false,false,false,false,false,false,false,false,false,false] rfl rfl (any_of HT_.out (by kernel_rfl)) (fun _ _ _ h=>h) (Or.inl ⟨by rfl,?_⟩) ?_ ?_
                            rotate_left
                            ·intro w'
                             go_simp
                             first|with_reducible rfl|(rw [if_neg (by simp only [ByteArray.size_append,ByteArray.size_extract,eq_iff_iff,iff_true,iff_false] at *;omega)];try with_reducible rfl)
                            rotate_left
                            ·simp only [Act.put,List.setIfInBounds_toArray,List.set_cons_zero,List.set_cons_succ,i64_w,i32_w]
                             rfl
                            refine pure_ (i:=9) (N:=some 65) (v:=?_) (a':=?_) #[true,true,true,true,true,true,true,true,true,true,false,false,false,false,false,false,false,false,false,false,false,false,false,false,false,false,false,false,false,false] rfl rfl (any_of HT_.out (by kernel_rfl)) (fun _ _ _ h=>h) (Or.inl ⟨by rfl,?_⟩) ?_ ?_
                            rotate_left
                            ·intro w'
                             go_simp
                             first|with_reducible rfl|(rw [if_neg (by simp only [ByteArray.size_append,ByteArray.size_extract,eq_iff_iff,iff_true,iff_false] at *;omega)];try with_reducible rfl)
                            rotate_left
                            ·simp only [Act.put,List.setIfInBounds_toArray,List.set_cons_zero,List.set_cons_succ,i64_w,i32_w]
                             rfl
                            refine pure_ (i:=10) (N:=some 66) (v:=?_) (a':=?_) #[true,true,true,true,true,true,true,true,true,true,true,false,false,false,false,false,false,false,false,false,false,false,false,false,false,false,false,false,false,false] rfl rfl (any_of HT_.out (by kernel_rfl)) (fun _ _ _ h=>h) (Or.inl ⟨by rfl,?_⟩) ?_ ?_
                            rotate_left
                            ·intro w'
                             go_simp
                             first|with_reducible rfl|(rw [if_neg (by simp only [ByteArray.size_append,ByteArray.size_extract,eq_iff_iff,iff_true,iff_false] at *;omega)];try with_reducible rfl)
                            rotate_left
                            ·simp only [Act.put,List.setIfInBounds_toArray,List.set_cons_zero,List.set_cons_succ,i64_w,i32_w]
                             rfl
                            refine pure_ (i:=11) (N:=some 67) (v:=?_) (a':=?_) #[true,true,true,true,true,true,true,true,true,true,true,true,false,false,false,false,false,false,false,false,false,false,false,false,false,false,false,false,false,false] rfl rfl (any_of HT_.out (by kernel_rfl)) (fun _ _ _ h=>h) (Or.inl ⟨by rfl,?_⟩) ?_ ?_
                            rotate_left
                            ·intro w'
                             go_simp
                             first|with_reducible rfl|(rw [if_neg (by simp only [ByteArray.size_append,ByteArray.size_extract,eq_iff_iff,iff_true,iff_false] at *;omega)];try with_reducible rfl)
                            rotate_left
                            ·simp only [Act.put,List.setIfInBounds_toArray,List.set_cons_zero,List.set_cons_succ,i64_w,i32_w]
                             rfl
                            refine pure_ (i:=12) (N:=some 68) (v:=?_) (a':=?_) #[true,true,true,true,true,true,true,true,true,true,true,true,true,false,false,false,false,false,false,false,false,false,false,false,false,false,false,false,false,false] rfl rfl (any_of HT_.out (by kernel_rfl)) (fun _ _ _ h=>h) (Or.inl ⟨by rfl,?_⟩) ?_ ?_
                            rotate_left
                            ·intro w'
                             go_simp
                             first|with_reducible rfl|(rw [if_neg (by simp only [ByteArray.size_append,ByteArray.size_extract,eq_iff_iff,iff_true,iff_false] at *;omega)];try with_reducible rfl)
                            rotate_left
                            ·simp only [Act.put,List.setIfInBounds_toArray,List.set_cons_zero,List.set_cons_succ,i64_w,i32_w]
                             rfl
                            refine take_ (i:=13) (N:=some 69) (v:=?_) (a':=?_) #[true,true,true,true,true,true,true,true,true,true,true,true,true,true,false,false,false,false,false,false,false,false,false,false,false,false,false,false,false,false] rfl rfl (take_ofW HT_.out HW_.out (by kernel_rfl)) (fun _ _ _ h=>h) (Or.inl ⟨by rfl,?_⟩) hHeld ?_ ?_
                            rotate_left
                            ·rintro w' ⟨s0,s1,s2,s3,s4,s5,s6,s7,s8,s9,s10,s11⟩
                             go_simp
                             first|with_reducible rfl|(rw [if_neg (by simp only [ByteArray.size_append,ByteArray.size_extract,eq_iff_iff,iff_true,iff_false] at *;omega)];try with_reducible rfl)
                            rotate_left
                            ·simp only [Act.put,List.setIfInBounds_toArray,List.set_cons_zero,List.set_cons_succ,i64_w,i32_w]
                             rfl
                            refine pure_ (i:=14) (N:=some 70) (v:=?_) (a':=?_) #[true,true,true,true,true,true,true,true,true,true,true,true,true,true,true,false,false,false,false,false,false,false,false,false,false,false,false,false,false,false] rfl rfl (any_of HT_.out (by kernel_rfl)) (fun _ _ _ h=>h) (Or.inl ⟨by rfl,?_⟩) ?_ ?_
                            rotate_left
                            ·intro w'
                             go_simp
                             first|with_reducible rfl|(rw [if_neg (by simp only [ByteArray.size_append,ByteArray.size_extract,eq_iff_iff,iff_true,iff_false] at *;omega)];try with_reducible rfl)
                            rotate_left
                            ·simp only [Act.put,List.setIfInBounds_toArray,List.set_cons_zero,List.set_cons_succ,i64_w,i32_w]
                             rfl
                            refine pure_ (i:=15) (N:=some 71) (v:=?_) (a':=?_) #[true,true,true,true,true,true,true,true,true,true,true,true,true,true,true,true,false,false,false,false,false,false,false,false,false,false,false,false,false,false] rfl rfl (any_of HT_.out (by kernel_rfl)) (fun _ _ _ h=>h) (Or.inl ⟨by rfl,?_⟩) ?_ ?_
                            rotate_left
                            ·intro w'
                             go_simp
                             first|with_reducible rfl|(rw [if_neg (by simp only [ByteArray.size_append,ByteArray.size_extract,eq_iff_iff,iff_true,iff_false] at *;omega)];try with_reducible rfl)
                            rotate_left
                            ·simp only [Act.put,List.setIfInBounds_toArray,List.set_cons_zero,List.set_cons_succ,i64_w,i32_w]
                             rfl
                            refine take_ (i:=16) (N:=some 72) (v:=?_) (a':=?_) #[true,true,true,true,true,true,true,true,true,true,true,true,true,true,true,true,true,false,false,false,false,false,false,false,false,false,false,false,false,false] rfl rfl (take_ofW HT_.out HW_.out (by kernel_rfl)) (fun _ _ _ h=>h) (Or.inl ⟨by rfl,?_⟩) hHeld ?_ ?_
                            rotate_left
                            ·rintro w' ⟨s0,s1,s2,s3,s4,s5,s6,s7,s8,s9,s10,s11⟩
                             go_simp
                             first|with_reducible rfl|(rw [if_neg (by simp only [ByteArray.size_append,ByteArray.size_extract,eq_iff_iff,iff_true,iff_false] at *;omega)];try with_reducible rfl)
                            rotate_left
                            ·simp only [Act.put,List.setIfInBounds_toArray,List.set_cons_zero,List.set_cons_succ,i64_w,i32_w]
                             rfl
                            refine pure_ (i:=17) (N:=some 73) (v:=?_) (a':=?_) #[true,true,true,true,true,true,true,true,true,true,true,true,true,true,true,true,true,true,false,false,false,false,false,false,false,false,false,false,false,false] rfl rfl (any_of HT_.out (by kernel_rfl)) (fun _ _ _ h=>h) (Or.inl ⟨by rfl,?_⟩) ?_ ?_
                            rotate_left
                            ·intro w'
                             go_simp
                             first|with_reducible rfl|(rw [if_neg (by simp only [ByteArray.size_append,ByteArray.size_extract,eq_iff_iff,iff_true,iff_false] at *;omega)];try with_reducible rfl)
                            rotate_left
                            ·simp only [Act.put,List.setIfInBounds_toArray,List.set_cons_zero,List.set_cons_succ,i64_w,i32_w]
                             rfl
                            refine pure_ (i:=18) (N:=some 74) (v:=?_) (a':=?_) #[true,true,true,true,true,true,true,true,true,true,true,true,true,true,true,true,true,true,true,false,false,false,false,false,false,false,false,false,false,false] rfl rfl (any_of HT_.out (by kernel_rfl)) (fun _ _ _ h=>h) (Or.inl ⟨by rfl,?_⟩) ?_ ?_
                            rotate_left
                            ·intro w'
                             go_simp
                             first|with_reducible rfl|(rw [if_neg (by simp only [ByteArray.size_append,ByteArray.size_extract,eq_iff_iff,iff_true,iff_false] at *;omega)];try with_reducible rfl)
                            rotate_left
                            ·simp only [Act.put,List.setIfInBounds_toArray,List.set_cons_zero,List.set_cons_succ,i64_w,i32_w]
                             rfl
                            refine pure_ (i:=19) (N:=some 75) (v:=?_) (a':=?_) #[true,true,true,true,true,true,true,true,true,true,true,true,true,true,true,true,true,true,true,true,false,false,false,false,false,false,false,false,false,false] rfl rfl (any_of HT_.out (by kernel_rfl)) (fun _ _ _ h=>h) (Or.inl ⟨by rfl,?_⟩) ?_ ?_
                            rotate_left
                            ·intro w'
                             go_simp
                             first|with_reducible rfl|(rw [if_neg (by simp only [ByteArray.size_append,ByteArray.size_extract,eq_iff_iff,iff_true,iff_false] at *;omega)];try with_reducible rfl)
                            rotate_left
                            ·simp only [Act.put,List.setIfInBounds_toArray,List.set_cons_zero,List.set_cons_succ,i64_w,i32_w]
                             rfl
                            refine pure_ (i:=20) (N:=some 76) (v:=?_) (a':=?_) #[true,true,true,true,true,true,true,true,true,true,true,true,true,true,true,true,true,true,true,true,true,false,false,false,false,false,false,false,false,false] rfl rfl (any_of HT_.out (by kernel_rfl)) (fun _ _ _ h=>h) (Or.inl ⟨by rfl,?_⟩) ?_ ?_
                            rotate_left
                            ·intro w'
                             go_simp
                             first|with_reducible rfl|(rw [if_neg (by simp only [ByteArray.size_append,ByteArray.size_extract,eq_iff_iff,iff_true,iff_false] at *;omega)];try with_reducible rfl)
                            rotate_left
                            ·simp only [Act.put,List.setIfInBounds_toArray,List.set_cons_zero,List.set_cons_succ,i64_w,i32_w]
                             rfl
                            refine pure_ (i:=21) (N:=some 77) (v:=?_) (a':=?_) #[true,true,true,true,true,true,true,true,true,true,true,true,true,true,true,true,true,true,true,true,true,true,false,false,false,false,false,false,false,false] rfl rfl (any_of HT_.out (by kernel_rfl)) (fun _ _ _ h=>h) (Or.inl ⟨by rfl,?_⟩) ?_ ?_
                            rotate_left
                            ·intro w'
                             go_simp
                             first|with_reducible rfl|(rw [if_neg (by simp only [ByteArray.size_append,ByteArray.size_extract,eq_iff_iff,iff_true,iff_false] at *;omega)];try with_reducible rfl)
                            rotate_left
                            ·simp only [Act.put,List.setIfInBounds_toArray,List.set_cons_zero,List.set_cons_succ,i64_w,i32_w]
                             rfl
                            refine pure_ (i:=25) (N:=some 81) (v:=?_) (a':=?_) #[true,true,true,true,true,true,true,true,true,true,true,true,true,true,true,true,true,true,true,true,true,true,false,false,false,true,false,false,false,false] rfl rfl (any_of HT_.out (by kernel_rfl)) (fun _ _ _ h=>h) (Or.inl ⟨by rfl,?_⟩) ?_ ?_
                            rotate_left
                            ·intro w'
                             go_simp
                             first|with_reducible rfl|(rw [if_neg (by simp only [ByteArray.size_append,ByteArray.size_extract,eq_iff_iff,iff_true,iff_false] at *;omega)];try with_reducible rfl)
                            rotate_left
                            ·simp only [Act.put,List.setIfInBounds_toArray,List.set_cons_zero,List.set_cons_succ,i64_w,i32_w]
                             rfl
                            refine pure_ (i:=26) (N:=some 82) (v:=?_) (a':=?_) #[true,true,true,true,true,true,true,true,true,true,true,true,true,true,true,true,true,true,true,true,true,true,false,false,false,true,true,false,false,false] rfl rfl (any_of HT_.out (by kernel_rfl)) (fun _ _ _ h=>h) (Or.inl ⟨by rfl,?_⟩) ?_ ?_
                            rotate_left
                            ·intro w'
                             go_simp
                             first|with_reducible rfl|(rw [if_neg (by simp only [ByteArray.size_append,ByteArray.size_extract,eq_iff_iff,iff_true,iff_false] at *;omega)];try with_reducible rfl)
                            rotate_left
                            ·simp only [Act.put,List.setIfInBounds_toArray,List.set_cons_zero,List.set_cons_succ,i64_w,i32_w]
                             rfl
                            refine take_ (i:=22) (N:=some 78) (v:=?_) (a':=?_) #[true,true,true,true,true,true,true,true,true,true,true,true,true,true,true,true,true,true,true,true,true,true,true,false,false,true,true,false,false,false] rfl rfl (take_ofW HT_.out HW_.out (by kernel_rfl)) (fun _ _ _ h=>h) (Or.inl ⟨by rfl,?_⟩) hHeld ?_ ?_
                            rotate_left
                            ·rintro w' ⟨s0,s1,s2,s3,s4,s5,s6,s7,s8,s9,s10,s11⟩
                             go_simp
                             first|with_reducible rfl|(rw [if_neg (by simp only [ByteArray.size_append,ByteArray.size_extract,eq_iff_iff,iff_true,iff_false] at *;omega)];try with_reducible rfl)
                            rotate_left
                            ·simp only [Act.put,List.setIfInBounds_toArray,List.set_cons_zero,List.set_cons_succ,i64_w,i32_w]
                             rfl
                            refine pure_ (i:=23) (N:=some 79) (v:=?_) (a':=?_) #[true,true,true,true,true,true,true,true,true,true,true,true,true,true,true,true,true,true,true,true,true,true,true,true,false,true,true,false,false,false] rfl rfl (any_of HT_.out (by kernel_rfl)) (fun _ _ _ h=>h) (Or.inl ⟨by rfl,?_⟩) ?_ ?_
                            rotate_left
                            ·intro w'
                             go_simp
                             first|with_reducible rfl|(rw [if_neg (by simp only [ByteArray.size_append,ByteArray.size_extract,eq_iff_iff,iff_true,iff_false] at *;omega)];try with_reducible rfl)
                            rotate_left
                            ·simp only [Act.put,List.setIfInBounds_toArray,List.set_cons_zero,List.set_cons_succ,i64_w,i32_w]
                             rfl
                            refine take_ (i:=24) (N:=some 80) (v:=?_) (a':=?_) #[true,true,true,true,true,true,true,true,true,true,true,true,true,true,true,true,true,true,true,true,true,true,true,true,true,true,true,false,false,false] rfl rfl (take_ofW HT_.out HW_.out (by kernel_rfl)) (fun _ _ _ h=>h) (Or.inl ⟨by rfl,?_⟩) hHeld ?_ ?_
                            rotate_left
                            ·rintro w' ⟨s0,s1,s2,s3,s4,s5,s6,s7,s8,s9,s10,s11⟩
                             go_simp
                             first|with_reducible rfl|(rw [if_neg (by simp only [ByteArray.size_append,ByteArray.size_extract,eq_iff_iff,iff_true,iff_false] at *;omega)];try with_reducible rfl)
                            rotate_left
                            ·simp only [Act.put,List.setIfInBounds_toArray,List.set_cons_zero,List.set_cons_succ,i64_w,i32_w]
                             rfl
                            refine take_ (i:=27) (N:=some 83) (v:=?_) (a':=?_) #[true,true,true,true,true,true,true,true,true,true,true,true,true,true,true,true,true,true,true,true,true,true,true,true,true,true,true,true,false,false] rfl rfl (take_ofW HT_.out HW_.out (by kernel_rfl)) (fun _ _ _ h=>h) (Or.inl ⟨by rfl,?_⟩) hHeld ?_ ?_
                            rotate_left
                            ·rintro w' ⟨s0,s1,s2,s3,s4,s5,s6,s7,s8,s9,s10,s11⟩
                             go_simp
                             first|with_reducible rfl|(rw [if_neg (by simp only [ByteArray.size_append,ByteArray.size_extract,eq_iff_iff,iff_true,iff_false] at *;omega)];try with_reducible rfl)
                            rotate_left
                            ·simp only [Act.put,List.setIfInBounds_toArray,List.set_cons_zero,List.set_cons_succ,i64_w,i32_w]
                             rfl
                            refine one_ (i:=28) (N:=some 84) #[true,true,true,true,true,true,true,true,true,true,true,true,true,true,true,true,true,true,true,true,true,true,true,true,true,true,true,true,true,false] rfl rfl (one_of HT_.out (by kernel_rfl)) (by decide) (fun K hK=>?_)
                            refine goes_ Tryd.func58 (by kernel_rfl) rfl #[.agg #[.int .i64 ((rd_T49 l1 ((rd_T85 l0_0 x13_3).f2)).f0),.bool ((rd_T49 l1 ((rd_T85 l0_0 x13_3).f2)).f1),.string ((rd_T49 l1 ((rd_T85 l0_0 x13_3).f2)).f2),.slice A170_3 ((rd_T49 l1 ((rd_T85 l0_0 x13_3).f2)).f3).length c170_3],.int .u8 (bt a2 x11_1)] (by rfl) rfl rfl (by (try simp only [List.map_toArray,List.map_cons,List.map_nil]);first|done|rfl|(simp only [List.length_drop,List.length_take];rfl)) ?_
                            with_reducible refine (spec_l2in.calls k3 ((rd_T49 l1 ((rd_T85 l0_0 x13_3).f2)).f0) ((rd_T49 l1 ((rd_T85 l0_0 x13_3).f2)).f1) ((rd_T49 l1 ((rd_T85 l0_0 x13_3).f2)).f2) _ _ ((rd_T49 l1 ((rd_T85 l0_0 x13_3).f2)).f3) (bt a2 x11_1) true _ ?side1 ?side2 A44.out).mono ?_
                            (case side1=>repeat (first|exact (Kd.C_below HR171_3.out HB.out)|(with_reducible refine Kd.C_alloc ?_ _)|(with_reducible refine Kd.C_drewN ?_ _)|(with_reducible refine Kd.C_drew ?_)))
                            (case side2=>exact HC171_3.out)
                            rintro e w55 ⟨rfl,hb⟩
                            have HS3_:=(hb.cell (World.block_lt_of_cell? _ _ (hHeld.2.2.2.1))).trans (hHeld.2.2.2.1)
                            refine ⟨_,rfl,?_⟩
                            have n0_:=Aside0.mk (Kd.R_below (by (with_reducible repeat (first|apply Kd.R_alloc|apply Kd.R_drewN|apply Kd.R_drew));exact HO_9.out) hb)
                            have n1_:=Aside0.mk (Kd.R_below (by (with_reducible repeat (first|apply Kd.R_alloc|apply Kd.R_drewN|apply Kd.R_drew));exact HO_10.out) hb)
                            have n2_:=Aside0.mk (Kd.R_below (by (with_reducible repeat (first|apply Kd.R_alloc|apply Kd.R_drewN|apply Kd.R_drew));exact HO_12.out) hb)
                            have n3_:=Aside0.mk (blk_below (g:=gb154) (o:=.cells #[.slice (some ad167) l0_0.length c0_0,.int .i64 a0_1] 59 (0,0)) (by (with_reducible repeat (first|refine blk_drewN ?_ _|refine blk_drew ?_|refine blk_alloc ?_ _));exact BK154.out) hb)
                            have n4_:=Aside0.mk (blk_below (g:=gb168) (o:=.cells #[.int .i64 ((rd_T85 l0_0 x13_3).f0),.int .i64 ((rd_T85 l0_0 x13_3).f1),.int .i64 ((rd_T85 l0_0 x13_3).f2)] 85 (0,0)) (by (with_reducible repeat (first|refine blk_drewN ?_ _|refine blk_drew ?_|refine blk_alloc ?_ _));exact BK168.out) hb)
                            have n5_:=Aside0.mk (below_step (by repeat (first|(with_reducible first|exact HB.out|apply below_alloc|apply pw_below_drewN|apply below_drew1|refine below_set ?_ GE154.out|refine below_set ?_ GE168.out)|exact HB.out)) hb)
                            clear HO_9
                            clear HO_10
                            clear HO_12
                            clear BK154
                            clear BK168
                            clear HB
                            have HO_9:=n0_
                            have HO_10:=n1_
                            have HO_12:=n2_
                            have BK154:=n3_
                            have BK168:=n4_
                            have HB:=n5_
                            clear n0_ n1_ n2_ n3_ n4_ n5_
                            (try clear hb)
                            (try clear hb2)
                            (try clear hk)
                            (try clear hi)
                            refine hK.out _ _ ⟨(blk_cell BK168.out 0).trans rfl,(blk_cell BK168.out 1).trans rfl,(blk_cell BK168.out 2).trans rfl,HS3_,((HB.out.cell (World.block_lt_of_cell? w _ hw170_0)).trans hw170_0),((HB.out.cell (World.block_lt_of_cell? w _ hw170_1)).trans hw170_1),((HB.out.cell (World.block_lt_of_cell? w _ hw170_2)).trans hw170_2),((HB.out.cell (World.block_lt_of_cell? w _ hw170_3)).trans hw170_3),((HB.out.cell (World.block_lt_of_cell? w _ hw171_0)).trans hw171_0),((HB.out.cell (World.block_lt_of_cell? w _ hw171_1)).trans hw171_1),((HB.out.cell (World.block_lt_of_cell? w _ hw171_2)).trans hw171_2),((HB.out.cell (World.block_lt_of_cell? w _ hw171_3)).trans hw171_3)⟩ (fun hHeld=>?_)
                            clear hK K
                            refine norm_ (a':=?_) ?_ ?_
                            rotate_left
                            ·show Act.put _ (some 84) _ = _
                             simp only [Act.put,List.setIfInBounds_toArray,List.set_cons_zero,List.set_cons_succ,i64_w,i32_w]
                             rfl
                            refine pure_ (i:=29) (N:=some 85) (v:=?_) (a':=?_) #[true,true,true,true,true,true,true,true,true,true,true,true,true,true,true,true,true,true,true,true,true,true,true,true,true,true,true,true,true,true] rfl rfl (any_of HT_.out (by kernel_rfl)) (fun _ _ _ h=>h) (Or.inl ⟨by rfl,?_⟩) ?_ ?_
                            rotate_left
                            ·intro w'
                             go_simp
                             first|with_reducible rfl|(rw [if_neg (by simp only [ByteArray.size_append,ByteArray.size_extract,eq_iff_iff,iff_true,iff_false] at *;omega)];try with_reducible rfl)
                            rotate_left
                            ·simp only [Act.put,List.setIfInBounds_toArray,List.set_cons_zero,List.set_cons_succ,i64_w,i32_w]
                             rfl
                            refine done_ (done_of HT_.out (by kernel_rfl)) ?_
                            have hcz56_0 : w55.cell? ⟨gb168,0,none⟩ = some (.int .i64 ((rd_T85 l0_0 x13_3).f0)):=(blk_cell BK168.out 0).trans rfl
                            have hcz56_1 : w55.cell? ⟨gb168,1,none⟩ = some (.int .i64 ((rd_T85 l0_0 x13_3).f1)):=(blk_cell BK168.out 1).trans rfl
                            have hcz56_2 : w55.cell? ⟨gb168,2,none⟩ = some (.int .i64 ((rd_T85 l0_0 x13_3).f2)):=(blk_cell BK168.out 2).trans rfl
                            have hfz56_0:=blk_frozen BK168.out 0
                            have hfz56_1:=blk_frozen BK168.out 1
                            have hfz56_2:=blk_frozen BK168.out 2
                            have p48 : 0 ≤ (((rd_T85 l0_0 x13_3).f1) : Int):=of_decide_eq_true (by first|(with_reducible assumption)|assumption)
                            have q48 : (((rd_T85 l0_0 x13_3).f1) : Int) < ((x12_3.length : Int) : Int):=of_decide_eq_true (by first|(with_reducible assumption)|assumption)
                            obtain ⟨go48,co48,eo48,gb48,gl48,cl48,HG48⟩:=Kd.R_form HO_12.out (by omega)
                            (first|cases eo48|(injection eo48 with ea_ en_ ec_;(first|subst ea_|(injection ea_ with ea_;subst ea_));subst ec_;clear en_))
                            have GB48:=Aside0.mk gb48
                            have GG48:=Aside0.mk HG48
                            clear gb48 gl48 HG48
                            obtain ⟨hx48_0,hf48_0⟩:=Kd.R_celln false HO_12.out (((rd_T85 l0_0 x13_3).f1) : Int) p48 q48
                            replace p48:=eq_true p48
                            replace q48:=eq_true q48
                            obtain ⟨hy57_,hz57_⟩:=Kd.R_celln false HO_12.out (((rd_T85 l0_0 x13_3).f1) : Int) (of_decide_eq_true (by first|(with_reducible assumption)|assumption)) (of_decide_eq_true (by first|(with_reducible assumption)|assumption))
                            have HP57:=Kd.R_putg HO_12.out (((rd_T85 l0_0 x13_3).f1) : Int) true
                            try go_wp2_with (first|((with_reducible refine gate_store (t:=4) (p:=89) rfl ?_);refine store_event (t:=4) (p:=89) (v:=?vo_w58) (w1:=(w55.setCell ⟨go48,(((rd_T85 l0_0 x13_3).f1) : Int).toNat,none⟩ (.bool true))) ?hg ?ho ?hn ?hr ?_;(case ho=>rfl);(case hg=>rfl);(case hn=>rfl);(case hr=>first|(go_simp;done)|(go_simp;rfl));intro w58 hw;have hg : w55.grownBy w58 (some go48):=(by rw [hw];exact HP57.2);have hp_ : Kd.R Kd.bool 4 w58 w.heap.size (fun k_=>some k_ ≠ (.slice (some ad160) t159.length co19 : Value).ownBlock) (.slice (some ⟨go48,0,none⟩) x12_3.length co48) y173:=(by rw [hw,Ny173.out];exact HP57.1);clear HP57;have n0_:=Aside0.mk (Kd.R_over' (v:=(.slice (some ⟨go48,0,none⟩) x12_3.length co48)) (by (with_reducible repeat (first|apply Kd.R_alloc|apply Kd.R_drewN|apply Kd.R_drew));exact HO_9.out) (Kd.R_typed HO_12.out) (by decide) hg);have n1_:=Aside0.mk (Kd.R_after (v:=(.slice (some ⟨go48,0,none⟩) x12_3.length co48)) (v1:=(.slice (some ⟨go48,0,none⟩) x12_3.length co48)) (ok:=(fun _=>True)) (by (with_reducible repeat (first|apply Kd.R_alloc|apply Kd.R_drewN|apply Kd.R_drew));exact Kd.R_mono HO_10.out (fun _ hk=>⟨trivial,hk⟩)) hg (.inl rfl));have n2_:=Aside0.mk (hp_);have n3_:=Aside0.mk (blk_grown (g:=gb154) (o:=.cells #[.slice (some ad167) l0_0.length c0_0,.int .i64 a0_1] 59 (0,0)) (by (with_reducible repeat (first|refine blk_drewN ?_ _|refine blk_drew ?_|refine blk_alloc ?_ _));exact BK154.out) hg (Kd.R_ne HO_12.out BK154.out (by decide)));have n4_:=Aside0.mk (blk_grown (g:=gb168) (o:=.cells #[.int .i64 ((rd_T85 l0_0 x13_3).f0),.int .i64 ((rd_T85 l0_0 x13_3).f1),.int .i64 ((rd_T85 l0_0 x13_3).f2)] 85 (0,0)) (by (with_reducible repeat (first|refine blk_drewN ?_ _|refine blk_drew ?_|refine blk_alloc ?_ _));exact BK168.out) hg (Kd.R_ne HO_12.out BK168.out (by decide)));have n5_:=Aside0.mk ((by rw [hw];exact below_set (HB.out) GB48.out : Below w.heap.size w w58));clear HO_9;clear HO_10;clear HO_12;clear BK154;clear BK168;clear HB;have HO_9:=n0_;have HO_10:=n1_;have HO_12:=n2_;have BK154:=n3_;have BK168:=n4_;have HB:=n5_;clear n0_ n1_ n2_ n3_ n4_ n5_;clear hg hw hp_))
                            go_roundg k3
                            case measure=>have:=HK1.out;have:=HJ16.out;have:=HK3.out;omega
                            case rel=>exact ⟨(y173),(wrap64 (x13_3 + 1)),(by first|rfl|(simp;done)|(simp [*];done)),H',⟨by have:=HK1.out;have:=HJ16.out;have:=HK3.out;omega⟩,⟨by (try simp only [hl10_16]);(with_reducible repeat (first|apply Kd.R_alloc|apply Kd.R_drewN|apply Kd.R_drew));exact HO_9.out⟩,⟨by (try simp only [hl10_16]);(with_reducible repeat (first|apply Kd.R_alloc|apply Kd.R_drewN|apply Kd.R_drew));exact Kd.R_mono HO_10.out (fun _ hk=>hk.2)⟩,⟨by (try simp only [hl10_16]);(with_reducible repeat (first|apply Kd.R_alloc|apply Kd.R_drewN|apply Kd.R_drew));exact HO_12.out⟩,⟨by (try simp only [hl10_16]);(with_reducible repeat (first|refine blk_drewN ?_ _|refine blk_drew ?_|refine blk_alloc ?_ _));exact BK154.out⟩,⟨by repeat (first|(with_reducible first|exact HB.out|apply below_alloc|apply pw_below_drewN|apply below_drew1|refine below_set ?_ GE154.out|refine below_set ?_ GE168.out)|exact HB.out)⟩⟩
                           ·rw [if_neg c47] at H
                            exact absurd H (by simp)
                          ·rw [if_neg c46] at H
                           exact absurd H (by simp)
                         ·replace c45:=Bool.eq_false_iff.mpr c45
                          subst c45
                          have H1 : (spec_l2ends.l1 k3 l1 a2 x9_16 t159 x11_1 x12_3 (wrap64 (x13_3 + 1)) l0_0 a0_1) = some r:=by rw [if_neg (show ¬ (false = true) by decide)] at H;exact H
                          clear H
                          have H:=H1
                          clear H1
                          have H':=Aside0.mk H
                          clear H
                          have hcz59_0 : wr.cell? ⟨gb154,0,none⟩ = some (.slice A0_0 l0_0.length c0_0):=(blk_cell BK154.out 0).trans rfl
                          have hcz59_1 : wr.cell? ⟨gb154,1,none⟩ = some (.int .i64 a0_1):=(blk_cell BK154.out 1).trans rfl
                          have hfz59_0:=blk_frozen BK154.out 0
                          have hfz59_1:=blk_frozen BK154.out 1
                          have p167 : 0 ≤ (x13_3 : Int):=of_decide_eq_true (by first|(with_reducible assumption)|assumption)
                          have q167 : x13_3 < (l0_0.length : Int):=of_decide_eq_true (by first|(with_reducible assumption)|assumption)
                          obtain ⟨ad167,e167,hx167_0,hx167_1,hx167_2⟩:=at_T85 HR0_0.out x13_3 p167 q167
                          cases e167
                          replace hx167_0:=(HB.out.cell (World.block_lt_of_cell? w _ hx167_0)).trans hx167_0
                          replace hx167_1:=(HB.out.cell (World.block_lt_of_cell? w _ hx167_1)).trans hx167_1
                          replace hx167_2:=(HB.out.cell (World.block_lt_of_cell? w _ hx167_2)).trans hx167_2
                          replace p167:=eq_true p167
                          replace q167:=eq_true q167
                          try go_wp2_with (first|((with_reducible refine gate_dst (N:=14) rfl ?_);refine box_event ?hg (N:=14) ?hd (cs:=#[.int .i64 0,.int .i64 0,.int .i64 0]) (t:=85) ?hr ?_;(case hd=>rfl);(case hg=>rfl);(case hr=>first|(go_simp;done)|(go_simp;rfl));intro gb168 hg w60 hbox hb;have n0_:=Aside0.mk (Kd.R_below (by (with_reducible repeat (first|apply Kd.R_alloc|apply Kd.R_drewN|apply Kd.R_drew));exact HO_9.out) hb);have n1_:=Aside0.mk (Kd.R_below (by (with_reducible repeat (first|apply Kd.R_alloc|apply Kd.R_drewN|apply Kd.R_drew));exact HO_10.out) hb);have n2_:=Aside0.mk (Kd.R_below (by (with_reducible repeat (first|apply Kd.R_alloc|apply Kd.R_drewN|apply Kd.R_drew));exact HO_12.out) hb);have n3_:=Aside0.mk (blk_below (g:=gb154) (o:=.cells #[.slice (some ad167) l0_0.length c0_0,.int .i64 a0_1] 59 (0,0)) (by (with_reducible repeat (first|refine blk_drewN ?_ _|refine blk_drew ?_|refine blk_alloc ?_ _));exact BK154.out) hb);have n4_:=Aside0.mk (below_step (by repeat (first|(with_reducible first|exact HB.out|apply below_alloc|apply pw_below_drewN|apply below_drew1|refine below_set ?_ GE154.out)|exact HB.out)) hb);have n5_:=Aside0.mk (hbox);have n6_:=Aside0.mk ((by rw [hg];exact (below_size (by repeat (first|(with_reducible first|exact HB.out|apply below_alloc|apply pw_below_drewN|apply below_drew1|refine below_set ?_ GE154.out)|exact HB.out))) : w.heap.size ≤ gb168));have n7_:=Aside0.mk ((by rw [hg];exact (below_size (by repeat (first|(with_reducible first|exact HB.out|apply below_alloc|apply pw_below_drewN|apply below_drew1|refine below_set ?_ GE154.out)|exact HB.out))) : w.heap.size ≤ gb168));have n8_:=Aside0.mk ((by rw [hg];exact Nat.ne_of_lt (blk_lt (g:=gb154) (o:=.cells #[.slice (some ad167) l0_0.length c0_0,.int .i64 a0_1] 59 (0,0)) (by (with_reducible repeat (first|refine blk_drewN ?_ _|refine blk_drew ?_|refine blk_alloc ?_ _));exact BK154.out)) : gb154 ≠ gb168));have n9_:=Aside0.mk ((by rw [hg];exact Nat.ne_of_gt (blk_lt (g:=gb154) (o:=.cells #[.slice (some ad167) l0_0.length c0_0,.int .i64 a0_1] 59 (0,0)) (by (with_reducible repeat (first|refine blk_drewN ?_ _|refine blk_drew ?_|refine blk_alloc ?_ _));exact BK154.out)) : gb168 ≠ gb154));clear HO_9;clear HO_10;clear HO_12;clear BK154;clear HB;have HO_9:=n0_;have HO_10:=n1_;have HO_12:=n2_;have BK154:=n3_;have HB:=n4_;have BK168:=n5_;have GW168:=n6_;have GE168:=n7_;have NB154_168:=n8_;have NB168_154:=n9_;clear n0_ n1_ n2_ n3_ n4_ n5_ n6_ n7_ n8_ n9_;clear hb hbox hg;have hnb61:=NB168_154.out;have hnc61:=NB154_168.out;have hcz62_0 : w60.cell? ⟨gb168,0,none⟩ = some (.int .i64 0):=(blk_cell BK168.out 0).trans rfl;have hcz62_1 : w60.cell? ⟨gb168,1,none⟩ = some (.int .i64 0):=(blk_cell BK168.out 1).trans rfl;have hcz62_2 : w60.cell? ⟨gb168,2,none⟩ = some (.int .i64 0):=(blk_cell BK168.out 2).trans rfl;have hfz62_0:=blk_frozen BK168.out 0;have hfz62_1:=blk_frozen BK168.out 1;have hfz62_2:=blk_frozen BK168.out 2))
                          have n0_ : Aside0 (Kd.R (Kd.int .i64) 3 (((w60.setCell ⟨gb168,0,none⟩ (.int .i64 ((rd_T85 l0_0 x13_3).f0))).setCell ⟨gb168,1,none⟩ (.int .i64 ((rd_T85 l0_0 x13_3).f1))).setCell ⟨gb168,2,none⟩ (.int .i64 ((rd_T85 l0_0 x13_3).f2))) w.heap.size (fun _=>True) u9 x9_16):=⟨by (with_reducible repeat (first|apply Kd.R_alloc|apply Kd.R_drewN|apply Kd.R_drew));exact Kd.R_mono (Kd.R_far (p:=⟨gb168,2,none⟩) (Kd.R_far (p:=⟨gb168,1,none⟩) (Kd.R_far (p:=⟨gb168,0,none⟩) (Kd.R_types HO_9.out BK168.out (by decide)) (fun _ hk=>hk.2) (.int .i64 ((rd_T85 l0_0 x13_3).f0))) (fun _ hk=>hk.2) (.int .i64 ((rd_T85 l0_0 x13_3).f1))) (fun _ hk=>hk.2) (.int .i64 ((rd_T85 l0_0 x13_3).f2))) (fun _ hk=>trivial)⟩
                          have n1_ : Aside0 (Kd.R Kd.bool 4 (((w60.setCell ⟨gb168,0,none⟩ (.int .i64 ((rd_T85 l0_0 x13_3).f0))).setCell ⟨gb168,1,none⟩ (.int .i64 ((rd_T85 l0_0 x13_3).f1))).setCell ⟨gb168,2,none⟩ (.int .i64 ((rd_T85 l0_0 x13_3).f2))) w.heap.size (fun k_=>some k_ ≠ (v165 : Value).ownBlock) (.slice (some ad160) t159.length co19) t159):=⟨by (with_reducible repeat (first|apply Kd.R_alloc|apply Kd.R_drewN|apply Kd.R_drew));exact Kd.R_mono (Kd.R_far (p:=⟨gb168,2,none⟩) (Kd.R_far (p:=⟨gb168,1,none⟩) (Kd.R_far (p:=⟨gb168,0,none⟩) (Kd.R_types HO_10.out BK168.out (by decide)) (fun _ hk=>hk.2) (.int .i64 ((rd_T85 l0_0 x13_3).f0))) (fun _ hk=>hk.2) (.int .i64 ((rd_T85 l0_0 x13_3).f1))) (fun _ hk=>hk.2) (.int .i64 ((rd_T85 l0_0 x13_3).f2))) (fun _ hk=>hk.1)⟩
                          have n2_ : Aside0 (Kd.R Kd.bool 4 (((w60.setCell ⟨gb168,0,none⟩ (.int .i64 ((rd_T85 l0_0 x13_3).f0))).setCell ⟨gb168,1,none⟩ (.int .i64 ((rd_T85 l0_0 x13_3).f1))).setCell ⟨gb168,2,none⟩ (.int .i64 ((rd_T85 l0_0 x13_3).f2))) w.heap.size (fun k_=>some k_ ≠ (.slice (some ad160) t159.length co19 : Value).ownBlock) v165 x12_3):=⟨by (with_reducible repeat (first|apply Kd.R_alloc|apply Kd.R_drewN|apply Kd.R_drew));exact Kd.R_mono (Kd.R_far (p:=⟨gb168,2,none⟩) (Kd.R_far (p:=⟨gb168,1,none⟩) (Kd.R_far (p:=⟨gb168,0,none⟩) (Kd.R_types HO_12.out BK168.out (by decide)) (fun _ hk=>hk.2) (.int .i64 ((rd_T85 l0_0 x13_3).f0))) (fun _ hk=>hk.2) (.int .i64 ((rd_T85 l0_0 x13_3).f1))) (fun _ hk=>hk.2) (.int .i64 ((rd_T85 l0_0 x13_3).f2))) (fun _ hk=>hk.1)⟩
                          have n3_ : Aside0 ((((w60.setCell ⟨gb168,0,none⟩ (.int .i64 ((rd_T85 l0_0 x13_3).f0))).setCell ⟨gb168,1,none⟩ (.int .i64 ((rd_T85 l0_0 x13_3).f1))).setCell ⟨gb168,2,none⟩ (.int .i64 ((rd_T85 l0_0 x13_3).f2))).heap[gb154]? = some (.cells #[.slice (some ad167) l0_0.length c0_0,.int .i64 a0_1] 59 (0,0))):=⟨by (with_reducible repeat (first|refine blk_drewN ?_ _|refine blk_drew ?_|refine blk_alloc ?_ _));refine blk_far ?_ NB154_168.out _;(with_reducible repeat (first|refine blk_drewN ?_ _|refine blk_drew ?_|refine blk_alloc ?_ _));refine blk_far ?_ NB154_168.out _;(with_reducible repeat (first|refine blk_drewN ?_ _|refine blk_drew ?_|refine blk_alloc ?_ _));refine blk_far ?_ NB154_168.out _;(with_reducible repeat (first|refine blk_drewN ?_ _|refine blk_drew ?_|refine blk_alloc ?_ _));exact BK154.out⟩
                          have n4_ : Aside0 ((((w60.setCell ⟨gb168,0,none⟩ (.int .i64 ((rd_T85 l0_0 x13_3).f0))).setCell ⟨gb168,1,none⟩ (.int .i64 ((rd_T85 l0_0 x13_3).f1))).setCell ⟨gb168,2,none⟩ (.int .i64 ((rd_T85 l0_0 x13_3).f2))).heap[gb168]? = some (.cells #[.int .i64 ((rd_T85 l0_0 x13_3).f0),.int .i64 ((rd_T85 l0_0 x13_3).f1),.int .i64 ((rd_T85 l0_0 x13_3).f2)] 85 (0,0))):=⟨by (with_reducible repeat (first|refine blk_drewN ?_ _|refine blk_drew ?_|refine blk_alloc ?_ _));refine blk_put (cs:=#[.int .i64 ((rd_T85 l0_0 x13_3).f0),.int .i64 ((rd_T85 l0_0 x13_3).f1),.int .i64 0]) ?_ 2 _ rfl;(with_reducible repeat (first|refine blk_drewN ?_ _|refine blk_drew ?_|refine blk_alloc ?_ _));refine blk_put (cs:=#[.int .i64 ((rd_T85 l0_0 x13_3).f0),.int .i64 0,.int .i64 0]) ?_ 1 _ rfl;(with_reducible repeat (first|refine blk_drewN ?_ _|refine blk_drew ?_|refine blk_alloc ?_ _));refine blk_put (cs:=#[.int .i64 0,.int .i64 0,.int .i64 0]) ?_ 0 _ rfl;(with_reducible repeat (first|refine blk_drewN ?_ _|refine blk_drew ?_|refine blk_alloc ?_ _));exact BK168.out⟩
                          have n5_ : Aside0 (Below w.heap.size w (((w60.setCell ⟨gb168,0,none⟩ (.int .i64 ((rd_T85 l0_0 x13_3).f0))).setCell ⟨gb168,1,none⟩ (.int .i64 ((rd_T85 l0_0 x13_3).f1))).setCell ⟨gb168,2,none⟩ (.int .i64 ((rd_T85 l0_0 x13_3).f2)))):=⟨by repeat (first|(with_reducible first|exact HB.out|apply below_alloc|apply pw_below_drewN|apply below_drew1|refine below_set ?_ GE154.out|refine below_set ?_ GE168.out)|exact HB.out)⟩
                          (try clear HO_9)
                          (try clear HO_10)
                          (try clear HO_12)
                          (try clear BK154)
                          (try clear BK168)
                          (try clear HB)
                          generalize (((w60.setCell ⟨gb168,0,none⟩ (.int .i64 ((rd_T85 l0_0 x13_3).f0))).setCell ⟨gb168,1,none⟩ (.int .i64 ((rd_T85 l0_0 x13_3).f1))).setCell ⟨gb168,2,none⟩ (.int .i64 ((rd_T85 l0_0 x13_3).f2))) = w63 at n0_ n1_ n2_ n3_ n4_ n5_ ⊢
                          have HO_9:=n0_
                          have HO_10:=n1_
                          have HO_12:=n2_
                          have BK154:=n3_
                          have BK168:=n4_
                          have HB:=n5_
                          clear n0_ n1_ n2_ n3_ n4_ n5_
                          have n0_:=Aside0.mk (Kd.R_drew HO_9.out)
                          have n1_:=Aside0.mk (Kd.R_drew HO_10.out)
                          have n2_:=Aside0.mk (Kd.R_drew HO_12.out)
                          have n3_:=Aside0.mk (blk_drew BK154.out)
                          have n4_:=Aside0.mk (blk_drew BK168.out)
                          have n5_:=Aside0.mk (below_drew1 HB.out)
                          clear HO_9
                          clear HO_10
                          clear HO_12
                          clear BK154
                          clear BK168
                          clear HB
                          have HO_9:=n0_
                          have HO_10:=n1_
                          have HO_12:=n2_
                          have BK154:=n3_
                          have BK168:=n4_
                          have HB:=n5_
                          clear n0_ n1_ n2_ n3_ n4_ n5_
                          have p169 : 0 ≤ (((rd_T85 l0_0 x13_3).f0) : Int):=of_decide_eq_true (by first|(with_reducible assumption)|assumption)
                          have q169 : ((rd_T85 l0_0 x13_3).f0) < (t159.length : Int):=of_decide_eq_true (by first|(with_reducible assumption)|assumption)
                          obtain ⟨ad169,e169,hx169_0⟩:=Kd.at_bool (Kd.R_reads' HO_10.out).2.2 ((rd_T85 l0_0 x13_3).f0) p169 q169
                          (try rw [← Nbq35.out] at hx169_0)
                          obtain rfl : ad160 = ad169:=(by injection e169)
                          replace p169:=eq_true p169
                          replace q169:=eq_true q169
                          have p170 : 0 ≤ (((rd_T85 l0_0 x13_3).f2) : Int):=of_decide_eq_true (by first|(with_reducible assumption)|assumption)
                          have q170 : ((rd_T85 l0_0 x13_3).f2) < (l1.length : Int):=of_decide_eq_true (by first|(with_reducible assumption)|assumption)
                          obtain ⟨ad170,A170_3,c170_3,e170,hx170_0,hx170_1,hx170_2,hx170_3,hl170_3,hi170_3⟩:=at_T49 HR1.out ((rd_T85 l0_0 x13_3).f2) p170 q170
                          have hw170_3:=hx170_3
                          have hw170_2:=hx170_2
                          have hw170_1:=hx170_1
                          have hw170_0:=hx170_0
                          (try rw [← Nbq35.out] at hx170_1)
                          cases e170
                          replace hx170_0:=(HB.out.cell (World.block_lt_of_cell? w _ hx170_0)).trans hx170_0
                          replace hx170_1:=(HB.out.cell (World.block_lt_of_cell? w _ hx170_1)).trans hx170_1
                          replace hx170_2:=(HB.out.cell (World.block_lt_of_cell? w _ hx170_2)).trans hx170_2
                          replace hx170_3:=(HB.out.cell (World.block_lt_of_cell? w _ hx170_3)).trans hx170_3
                          have HR170_3:=Aside0.mk hi170_3
                          have HC170_3:=Aside0.mk hl170_3
                          clear hi170_3 hl170_3
                          replace p170:=eq_true p170
                          replace q170:=eq_true q170
                          have p171 : 0 ≤ (((rd_T85 l0_0 x13_3).f2) : Int):=of_decide_eq_true (by first|(with_reducible assumption)|assumption)
                          have q171 : ((rd_T85 l0_0 x13_3).f2) < (l1.length : Int):=of_decide_eq_true (by first|(with_reducible assumption)|assumption)
                          obtain ⟨ad171,A171_3,c171_3,e171,hx171_0,hx171_1,hx171_2,hx171_3,hl171_3,hi171_3⟩:=at_T49 HR1.out ((rd_T85 l0_0 x13_3).f2) p171 q171
                          have hw171_3:=hx171_3
                          have hw171_2:=hx171_2
                          have hw171_1:=hx171_1
                          have hw171_0:=hx171_0
                          (try rw [← Nbq35.out] at hx171_1)
                          obtain rfl : ad170 = ad171:=(by injection e171)
                          replace hx171_0:=(HB.out.cell (World.block_lt_of_cell? w _ hx171_0)).trans hx171_0
                          replace hx171_1:=(HB.out.cell (World.block_lt_of_cell? w _ hx171_1)).trans hx171_1
                          replace hx171_2:=(HB.out.cell (World.block_lt_of_cell? w _ hx171_2)).trans hx171_2
                          replace hx171_3:=(HB.out.cell (World.block_lt_of_cell? w _ hx171_3)).trans hx171_3
                          have HR171_3:=Aside0.mk hi171_3
                          have HC171_3:=Aside0.mk hl171_3
                          clear hi171_3 hl171_3
                          replace p171:=eq_true p171
                          replace q171:=eq_true q171
                          have ea_:=Option.some.inj (hx170_3.symm.trans hx171_3)
                          injection ea_ with ea_ en_ ec_
                          subst ea_
                          subst ec_
                          clear en_
                          have p43 : 0 ≤ (x11_1 : Int):=of_decide_eq_true (by first|(with_reducible assumption)|assumption)
                          have q43 : x11_1 < (a2.size : Int):=of_decide_eq_true (by first|(with_reducible assumption)|assumption)
                          have hx43:=bt_at a2 x11_1
                          replace p43:=eq_true p43
                          replace q43:=eq_true q43
                          refine start_ (n:=30) (S:=fun w'=>w'.cell? ⟨gb168,0,none⟩ = some (.int .i64 ((rd_T85 l0_0 x13_3).f0)) ∧ w'.cell? ⟨gb168,1,none⟩ = some (.int .i64 ((rd_T85 l0_0 x13_3).f1)) ∧ w'.cell? ⟨gb168,2,none⟩ = some (.int .i64 ((rd_T85 l0_0 x13_3).f2)) ∧ w'.cell? (ad160.add (((rd_T85 l0_0 x13_3).f0)).toNat) = some (.bool true) ∧ w'.cell? (ad170.add ((((rd_T85 l0_0 x13_3).f2)).toNat * 4)) = some (.int .i64 ((rd_T49 l1 ((rd_T85 l0_0 x13_3).f2)).f0)) ∧ w'.cell? ⟨(ad170.add ((((rd_T85 l0_0 x13_3).f2)).toNat * 4)).block,(ad170.add ((((rd_T85 l0_0 x13_3).f2)).toNat * 4)).off + 1,none⟩ = some (.bool ((rd_T49 l1 ((rd_T85 l0_0 x13_3).f2)).f1)) ∧ w'.cell? ⟨(ad170.add ((((rd_T85 l0_0 x13_3).f2)).toNat * 4)).block,(ad170.add ((((rd_T85 l0_0 x13_3).f2)).toNat * 4)).off + 2,none⟩ = some (.string ((rd_T49 l1 ((rd_T85 l0_0 x13_3).f2)).f2)) ∧ w'.cell? ⟨(ad170.add ((((rd_T85 l0_0 x13_3).f2)).toNat * 4)).block,(ad170.add ((((rd_T85 l0_0 x13_3).f2)).toNat * 4)).off + 3,none⟩ = some (.slice A170_3 ((rd_T49 l1 ((rd_T85 l0_0 x13_3).f2)).f3).length c170_3) ∧ w'.cell? (ad170.add ((((rd_T85 l0_0 x13_3).f2)).toNat * 4)) = some (.int .i64 ((rd_T49 l1 ((rd_T85 l0_0 x13_3).f2)).f0)) ∧ w'.cell? ⟨(ad170.add ((((rd_T85 l0_0 x13_3).f2)).toNat * 4)).block,(ad170.add ((((rd_T85 l0_0 x13_3).f2)).toNat * 4)).off + 1,none⟩ = some (.bool ((rd_T49 l1 ((rd_T85 l0_0 x13_3).f2)).f1)) ∧ w'.cell? ⟨(ad170.add ((((rd_T85 l0_0 x13_3).f2)).toNat * 4)).block,(ad170.add ((((rd_T85 l0_0 x13_3).f2)).toNat * 4)).off + 2,none⟩ = some (.string ((rd_T49 l1 ((rd_T85 l0_0 x13_3).f2)).f2)) ∧ w'.cell? ⟨(ad170.add ((((rd_T85 l0_0 x13_3).f2)).toNat * 4)).block,(ad170.add ((((rd_T85 l0_0 x13_3).f2)).toNat * 4)).off + 3,none⟩ = some (.slice A170_3 ((rd_T49 l1 ((rd_T85 l0_0 x13_3).f2)).f3).length c170_3)) (ds:=[]) #[false,false,false,false,false,false,false,false,false,false,false,false,false,false,false,false,false,false,false,false,false,false,false,false,false,false,false,false,false,false] (by kernel_rfl) rfl rfl ⟨(blk_cell BK168.out 0).trans rfl,(blk_cell BK168.out 1).trans rfl,(blk_cell BK168.out 2).trans rfl,hx169_0,((HB.out.cell (World.block_lt_of_cell? w _ hw170_0)).trans hw170_0),((HB.out.cell (World.block_lt_of_cell? w _ hw170_1)).trans hw170_1),((HB.out.cell (World.block_lt_of_cell? w _ hw170_2)).trans hw170_2),((HB.out.cell (World.block_lt_of_cell? w _ hw170_3)).trans hw170_3),((HB.out.cell (World.block_lt_of_cell? w _ hw171_0)).trans hw171_0),((HB.out.cell (World.block_lt_of_cell? w _ hw171_1)).trans hw171_1),((HB.out.cell (World.block_lt_of_cell? w _ hw171_2)).trans hw171_2),((HB.out.cell (World.block_lt_of_cell? w _ hw171_3)).trans hw171_3)⟩ (fun hHeld=>?_);refine with_tabW spec_l2ends.tab16 spec_l2ends.bits16 (fun HT_ HW_=>?_)
                          generalize w63.drew = w64 at HO_9 HO_10 HO_12 BK154 BK168 HB HR170_3 HR171_3 hx169_0 hx170_0 hx170_1 hx170_2 hx170_3 hx171_0 hx171_1 hx171_2 hx171_3 hHeld ⊢
                          refine pure_ (i:=0) (N:=some 56) (v:=?_) (a':=?_) #[true,false,false,false,false,false,false,false,false,false,false,false,false,false,false,false,false,false,false,false,false,false,false,false,false,false,false,false,false,false] rfl rfl (any_of HT_.out (by kernel_rfl)) (fun _ _ _ h=>h) (Or.inl ⟨by rfl,?_⟩) ?_ ?_
                          rotate_left
                          ·intro w'
                           go_simp
                           first|with_reducible rfl|(rw [if_neg (by simp only [ByteArray.size_append,ByteArray.size_extract,eq_iff_iff,iff_true,iff_false] at *;omega)];try with_reducible rfl)
                          rotate_left
                          ·simp only [Act.put,List.setIfInBounds_toArray,List.set_cons_zero,List.set_cons_succ,i64_w,i32_w]
                           rfl
                          refine pure_ (i:=1) (N:=some 57) (v:=?_) (a':=?_) #[true,true,false,false,false,false,false,false,false,false,false,false,false,false,false,false,false,false,false,false,false,false,false,false,false,false,false,false,false,false] rfl rfl (any_of HT_.out (by kernel_rfl)) (fun _ _ _ h=>h) (Or.inl ⟨by rfl,?_⟩) ?_ ?_
                          rotate_left
                          ·intro w'
                           go_simp
                           first|with_reducible rfl|(rw [if_neg (by simp only [ByteArray.size_append,ByteArray.size_extract,eq_iff_iff,iff_true,iff_false] at *;omega)];try with_reducible rfl)
                          rotate_left
                          ·simp only [Act.put,List.setIfInBounds_toArray,List.set_cons_zero,List.set_cons_succ,i64_w,i32_w]
                           rfl
                          refine take_ (i:=2) (N:=some 58) (v:=?_) (a':=?_) #[true,true,true,false,false,false,false,false,false,false,false,false,false,false,false,false,false,false,false,false,false,false,false,false,false,false,false,false,false,false] rfl rfl (take_ofW HT_.out HW_.out (by kernel_rfl)) (fun _ _ _ h=>h) (Or.inl ⟨by rfl,?_⟩) hHeld ?_ ?_
                          rotate_left
                          ·rintro w' ⟨s0,s1,s2,s3,s4,s5,s6,s7,s8,s9,s10,s11⟩
                           go_simp
                           first|with_reducible rfl|(rw [if_neg (by simp only [ByteArray.size_append,ByteArray.size_extract,eq_iff_iff,iff_true,iff_false] at *;omega)];try with_reducible rfl)
                          rotate_left
                          ·simp only [Act.put,List.setIfInBounds_toArray,List.set_cons_zero,List.set_cons_succ,i64_w,i32_w]
                           rfl
                          refine pure_ (i:=3) (N:=some 59) (v:=?_) (a':=?_) #[true,true,true,true,false,false,false,false,false,false,false,false,false,false,false,false,false,false,false,false,false,false,false,false,false,false,false,false,false,false] rfl rfl (any_of HT_.out (by kernel_rfl)) (fun _ _ _ h=>h) (Or.inl ⟨by rfl,?_⟩) ?_ ?_
                          rotate_left
                          ·intro w'
                           go_simp
                           first|with_reducible rfl|(rw [if_neg (by simp only [ByteArray.size_append,ByteArray.size_extract,eq_iff_iff,iff_true,iff_false] at *;omega)];try with_reducible rfl)
                          rotate_left
                          ·simp only [Act.put,List.setIfInBounds_toArray,List.set_cons_zero,List.set_cons_succ,i64_w,i32_w]
                           rfl
                          refine take_ (i:=4) (N:=some 60) (v:=?_) (a':=?_) #[true,true,true,true,true,false,false,false,false,false,false,false,false,false,false,false,false,false,false,false,false,false,false,false,false,false,false,false,false,false] rfl rfl (take_ofW HT_.out HW_.out (by kernel_rfl)) (fun _ _ _ h=>h) (Or.inl ⟨by rfl,?_⟩) hHeld ?_ ?_
                          rotate_left
                          ·rintro w' ⟨s0,s1,s2,s3,s4,s5,s6,s7,s8,s9,s10,s11⟩
                           go_simp
                           first|with_reducible rfl|(rw [if_neg (by simp only [ByteArray.size_append,ByteArray.size_extract,eq_iff_iff,iff_true,iff_false] at *;omega)];try with_reducible rfl)
                          rotate_left
                          ·simp only [Act.put,List.setIfInBounds_toArray,List.set_cons_zero,List.set_cons_succ,i64_w,i32_w]
                           rfl
                          refine pure_ (i:=5) (N:=some 61) (v:=?_) (a':=?_) #[true,true,true,true,true,true,false,false,false,false,false,false,false,false,false,false,false,false,false,false,false,false,false,false,false,false,false,false,false,false] rfl rfl (any_of HT_.out (by kernel_rfl)) (fun _ _ _ h=>h) (Or.inl ⟨by rfl,?_⟩) ?_ ?_
                          rotate_left
                          ·intro w'
                           go_simp
                           first|with_reducible rfl|(rw [if_neg (by simp only [ByteArray.size_append,ByteArray.size_extract,eq_iff_iff,iff_true,iff_false] at *;omega)];try with_reducible rfl)
                          rotate_left
                          ·simp only [Act.put,List.setIfInBounds_toArray,List.set_cons_zero,List.set_cons_succ,i64_w,i32_w]
                           rfl
                          refine pure_ (i:=6) (N:=some 62) (v:=?_) (a':=?_) #[true,true,true,true,true,true,true,false,false,false,false,false,false,false,false,false,false,false,false,false,false,false,false,false,false,false,false,false,false,false] rfl rfl (any_of HT_.out (by kernel_rfl)) (fun _ _ _ h=>h) (Or.inl ⟨by rfl,?_⟩) ?_ ?_
                          rotate_left
                          ·intro w'
                           go_simp
                           first|with_reducible rfl|(rw [if_neg (by simp only [ByteArray.size_append,ByteArray.size_extract,eq_iff_iff,iff_true,iff_false] at *;omega)];try with_reducible rfl)
                          rotate_left
                          ·simp only [Act.put,List.setIfInBounds_toArray,List.set_cons_zero,List.set_cons_succ,i64_w,i32_w]
                           rfl
                          refine take_ (i:=7) (N:=some 63) (v:=?_) (a':=?_) #[true,true,true,true,true,true,true,true,false,false,false,false,false,false,false,false,false,false,false,false,false,false,false,false,false,false,false,false,false,false] rfl rfl (take_ofW HT_.out HW_.out (by kernel_rfl)) (fun _ _ _ h=>h) (Or.inl ⟨by rfl,?_⟩) hHeld ?_ ?_
                          rotate_left
                          ·rintro w' ⟨s0,s1,s2,s3,s4,s5,s6,s7,s8,s9,s10,s11⟩
                           go_simp
                           first|with_reducible rfl|(rw [if_neg (by simp only [ByteArray.size_append,ByteArray.size_extract,eq_iff_iff,iff_true,iff_false] at *;omega)];try with_reducible rfl)
                          rotate_left
                          ·simp only [Act.put,List.setIfInBounds_toArray,List.set_cons_zero,List.set_cons_succ,i64_w,i32_w]
                           rfl
                          refine pure_ (i:=8) (N:=some 64) (v:=?_) (a':=?_) #[true,true,true,true,true,true,true,true,true,false,false,false,false,false,false,false,false,false,false,false,false,false,false,false,false,false,false,false,false,false] rfl rfl (any_of HT_.out (by kernel_rfl)) (fun _ _ _ h=>h) (Or.inl ⟨by rfl,?_⟩) ?_ ?_
                          rotate_left
                          ·intro w'
                           go_simp
                           first|with_reducible rfl|(rw [if_neg (by simp only [ByteArray.size_append,ByteArray.size_extract,eq_iff_iff,iff_true,iff_false] at *;omega)];try with_reducible rfl)
                          rotate_left
                          ·simp only [Act.put,List.setIfInBounds_toArray,List.set_cons_zero,List.set_cons_succ,i64_w,i32_w]
                           rfl
                          refine pure_ (i:=9) (N:=some 65) (v:=?_) (a':=?_) #[true,true,true,true,true,true,true,true,true,true,false,false,false,false,false,false,false,false,false,false,false,false,false,false,false,false,false,false,false,false] rfl rfl (any_of HT_.out (by kernel_rfl)) (fun _ _ _ h=>h) (Or.inl ⟨by rfl,?_⟩) ?_ ?_
                          rotate_left
                          ·intro w'
                           go_simp
                           first|with_reducible rfl|(rw [if_neg (by simp only [ByteArray.size_append,ByteArray.size_extract,eq_iff_iff,iff_true,iff_false] at *;omega)];try with_reducible rfl)
                          rotate_left
                          ·simp only [Act.put,List.setIfInBounds_toArray,List.set_cons_zero,List.set_cons_succ,i64_w,i32_w]
                           rfl
                          refine pure_ (i:=10) (N:=some 66) (v:=?_) (a':=?_) #[true,true,true,true,true,true,true,true,true,true,true,false,false,false,false,false,false,false,false,false,false,false,false,false,false,false,false,false,false,false] rfl rfl (any_of HT_.out (by kernel_rfl)) (fun _ _ _ h=>h) (Or.inl ⟨by rfl,?_⟩) ?_ ?_
                          rotate_left
                          ·intro w'
                           go_simp
                           first|with_reducible rfl|(rw [if_neg (by simp only [ByteArray.size_append,ByteArray.size_extract,eq_iff_iff,iff_true,iff_false] at *;omega)];try with_reducible rfl)
                          rotate_left
                          ·simp only [Act.put,List.setIfInBounds_toArray,List.set_cons_zero,List.set_cons_succ,i64_w,i32_w]
                           rfl
                          refine pure_ (i:=11) (N:=some 67) (v:=?_) (a':=?_) #[true,true,true,true,true,true,true,true,true,true,true,true,false,false,false,false,false,false,false,false,false,false,false,false,false,false,false,false,false,false] rfl rfl (any_of HT_.out (by kernel_rfl)) (fun _ _ _ h=>h) (Or.inl ⟨by rfl,?_⟩) ?_ ?_
                          rotate_left
                          ·intro w'
                           go_simp
                           first|with_reducible rfl|(rw [if_neg (by simp only [ByteArray.size_append,ByteArray.size_extract,eq_iff_iff,iff_true,iff_false] at *;omega)];try with_reducible rfl)
                          rotate_left
                          ·simp only [Act.put,List.setIfInBounds_toArray,List.set_cons_zero,List.set_cons_succ,i64_w,i32_w]
                           rfl
                          refine pure_ (i:=12) (N:=some 68) (v:=?_) (a':=?_) #[true,true,true,true,true,true,true,true,true,true,true,true,true,false,false,false,false,false,false,false,false,false,false,false,false,false,false,false,false,false] rfl rfl (any_of HT_.out (by kernel_rfl)) (fun _ _ _ h=>h) (Or.inl ⟨by rfl,?_⟩) ?_ ?_
                          rotate_left
                          ·intro w'
                           go_simp
                           first|with_reducible rfl|(rw [if_neg (by simp only [ByteArray.size_append,ByteArray.size_extract,eq_iff_iff,iff_true,iff_false] at *;omega)];try with_reducible rfl)
                          rotate_left
                          ·simp only [Act.put,List.setIfInBounds_toArray,List.set_cons_zero,List.set_cons_succ,i64_w,i32_w]
                           rfl
                          refine take_ (i:=13) (N:=some 69) (v:=?_) (a':=?_) #[true,true,true,true,true,true,true,true,true,true,true,true,true,true,false,false,false,false,false,false,false,false,false,false,false,false,false,false,false,false] rfl rfl (take_ofW HT_.out HW_.out (by kernel_rfl)) (fun _ _ _ h=>h) (Or.inl ⟨by rfl,?_⟩) hHeld ?_ ?_
                          rotate_left
                          ·rintro w' ⟨s0,s1,s2,s3,s4,s5,s6,s7,s8,s9,s10,s11⟩
                           go_simp
                           first|with_reducible rfl|(rw [if_neg (by simp only [ByteArray.size_append,ByteArray.size_extract,eq_iff_iff,iff_true,iff_false] at *;omega)];try with_reducible rfl)
                          rotate_left
                          ·simp only [Act.put,List.setIfInBounds_toArray,List.set_cons_zero,List.set_cons_succ,i64_w,i32_w]
                           rfl
                          refine pure_ (i:=14) (N:=some 70) (v:=?_) (a':=?_) #[true,true,true,true,true,true,true,true,true,true,true,true,true,true,true,false,false,false,false,false,false,false,false,false,false,false,false,false,false,false] rfl rfl (any_of HT_.out (by kernel_rfl)) (fun _ _ _ h=>h) (Or.inl ⟨by rfl,?_⟩) ?_ ?_
                          rotate_left
                          ·intro w'
                           go_simp
                           first|with_reducible rfl|(rw [if_neg (by simp only [ByteArray.size_append,ByteArray.size_extract,eq_iff_iff,iff_true,iff_false] at *;omega)];try with_reducible rfl)
                          rotate_left
                          ·simp only [Act.put,List.setIfInBounds_toArray,List.set_cons_zero,List.set_cons_succ,i64_w,i32_w]
                           rfl
                          refine pure_ (i:=15) (N:=some 71) (v:=?_) (a':=?_) #[true,true,true,true,true,true,true,true,true,true,true,true,true,true,true,true,false,false,false,false,false,false,false,false,false,false,false,false,false,false] rfl rfl (any_of HT_.out (by kernel_rfl)) (fun _ _ _ h=>h) (Or.inl ⟨by rfl,?_⟩) ?_ ?_
                          rotate_left
                          ·intro w'
                           go_simp
                           first|with_reducible rfl|(rw [if_neg (by simp only [ByteArray.size_append,ByteArray.size_extract,eq_iff_iff,iff_true,iff_false] at *;omega)];try with_reducible rfl)
                          rotate_left
                          ·simp only [Act.put,List.setIfInBounds_toArray,List.set_cons_zero,List.set_cons_succ,i64_w,i32_w]
                           rfl
                          refine take_ (i:=16) (N:=some 72) (v:=?_) (a':=?_) #[true,true,true,true,true,true,true,true,true,true,true,true,true,true,true,true,true,false,false,false,false,false,false,false,false,false,false,false,false,false] rfl rfl (take_ofW HT_.out HW_.out (by kernel_rfl)) (fun _ _ _ h=>h) (Or.inl ⟨by rfl,?_⟩) hHeld ?_ ?_
                          rotate_left
                          ·rintro w' ⟨s0,s1,s2,s3,s4,s5,s6,s7,s8,s9,s10,s11⟩
                           go_simp
                           first|with_reducible rfl|(rw [if_neg (by simp only [ByteArray.size_append,ByteArray.size_extract,eq_iff_iff,iff_true,iff_false] at *;omega)];try with_reducible rfl)
                          rotate_left
                          ·simp only [Act.put,List.setIfInBounds_toArray,List.set_cons_zero,List.set_cons_succ,i64_w,i32_w]
                           rfl
                          refine pure_ (i:=17) (N:=some 73) (v:=?_) (a':=?_) #[true,true,true,true,true,true,true,true,true,true,true,true,true,true,true,true,true,true,false,false,false,false,false,false,false,false,false,false,false,false] rfl rfl (any_of HT_.out (by kernel_rfl)) (fun _ _ _ h=>h) (Or.inl ⟨by rfl,?_⟩) ?_ ?_
                          rotate_left
                          ·intro w'
                           go_simp
                           first|with_reducible rfl|(rw [if_neg (by simp only [ByteArray.size_append,ByteArray.size_extract,eq_iff_iff,iff_true,iff_false] at *;omega)];try with_reducible rfl)
                          rotate_left
                          ·simp only [Act.put,List.setIfInBounds_toArray,List.set_cons_zero,List.set_cons_succ,i64_w,i32_w]
                           rfl
                          refine pure_ (i:=18) (N:=some 74) (v:=?_) (a':=?_) #[true,true,true,true,true,true,true,true,true,true,true,true,true,true,true,true,true,true,true,false,false,false,false,false,false,false,false,false,false,false] rfl rfl (any_of HT_.out (by kernel_rfl)) (fun _ _ _ h=>h) (Or.inl ⟨by rfl,?_⟩) ?_ ?_
                          rotate_left
                          ·intro w'
                           go_simp
                           first|with_reducible rfl|(rw [if_neg (by simp only [ByteArray.size_append,ByteArray.size_extract,eq_iff_iff,iff_true,iff_false] at *;omega)];try with_reducible rfl)
                          rotate_left
                          ·simp only [Act.put,List.setIfInBounds_toArray,List.set_cons_zero,List.set_cons_succ,i64_w,i32_w]
                           rfl
                          refine pure_ (i:=19) (N:=some 75) (v:=?_) (a':=?_) #[true,true,true,true,true,true,true,true,true,true,true,true,true,true,true,true,true,true,true,true,false,false,false,false,false,false,false,false,false,false] rfl rfl (any_of HT_.out (by kernel_rfl)) (fun _ _ _ h=>h) (Or.inl ⟨by rfl,?_⟩) ?_ ?_
                          rotate_left
                          ·intro w'
                           go_simp
                           first|with_reducible rfl|(rw [if_neg (by simp only [ByteArray.size_append,ByteArray.size_extract,eq_iff_iff,iff_true,iff_false] at *;omega)];try with_reducible rfl)
                          rotate_left
                          ·simp only [Act.put,List.setIfInBounds_toArray,List.set_cons_zero,List.set_cons_succ,i64_w,i32_w]
                           rfl
                          refine pure_ (i:=20) (N:=some 76) (v:=?_) (a':=?_) #[true,true,true,true,true,true,true,true,true,true,true,true,true,true,true,true,true,true,true,true,true,false,false,false,false,false,false,false,false,false] rfl rfl (any_of HT_.out (by kernel_rfl)) (fun _ _ _ h=>h) (Or.inl ⟨by rfl,?_⟩) ?_ ?_
                          rotate_left
                          ·intro w'
                           go_simp
                           first|with_reducible rfl|(rw [if_neg (by simp only [ByteArray.size_append,ByteArray.size_extract,eq_iff_iff,iff_true,iff_false] at *;omega)];try with_reducible rfl)
                          rotate_left
                          ·simp only [Act.put,List.setIfInBounds_toArray,List.set_cons_zero,List.set_cons_succ,i64_w,i32_w]
                           rfl
                          refine pure_ (i:=21) (N:=some 77) (v:=?_) (a':=?_) #[true,true,true,true,true,true,true,true,true,true,true,true,true,true,true,true,true,true,true,true,true,true,false,false,false,false,false,false,false,false] rfl rfl (any_of HT_.out (by kernel_rfl)) (fun _ _ _ h=>h) (Or.inl ⟨by rfl,?_⟩) ?_ ?_
                          rotate_left
                          ·intro w'
                           go_simp
                           first|with_reducible rfl|(rw [if_neg (by simp only [ByteArray.size_append,ByteArray.size_extract,eq_iff_iff,iff_true,iff_false] at *;omega)];try with_reducible rfl)
                          rotate_left
                          ·simp only [Act.put,List.setIfInBounds_toArray,List.set_cons_zero,List.set_cons_succ,i64_w,i32_w]
                           rfl
                          refine pure_ (i:=25) (N:=some 81) (v:=?_) (a':=?_) #[true,true,true,true,true,true,true,true,true,true,true,true,true,true,true,true,true,true,true,true,true,true,false,false,false,true,false,false,false,false] rfl rfl (any_of HT_.out (by kernel_rfl)) (fun _ _ _ h=>h) (Or.inl ⟨by rfl,?_⟩) ?_ ?_
                          rotate_left
                          ·intro w'
                           go_simp
                           first|with_reducible rfl|(rw [if_neg (by simp only [ByteArray.size_append,ByteArray.size_extract,eq_iff_iff,iff_true,iff_false] at *;omega)];try with_reducible rfl)
                          rotate_left
                          ·simp only [Act.put,List.setIfInBounds_toArray,List.set_cons_zero,List.set_cons_succ,i64_w,i32_w]
                           rfl
                          refine pure_ (i:=26) (N:=some 82) (v:=?_) (a':=?_) #[true,true,true,true,true,true,true,true,true,true,true,true,true,true,true,true,true,true,true,true,true,true,false,false,false,true,true,false,false,false] rfl rfl (any_of HT_.out (by kernel_rfl)) (fun _ _ _ h=>h) (Or.inl ⟨by rfl,?_⟩) ?_ ?_
                          rotate_left
                          ·intro w'
                           go_simp
                           first|with_reducible rfl|(rw [if_neg (by simp only [ByteArray.size_append,ByteArray.size_extract,eq_iff_iff,iff_true,iff_false] at *;omega)];try with_reducible rfl)
                          rotate_left
                          ·simp only [Act.put,List.setIfInBounds_toArray,List.set_cons_zero,List.set_cons_succ,i64_w,i32_w]
                           rfl
                          refine take_ (i:=22) (N:=some 78) (v:=?_) (a':=?_) #[true,true,true,true,true,true,true,true,true,true,true,true,true,true,true,true,true,true,true,true,true,true,true,false,false,true,true,false,false,false] rfl rfl (take_ofW HT_.out HW_.out (by kernel_rfl)) (fun _ _ _ h=>h) (Or.inl ⟨by rfl,?_⟩) hHeld ?_ ?_
                          rotate_left
                          ·rintro w' ⟨s0,s1,s2,s3,s4,s5,s6,s7,s8,s9,s10,s11⟩
                           go_simp
                           first|with_reducible rfl|(rw [if_neg (by simp only [ByteArray.size_append,ByteArray.size_extract,eq_iff_iff,iff_true,iff_false] at *;omega)];try with_reducible rfl)
                          rotate_left
                          ·simp only [Act.put,List.setIfInBounds_toArray,List.set_cons_zero,List.set_cons_succ,i64_w,i32_w]
                           rfl
                          refine pure_ (i:=23) (N:=some 79) (v:=?_) (a':=?_) #[true,true,true,true,true,true,true,true,true,true,true,true,true,true,true,true,true,true,true,true,true,true,true,true,false,true,true,false,false,false] rfl rfl (any_of HT_.out (by kernel_rfl)) (fun _ _ _ h=>h) (Or.inl ⟨by rfl,?_⟩) ?_ ?_
                          rotate_left
                          ·intro w'
                           go_simp
                           first|with_reducible rfl|(rw [if_neg (by simp only [ByteArray.size_append,ByteArray.size_extract,eq_iff_iff,iff_true,iff_false] at *;omega)];try with_reducible rfl)
                          rotate_left
                          ·simp only [Act.put,List.setIfInBounds_toArray,List.set_cons_zero,List.set_cons_succ,i64_w,i32_w]
                           rfl
                          refine take_ (i:=24) (N:=some 80) (v:=?_) (a':=?_) #[true,true,true,true,true,true,true,true,true,true,true,true,true,true,true,true,true,true,true,true,true,true,true,true,true,true,true,false,false,false] rfl rfl (take_ofW HT_.out HW_.out (by kernel_rfl)) (fun _ _ _ h=>h) (Or.inl ⟨by rfl,?_⟩) hHeld ?_ ?_
                          rotate_left
                          ·rintro w' ⟨s0,s1,s2,s3,s4,s5,s6,s7,s8,s9,s10,s11⟩
                           go_simp
                           first|with_reducible rfl|(rw [if_neg (by simp only [ByteArray.size_append,ByteArray.size_extract,eq_iff_iff,iff_true,iff_false] at *;omega)];try with_reducible rfl)
                          rotate_left
                          ·simp only [Act.put,List.setIfInBounds_toArray,List.set_cons_zero,List.set_cons_succ,i64_w,i32_w]
                           rfl
                          refine take_ (i:=27) (N:=some 83) (v:=?_) (a':=?_) #[true,true,true,true,true,true,true,true,true,true,true,true,true,true,true,true,true,true,true,true,true,true,true,true,true,true,true,true,false,false] rfl rfl (take_ofW HT_.out HW_.out (by kernel_rfl)) (fun _ _ _ h=>h) (Or.inl ⟨by rfl,?_⟩) hHeld ?_ ?_
                          rotate_left
                          ·rintro w' ⟨s0,s1,s2,s3,s4,s5,s6,s7,s8,s9,s10,s11⟩
                           go_simp
                           first|with_reducible rfl|(rw [if_neg (by simp only [ByteArray.size_append,ByteArray.size_extract,eq_iff_iff,iff_true,iff_false] at *;omega)];try with_reducible rfl)
                          rotate_left
                          ·simp only [Act.put,List.setIfInBounds_toArray,List.set_cons_zero,List.set_cons_succ,i64_w,i32_w]
                           rfl
                          refine one_ (i:=28) (N:=some 84) #[true,true,true,true,true,true,true,true,true,true,true,true,true,true,true,true,true,true,true,true,true,true,true,true,true,true,true,true,true,false] rfl rfl (one_of HT_.out (by kernel_rfl)) (by decide) (fun K hK=>?_)
                          refine goes_ Tryd.func58 (by kernel_rfl) rfl #[.agg #[.int .i64 ((rd_T49 l1 ((rd_T85 l0_0 x13_3).f2)).f0),.bool ((rd_T49 l1 ((rd_T85 l0_0 x13_3).f2)).f1),.string ((rd_T49 l1 ((rd_T85 l0_0 x13_3).f2)).f2),.slice A170_3 ((rd_T49 l1 ((rd_T85 l0_0 x13_3).f2)).f3).length c170_3],.int .u8 (bt a2 x11_1)] (by rfl) rfl rfl (by (try simp only [List.map_toArray,List.map_cons,List.map_nil]);first|done|rfl|(simp only [List.length_drop,List.length_take];rfl)) ?_
                          with_reducible refine (spec_l2in.calls k3 ((rd_T49 l1 ((rd_T85 l0_0 x13_3).f2)).f0) ((rd_T49 l1 ((rd_T85 l0_0 x13_3).f2)).f1) ((rd_T49 l1 ((rd_T85 l0_0 x13_3).f2)).f2) _ _ ((rd_T49 l1 ((rd_T85 l0_0 x13_3).f2)).f3) (bt a2 x11_1) false _ ?side1 ?side2 A44.out).mono ?_
                          (case side1=>repeat (first|exact (Kd.C_below HR171_3.out HB.out)|(with_reducible refine Kd.C_alloc ?_ _)|(with_reducible refine Kd.C_drewN ?_ _)|(with_reducible refine Kd.C_drew ?_)))
                          (case side2=>exact HC171_3.out)
                          rintro e w65 ⟨rfl,hb⟩
                          have HS3_:=(hb.cell (World.block_lt_of_cell? _ _ (hHeld.2.2.2.1))).trans (hHeld.2.2.2.1)
                          refine ⟨_,rfl,?_⟩
                          have n0_:=Aside0.mk (Kd.R_below (by (with_reducible repeat (first|apply Kd.R_alloc|apply Kd.R_drewN|apply Kd.R_drew));exact HO_9.out) hb)
                          have n1_:=Aside0.mk (Kd.R_below (by (with_reducible repeat (first|apply Kd.R_alloc|apply Kd.R_drewN|apply Kd.R_drew));exact HO_10.out) hb)
                          have n2_:=Aside0.mk (Kd.R_below (by (with_reducible repeat (first|apply Kd.R_alloc|apply Kd.R_drewN|apply Kd.R_drew));exact HO_12.out) hb)
                          have n3_:=Aside0.mk (blk_below (g:=gb154) (o:=.cells #[.slice (some ad167) l0_0.length c0_0,.int .i64 a0_1] 59 (0,0)) (by (with_reducible repeat (first|refine blk_drewN ?_ _|refine blk_drew ?_|refine blk_alloc ?_ _));exact BK154.out) hb)
                          have n4_:=Aside0.mk (blk_below (g:=gb168) (o:=.cells #[.int .i64 ((rd_T85 l0_0 x13_3).f0),.int .i64 ((rd_T85 l0_0 x13_3).f1),.int .i64 ((rd_T85 l0_0 x13_3).f2)] 85 (0,0)) (by (with_reducible repeat (first|refine blk_drewN ?_ _|refine blk_drew ?_|refine blk_alloc ?_ _));exact BK168.out) hb)
                          have n5_:=Aside0.mk (below_step (by repeat (first|(with_reducible first|exact HB.out|apply below_alloc|apply pw_below_drewN|apply below_drew1|refine below_set ?_ GE154.out|refine below_set ?_ GE168.out)|exact HB.out)) hb)
                          clear HO_9
                          clear HO_10
                          clear HO_12
                          clear BK154
                          clear BK168
                          clear HB
                          have HO_9:=n0_
                          have HO_10:=n1_
                          have HO_12:=n2_
                          have BK154:=n3_
                          have BK168:=n4_
                          have HB:=n5_
                          clear n0_ n1_ n2_ n3_ n4_ n5_
                          (try clear hb)
                          (try clear hb2)
                          (try clear hk)
                          (try clear hi)
                          refine hK.out _ _ ⟨(blk_cell BK168.out 0).trans rfl,(blk_cell BK168.out 1).trans rfl,(blk_cell BK168.out 2).trans rfl,HS3_,((HB.out.cell (World.block_lt_of_cell? w _ hw170_0)).trans hw170_0),((HB.out.cell (World.block_lt_of_cell? w _ hw170_1)).trans hw170_1),((HB.out.cell (World.block_lt_of_cell? w _ hw170_2)).trans hw170_2),((HB.out.cell (World.block_lt_of_cell? w _ hw170_3)).trans hw170_3),((HB.out.cell (World.block_lt_of_cell? w _ hw171_0)).trans hw171_0),((HB.out.cell (World.block_lt_of_cell? w _ hw171_1)).trans hw171_1),((HB.out.cell (World.block_lt_of_cell? w _ hw171_2)).trans hw171_2),((HB.out.cell (World.block_lt_of_cell? w _ hw171_3)).trans hw171_3)⟩ (fun hHeld=>?_)
                          clear hK K
                          refine norm_ (a':=?_) ?_ ?_
                          rotate_left
                          ·show Act.put _ (some 84) _ = _
                           simp only [Act.put,List.setIfInBounds_toArray,List.set_cons_zero,List.set_cons_succ,i64_w,i32_w]
                           rfl
                          refine pure_ (i:=29) (N:=some 85) (v:=?_) (a':=?_) #[true,true,true,true,true,true,true,true,true,true,true,true,true,true,true,true,true,true,true,true,true,true,true,true,true,true,true,true,true,true] rfl rfl (any_of HT_.out (by kernel_rfl)) (fun _ _ _ h=>h) (Or.inl ⟨by rfl,?_⟩) ?_ ?_
                          rotate_left
                          ·intro w'
                           go_simp
                           first|with_reducible rfl|(rw [if_neg (by simp only [ByteArray.size_append,ByteArray.size_extract,eq_iff_iff,iff_true,iff_false] at *;omega)];try with_reducible rfl)
                          rotate_left
                          ·simp only [Act.put,List.setIfInBounds_toArray,List.set_cons_zero,List.set_cons_succ,i64_w,i32_w]
                           rfl
                          refine done_ (done_of HT_.out (by kernel_rfl)) ?_
                          try go_wp2
                          go_roundg k3
                          case measure=>have:=HK1.out;have:=HJ16.out;have:=HK3.out;omega
                          case rel=>exact ⟨(x12_3),(wrap64 (x13_3 + 1)),(by first|rfl|(simp;done)|(simp [*];done)),H',⟨by have:=HK1.out;have:=HJ16.out;have:=HK3.out;omega⟩,⟨by (try simp only [hl10_16]);(with_reducible repeat (first|apply Kd.R_alloc|apply Kd.R_drewN|apply Kd.R_drew));exact HO_9.out⟩,⟨by (try simp only [hl10_16]);(with_reducible repeat (first|apply Kd.R_alloc|apply Kd.R_drewN|apply Kd.R_drew));exact HO_10.out⟩,⟨by (try simp only [hl10_16]);(with_reducible repeat (first|apply Kd.R_alloc|apply Kd.R_drewN|apply Kd.R_drew));exact HO_12.out⟩,⟨by (try simp only [hl10_16]);(with_reducible repeat (first|refine blk_drewN ?_ _|refine blk_drew ?_|refine blk_alloc ?_ _));exact BK154.out⟩,⟨by repeat (first|(with_reducible first|exact HB.out|apply below_alloc|apply pw_below_drewN|apply below_drew1|refine below_set ?_ GE154.out|refine below_set ?_ GE168.out)|exact HB.out)⟩⟩
                        ·rw [if_neg c42] at H
                         exact absurd H (by simp)
                       ·rw [if_neg c41] at H
                        exact absurd H (by simp)
                      ·rw [if_neg c40] at H
                       have c40b0 : (((rd_T49 l1 ((rd_T85 l0_0 x13_3).f2)).f0) == 0) = false:=beq_eq_false_iff_ne.mpr c40
                       have c40b1 : (((rd_T49 l1 ((rd_T85 l0_0 x13_3).f2)).f0) != 0) = true:=bne_iff_ne.mpr c40
                       have H':=Aside0.mk H
                       clear H
                       have hcz66_0 : wr.cell? ⟨gb154,0,none⟩ = some (.slice A0_0 l0_0.length c0_0):=(blk_cell BK154.out 0).trans rfl
                       have hcz66_1 : wr.cell? ⟨gb154,1,none⟩ = some (.int .i64 a0_1):=(blk_cell BK154.out 1).trans rfl
                       have hfz66_0:=blk_frozen BK154.out 0
                       have hfz66_1:=blk_frozen BK154.out 1
                       have p167 : 0 ≤ (x13_3 : Int):=of_decide_eq_true (by first|(with_reducible assumption)|assumption)
                       have q167 : x13_3 < (l0_0.length : Int):=of_decide_eq_true (by first|(with_reducible assumption)|assumption)
                       obtain ⟨ad167,e167,hx167_0,hx167_1,hx167_2⟩:=at_T85 HR0_0.out x13_3 p167 q167
                       cases e167
                       replace hx167_0:=(HB.out.cell (World.block_lt_of_cell? w _ hx167_0)).trans hx167_0
                       replace hx167_1:=(HB.out.cell (World.block_lt_of_cell? w _ hx167_1)).trans hx167_1
                       replace hx167_2:=(HB.out.cell (World.block_lt_of_cell? w _ hx167_2)).trans hx167_2
                       replace p167:=eq_true p167
                       replace q167:=eq_true q167
                       try go_wp2_with (first|((with_reducible refine gate_dst (N:=14) rfl ?_);refine box_event ?hg (N:=14) ?hd (cs:=#[.int .i64 0,.int .i64 0,.int .i64 0]) (t:=85) ?hr ?_;(case hd=>rfl);(case hg=>rfl);(case hr=>first|(go_simp;done)|(go_simp;rfl));intro gb168 hg w67 hbox hb;have n0_:=Aside0.mk (Kd.R_below (by (with_reducible repeat (first|apply Kd.R_alloc|apply Kd.R_drewN|apply Kd.R_drew));exact HO_9.out) hb);have n1_:=Aside0.mk (Kd.R_below (by (with_reducible repeat (first|apply Kd.R_alloc|apply Kd.R_drewN|apply Kd.R_drew));exact HO_10.out) hb);have n2_:=Aside0.mk (Kd.R_below (by (with_reducible repeat (first|apply Kd.R_alloc|apply Kd.R_drewN|apply Kd.R_drew));exact HO_12.out) hb);have n3_:=Aside0.mk (blk_below (g:=gb154) (o:=.cells #[.slice (some ad167) l0_0.length c0_0,.int .i64 a0_1] 59 (0,0)) (by (with_reducible repeat (first|refine blk_drewN ?_ _|refine blk_drew ?_|refine blk_alloc ?_ _));exact BK154.out) hb);have n4_:=Aside0.mk (below_step (by repeat (first|(with_reducible first|exact HB.out|apply below_alloc|apply pw_below_drewN|apply below_drew1|refine below_set ?_ GE154.out)|exact HB.out)) hb);have n5_:=Aside0.mk (hbox);have n6_:=Aside0.mk ((by rw [hg];exact (below_size (by repeat (first|(with_reducible first|exact HB.out|apply below_alloc|apply pw_below_drewN|apply below_drew1|refine below_set ?_ GE154.out)|exact HB.out))) : w.heap.size ≤ gb168));have n7_:=Aside0.mk ((by rw [hg];exact (below_size (by repeat (first|(with_reducible first|exact HB.out|apply below_alloc|apply pw_below_drewN|apply below_drew1|refine below_set ?_ GE154.out)|exact HB.out))) : w.heap.size ≤ gb168));have n8_:=Aside0.mk ((by rw [hg];exact Nat.ne_of_lt (blk_lt (g:=gb154) (o:=.cells #[.slice (some ad167) l0_0.length c0_0,.int .i64 a0_1] 59 (0,0)) (by (with_reducible repeat (first|refine blk_drewN ?_ _|refine blk_drew ?_|refine blk_alloc ?_ _));exact BK154.out)) : gb154 ≠ gb168));have n9_:=Aside0.mk ((by rw [hg];exact Nat.ne_of_gt (blk_lt (g:=gb154) (o:=.cells #[.slice (some ad167) l0_0.length c0_0,.int .i64 a0_1] 59 (0,0)) (by (with_reducible repeat (first|refine blk_drewN ?_ _|refine blk_drew ?_|refine blk_alloc ?_ _));exact BK154.out)) : gb168 ≠ gb154));clear HO_9;clear HO_10;clear HO_12;clear BK154;clear HB;have HO_9:=n0_;have HO_10:=n1_;have HO_12:=n2_;have BK154:=n3_;have HB:=n4_;have BK168:=n5_;have GW168:=n6_;have GE168:=n7_;have NB154_168:=n8_;have NB168_154:=n9_;clear n0_ n1_ n2_ n3_ n4_ n5_ n6_ n7_ n8_ n9_;clear hb hbox hg;have hnb68:=NB168_154.out;have hnc68:=NB154_168.out;have hcz69_0 : w67.cell? ⟨gb168,0,none⟩ = some (.int .i64 0):=(blk_cell BK168.out 0).trans rfl;have hcz69_1 : w67.cell? ⟨gb168,1,none⟩ = some (.int .i64 0):=(blk_cell BK168.out 1).trans rfl;have hcz69_2 : w67.cell? ⟨gb168,2,none⟩ = some (.int .i64 0):=(blk_cell BK168.out 2).trans rfl;have hfz69_0:=blk_frozen BK168.out 0;have hfz69_1:=blk_frozen BK168.out 1;have hfz69_2:=blk_frozen BK168.out 2))
                       have n0_ : Aside0 (Kd.R (Kd.int .i64) 3 (((w67.setCell ⟨gb168,0,none⟩ (.int .i64 ((rd_T85 l0_0 x13_3).f0))).setCell ⟨gb168,1,none⟩ (.int .i64 ((rd_T85 l0_0 x13_3).f1))).setCell ⟨gb168,2,none⟩ (.int .i64 ((rd_T85 l0_0 x13_3).f2))) w.heap.size (fun _=>True) u9 x9_16):=⟨by (with_reducible repeat (first|apply Kd.R_alloc|apply Kd.R_drewN|apply Kd.R_drew));exact Kd.R_mono (Kd.R_far (p:=⟨gb168,2,none⟩) (Kd.R_far (p:=⟨gb168,1,none⟩) (Kd.R_far (p:=⟨gb168,0,none⟩) (Kd.R_types HO_9.out BK168.out (by decide)) (fun _ hk=>hk.2) (.int .i64 ((rd_T85 l0_0 x13_3).f0))) (fun _ hk=>hk.2) (.int .i64 ((rd_T85 l0_0 x13_3).f1))) (fun _ hk=>hk.2) (.int .i64 ((rd_T85 l0_0 x13_3).f2))) (fun _ hk=>trivial)⟩
                       have n1_ : Aside0 (Kd.R Kd.bool 4 (((w67.setCell ⟨gb168,0,none⟩ (.int .i64 ((rd_T85 l0_0 x13_3).f0))).setCell ⟨gb168,1,none⟩ (.int .i64 ((rd_T85 l0_0 x13_3).f1))).setCell ⟨gb168,2,none⟩ (.int .i64 ((rd_T85 l0_0 x13_3).f2))) w.heap.size (fun k_=>some k_ ≠ (v165 : Value).ownBlock) (.slice (some ad160) t159.length co19) t159):=⟨by (with_reducible repeat (first|apply Kd.R_alloc|apply Kd.R_drewN|apply Kd.R_drew));exact Kd.R_mono (Kd.R_far (p:=⟨gb168,2,none⟩) (Kd.R_far (p:=⟨gb168,1,none⟩) (Kd.R_far (p:=⟨gb168,0,none⟩) (Kd.R_types HO_10.out BK168.out (by decide)) (fun _ hk=>hk.2) (.int .i64 ((rd_T85 l0_0 x13_3).f0))) (fun _ hk=>hk.2) (.int .i64 ((rd_T85 l0_0 x13_3).f1))) (fun _ hk=>hk.2) (.int .i64 ((rd_T85 l0_0 x13_3).f2))) (fun _ hk=>hk.1)⟩
                       have n2_ : Aside0 (Kd.R Kd.bool 4 (((w67.setCell ⟨gb168,0,none⟩ (.int .i64 ((rd_T85 l0_0 x13_3).f0))).setCell ⟨gb168,1,none⟩ (.int .i64 ((rd_T85 l0_0 x13_3).f1))).setCell ⟨gb168,2,none⟩ (.int .i64 ((rd_T85 l0_0 x13_3).f2))) w.heap.size (fun k_=>some k_ ≠ (.slice (some ad160) t159.length co19 : Value).ownBlock) v165 x12_3):=⟨by (with_reducible repeat (first|apply Kd.R_alloc|apply Kd.R_drewN|apply Kd.R_drew));exact Kd.R_mono (Kd.R_far (p:=⟨gb168,2,none⟩) (Kd.R_far (p:=⟨gb168,1,none⟩) (Kd.R_far (p:=⟨gb168,0,none⟩) (Kd.R_types HO_12.out BK168.out (by decide)) (fun _ hk=>hk.2) (.int .i64 ((rd_T85 l0_0 x13_3).f0))) (fun _ hk=>hk.2) (.int .i64 ((rd_T85 l0_0 x13_3).f1))) (fun _ hk=>hk.2) (.int .i64 ((rd_T85 l0_0 x13_3).f2))) (fun _ hk=>hk.1)⟩
                       have n3_ : Aside0 ((((w67.setCell ⟨gb168,0,none⟩ (.int .i64 ((rd_T85 l0_0 x13_3).f0))).setCell ⟨gb168,1,none⟩ (.int .i64 ((rd_T85 l0_0 x13_3).f1))).setCell ⟨gb168,2,none⟩ (.int .i64 ((rd_T85 l0_0 x13_3).f2))).heap[gb154]? = some (.cells #[.slice (some ad167) l0_0.length c0_0,.int .i64 a0_1] 59 (0,0))):=⟨by (with_reducible repeat (first|refine blk_drewN ?_ _|refine blk_drew ?_|refine blk_alloc ?_ _));refine blk_far ?_ NB154_168.out _;(with_reducible repeat (first|refine blk_drewN ?_ _|refine blk_drew ?_|refine blk_alloc ?_ _));refine blk_far ?_ NB154_168.out _;(with_reducible repeat (first|refine blk_drewN ?_ _|refine blk_drew ?_|refine blk_alloc ?_ _));refine blk_far ?_ NB154_168.out _;(with_reducible repeat (first|refine blk_drewN ?_ _|refine blk_drew ?_|refine blk_alloc ?_ _));exact BK154.out⟩
                       have n4_ : Aside0 ((((w67.setCell ⟨gb168,0,none⟩ (.int .i64 ((rd_T85 l0_0 x13_3).f0))).setCell ⟨gb168,1,none⟩ (.int .i64 ((rd_T85 l0_0 x13_3).f1))).setCell ⟨gb168,2,none⟩ (.int .i64 ((rd_T85 l0_0 x13_3).f2))).heap[gb168]? = some (.cells #[.int .i64 ((rd_T85 l0_0 x13_3).f0),.int .i64 ((rd_T85 l0_0 x13_3).f1),.int .i64 ((rd_T85 l0_0 x13_3).f2)] 85 (0,0))):=⟨by (with_reducible repeat (first|refine blk_drewN ?_ _|refine blk_drew ?_|refine blk_alloc ?_ _));refine blk_put (cs:=#[.int .i64 ((rd_T85 l0_0 x13_3).f0),.int .i64 ((rd_T85 l0_0 x13_3).f1),.int .i64 0]) ?_ 2 _ rfl;(with_reducible repeat (first|refine blk_drewN ?_ _|refine blk_drew ?_|refine blk_alloc ?_ _));refine blk_put (cs:=#[.int .i64 ((rd_T85 l0_0 x13_3).f0),.int .i64 0,.int .i64 0]) ?_ 1 _ rfl;(with_reducible repeat (first|refine blk_drewN ?_ _|refine blk_drew ?_|refine blk_alloc ?_ _));refine blk_put (cs:=#[.int .i64 0,.int .i64 0,.int .i64 0]) ?_ 0 _ rfl;(with_reducible repeat (first|refine blk_drewN ?_ _|refine blk_drew ?_|refine blk_alloc ?_ _));exact BK168.out⟩
                       have n5_ : Aside0 (Below w.heap.size w (((w67.setCell ⟨gb168,0,none⟩ (.int .i64 ((rd_T85 l0_0 x13_3).f0))).setCell ⟨gb168,1,none⟩ (.int .i64 ((rd_T85 l0_0 x13_3).f1))).setCell ⟨gb168,2,none⟩ (.int .i64 ((rd_T85 l0_0 x13_3).f2)))):=⟨by repeat (first|(with_reducible first|exact HB.out|apply below_alloc|apply pw_below_drewN|apply below_drew1|refine below_set ?_ GE154.out|refine below_set ?_ GE168.out)|exact HB.out)⟩
                       (try clear HO_9)
                       (try clear HO_10)
                       (try clear HO_12)
                       (try clear BK154)
                       (try clear BK168)
                       (try clear HB)
                       generalize (((w67.setCell ⟨gb168,0,none⟩ (.int .i64 ((rd_T85 l0_0 x13_3).f0))).setCell ⟨gb168,1,none⟩ (.int .i64 ((rd_T85 l0_0 x13_3).f1))).setCell ⟨gb168,2,none⟩ (.int .i64 ((rd_T85 l0_0 x13_3).f2))) = w70 at n0_ n1_ n2_ n3_ n4_ n5_ ⊢
                       have HO_9:=n0_
                       have HO_10:=n1_
                       have HO_12:=n2_
                       have BK154:=n3_
                       have BK168:=n4_
                       have HB:=n5_
                       clear n0_ n1_ n2_ n3_ n4_ n5_
                       have n0_:=Aside0.mk (Kd.R_drew HO_9.out)
                       have n1_:=Aside0.mk (Kd.R_drew HO_10.out)
                       have n2_:=Aside0.mk (Kd.R_drew HO_12.out)
                       have n3_:=Aside0.mk (blk_drew BK154.out)
                       have n4_:=Aside0.mk (blk_drew BK168.out)
                       have n5_:=Aside0.mk (below_drew1 HB.out)
                       clear HO_9
                       clear HO_10
                       clear HO_12
                       clear BK154
                       clear BK168
                       clear HB
                       have HO_9:=n0_
                       have HO_10:=n1_
                       have HO_12:=n2_
                       have BK154:=n3_
                       have BK168:=n4_
                       have HB:=n5_
                       clear n0_ n1_ n2_ n3_ n4_ n5_
                       have p169 : 0 ≤ (((rd_T85 l0_0 x13_3).f0) : Int):=of_decide_eq_true (by first|(with_reducible assumption)|assumption)
                       have q169 : ((rd_T85 l0_0 x13_3).f0) < (t159.length : Int):=of_decide_eq_true (by first|(with_reducible assumption)|assumption)
                       obtain ⟨ad169,e169,hx169_0⟩:=Kd.at_bool (Kd.R_reads' HO_10.out).2.2 ((rd_T85 l0_0 x13_3).f0) p169 q169
                       (try rw [← Nbq35.out] at hx169_0)
                       obtain rfl : ad160 = ad169:=(by injection e169)
                       replace p169:=eq_true p169
                       replace q169:=eq_true q169
                       have p170 : 0 ≤ (((rd_T85 l0_0 x13_3).f2) : Int):=of_decide_eq_true (by first|(with_reducible assumption)|assumption)
                       have q170 : ((rd_T85 l0_0 x13_3).f2) < (l1.length : Int):=of_decide_eq_true (by first|(with_reducible assumption)|assumption)
                       obtain ⟨ad170,A170_3,c170_3,e170,hx170_0,hx170_1,hx170_2,hx170_3,hl170_3,hi170_3⟩:=at_T49 HR1.out ((rd_T85 l0_0 x13_3).f2) p170 q170
                       have hw170_3:=hx170_3
                       have hw170_2:=hx170_2
                       have hw170_1:=hx170_1
                       have hw170_0:=hx170_0
                       (try rw [← Nbq35.out] at hx170_1)
                       cases e170
                       replace hx170_0:=(HB.out.cell (World.block_lt_of_cell? w _ hx170_0)).trans hx170_0
                       replace hx170_1:=(HB.out.cell (World.block_lt_of_cell? w _ hx170_1)).trans hx170_1
                       replace hx170_2:=(HB.out.cell (World.block_lt_of_cell? w _ hx170_2)).trans hx170_2
                       replace hx170_3:=(HB.out.cell (World.block_lt_of_cell? w _ hx170_3)).trans hx170_3
                       have HR170_3:=Aside0.mk hi170_3
                       have HC170_3:=Aside0.mk hl170_3
                       clear hi170_3 hl170_3
                       replace p170:=eq_true p170
                       replace q170:=eq_true q170
                       refine start_ (n:=30) (S:=fun w'=>w'.cell? ⟨gb168,0,none⟩ = some (.int .i64 ((rd_T85 l0_0 x13_3).f0)) ∧ w'.cell? ⟨gb168,1,none⟩ = some (.int .i64 ((rd_T85 l0_0 x13_3).f1)) ∧ w'.cell? ⟨gb168,2,none⟩ = some (.int .i64 ((rd_T85 l0_0 x13_3).f2)) ∧ w'.cell? (ad160.add (((rd_T85 l0_0 x13_3).f0)).toNat) = some (.bool true) ∧ w'.cell? (ad170.add ((((rd_T85 l0_0 x13_3).f2)).toNat * 4)) = some (.int .i64 ((rd_T49 l1 ((rd_T85 l0_0 x13_3).f2)).f0)) ∧ w'.cell? ⟨(ad170.add ((((rd_T85 l0_0 x13_3).f2)).toNat * 4)).block,(ad170.add ((((rd_T85 l0_0 x13_3).f2)).toNat * 4)).off + 1,none⟩ = some (.bool ((rd_T49 l1 ((rd_T85 l0_0 x13_3).f2)).f1)) ∧ w'.cell? ⟨(ad170.add ((((rd_T85 l0_0 x13_3).f2)).toNat * 4)).block,(ad170.add ((((rd_T85 l0_0 x13_3).f2)).toNat * 4)).off + 2,none⟩ = some (.string ((rd_T49 l1 ((rd_T85 l0_0 x13_3).f2)).f2)) ∧ w'.cell? ⟨(ad170.add ((((rd_T85 l0_0 x13_3).f2)).toNat * 4)).block,(ad170.add ((((rd_T85 l0_0 x13_3).f2)).toNat * 4)).off + 3,none⟩ = some (.slice A170_3 ((rd_T49 l1 ((rd_T85 l0_0 x13_3).f2)).f3).length c170_3)) (ds:=[]) #[false,false,false,false,false,false,false,false,false,false,false,false,false,false,false,false,false,false,false,false,false,false,false,false,false,false,false,false,false,false] (by kernel_rfl) rfl rfl ⟨(blk_cell BK168.out 0).trans rfl,(blk_cell BK168.out 1).trans rfl,(blk_cell BK168.out 2).trans rfl,hx169_0,((HB.out.cell (World.block_lt_of_cell? w _ hw170_0)).trans hw170_0),((HB.out.cell (World.block_lt_of_cell? w _ hw170_1)).trans hw170_1),((HB.out.cell (World.block_lt_of_cell? w _ hw170_2)).trans hw170_2),((HB.out.cell (World.block_lt_of_cell? w _ hw170_3)).trans hw170_3)⟩ (fun hHeld=>?_);refine with_tabW spec_l2ends.tab16 spec_l2ends.bits16 (fun HT_ HW_=>?_)
                       generalize w70.drew = w71 at HO_9 HO_10 HO_12 BK154 BK168 HB HR170_3 hx169_0 hx170_0 hx170_1 hx170_2 hx170_3 hHeld ⊢
                       refine pure_ (i:=0) (N:=some 56) (v:=?_) (a':=?_) #[true,false,false,false,false,false,false,false,false,false,false,false,false,false,false,false,false,false,false,false,false,false,false,false,false,false,false,false,false,false] rfl rfl (any_of HT_.out (by kernel_rfl)) (fun _ _ _ h=>h) (Or.inl ⟨by rfl,?_⟩) ?_ ?_
                       rotate_left
                       ·intro w'
                        go_simp
                        first|with_reducible rfl|(rw [if_neg (by simp only [ByteArray.size_append,ByteArray.size_extract,eq_iff_iff,iff_true,iff_false] at *;omega)];try with_reducible rfl)
                       rotate_left
                       ·simp only [Act.put,List.setIfInBounds_toArray,List.set_cons_zero,List.set_cons_succ,i64_w,i32_w]
                        rfl
                       refine pure_ (i:=1) (N:=some 57) (v:=?_) (a':=?_) #[true,true,false,false,false,false,false,false,false,false,false,false,false,false,false,false,false,false,false,false,false,false,false,false,false,false,false,false,false,false] rfl rfl (any_of HT_.out (by kernel_rfl)) (fun _ _ _ h=>h) (Or.inl ⟨by rfl,?_⟩) ?_ ?_
                       rotate_left
                       ·intro w'
                        go_simp
                        first|with_reducible rfl|(rw [if_neg (by simp only [ByteArray.size_append,ByteArray.size_extract,eq_iff_iff,iff_true,iff_false] at *;omega)];try with_reducible rfl)
                       rotate_left
                       ·simp only [Act.put,List.setIfInBounds_toArray,List.set_cons_zero,List.set_cons_succ,i64_w,i32_w]
                        rfl
                       refine take_ (i:=2) (N:=some 58) (v:=?_) (a':=?_) #[true,true,true,false,false,false,false,false,false,false,false,false,false,false,false,false,false,false,false,false,false,false,false,false,false,false,false,false,false,false] rfl rfl (take_ofW HT_.out HW_.out (by kernel_rfl)) (fun _ _ _ h=>h) (Or.inl ⟨by rfl,?_⟩) hHeld ?_ ?_
                       rotate_left
                       ·rintro w' ⟨s0,s1,s2,s3,s4,s5,s6,s7⟩
                        go_simp
                        first|with_reducible rfl|(rw [if_neg (by simp only [ByteArray.size_append,ByteArray.size_extract,eq_iff_iff,iff_true,iff_false] at *;omega)];try with_reducible rfl)
                       rotate_left
                       ·simp only [Act.put,List.setIfInBounds_toArray,List.set_cons_zero,List.set_cons_succ,i64_w,i32_w]
                        rfl
                       refine pure_ (i:=3) (N:=some 59) (v:=?_) (a':=?_) #[true,true,true,true,false,false,false,false,false,false,false,false,false,false,false,false,false,false,false,false,false,false,false,false,false,false,false,false,false,false] rfl rfl (any_of HT_.out (by kernel_rfl)) (fun _ _ _ h=>h) (Or.inl ⟨by rfl,?_⟩) ?_ ?_
                       rotate_left
                       ·intro w'
                        go_simp
                        first|with_reducible rfl|(rw [if_neg (by simp only [ByteArray.size_append,ByteArray.size_extract,eq_iff_iff,iff_true,iff_false] at *;omega)];try with_reducible rfl)
                       rotate_left
                       ·simp only [Act.put,List.setIfInBounds_toArray,List.set_cons_zero,List.set_cons_succ,i64_w,i32_w]
                        rfl
                       refine take_ (i:=4) (N:=some 60) (v:=?_) (a':=?_) #[true,true,true,true,true,false,false,false,false,false,false,false,false,false,false,false,false,false,false,false,false,false,false,false,false,false,false,false,false,false] rfl rfl (take_ofW HT_.out HW_.out (by kernel_rfl)) (fun _ _ _ h=>h) (Or.inl ⟨by rfl,?_⟩) hHeld ?_ ?_
                       rotate_left
                       ·rintro w' ⟨s0,s1,s2,s3,s4,s5,s6,s7⟩
                        go_simp
                        first|with_reducible rfl|(rw [if_neg (by simp only [ByteArray.size_append,ByteArray.size_extract,eq_iff_iff,iff_true,iff_false] at *;omega)];try with_reducible rfl)
                       rotate_left
                       ·simp only [Act.put,List.setIfInBounds_toArray,List.set_cons_zero,List.set_cons_succ,i64_w,i32_w]
                        rfl
                       refine pure_ (i:=5) (N:=some 61) (v:=?_) (a':=?_) #[true,true,true,true,true,true,false,false,false,false,false,false,false,false,false,false,false,false,false,false,false,false,false,false,false,false,false,false,false,false] rfl rfl (any_of HT_.out (by kernel_rfl)) (fun _ _ _ h=>h) (Or.inl ⟨by rfl,?_⟩) ?_ ?_
                       rotate_left
                       ·intro w'
                        go_simp
                        first|with_reducible rfl|(rw [if_neg (by simp only [ByteArray.size_append,ByteArray.size_extract,eq_iff_iff,iff_true,iff_false] at *;omega)];try with_reducible rfl)
                       rotate_left
                       ·simp only [Act.put,List.setIfInBounds_toArray,List.set_cons_zero,List.set_cons_succ,i64_w,i32_w]
                        rfl
                       refine pure_ (i:=6) (N:=some 62) (v:=?_) (a':=?_) #[true,true,true,true,true,true,true,false,false,false,false,false,false,false,false,false,false,false,false,false,false,false,false,false,false,false,false,false,false,false] rfl rfl (any_of HT_.out (by kernel_rfl)) (fun _ _ _ h=>h) (Or.inl ⟨by rfl,?_⟩) ?_ ?_
                       rotate_left
                       ·intro w'
                        go_simp
                        first|with_reducible rfl|(rw [if_neg (by simp only [ByteArray.size_append,ByteArray.size_extract,eq_iff_iff,iff_true,iff_false] at *;omega)];try with_reducible rfl)
                       rotate_left
                       ·simp only [Act.put,List.setIfInBounds_toArray,List.set_cons_zero,List.set_cons_succ,i64_w,i32_w]
                        rfl
                       refine take_ (i:=7) (N:=some 63) (v:=?_) (a':=?_) #[true,true,true,true,true,true,true,true,false,false,false,false,false,false,false,false,false,false,false,false,false,false,false,false,false,false,false,false,false,false] rfl rfl (take_ofW HT_.out HW_.out (by kernel_rfl)) (fun _ _ _ h=>h) (Or.inl ⟨by rfl,?_⟩) hHeld ?_ ?_
                       rotate_left
                       ·rintro w' ⟨s0,s1,s2,s3,s4,s5,s6,s7⟩
                        go_simp
                        first|with_reducible rfl|(rw [if_neg (by simp only [ByteArray.size_append,ByteArray.size_extract,eq_iff_iff,iff_true,iff_false] at *;omega)];try with_reducible rfl)
                       rotate_left
                       ·simp only [Act.put,List.setIfInBounds_toArray,List.set_cons_zero,List.set_cons_succ,i64_w,i32_w]
                        rfl
                       refine pure_ (i:=8) (N:=some 64) (v:=?_) (a':=?_) #[true,true,true,true,true,true,true,true,true,false,false,false,false,false,false,false,false,false,false,false,false,false,false,false,false,false,false,false,false,false] rfl rfl (any_of HT_.out (by kernel_rfl)) (fun _ _ _ h=>h) (Or.inl ⟨by rfl,?_⟩) ?_ ?_
                       rotate_left
                       ·intro w'
                        go_simp
                        first|with_reducible rfl|(rw [if_neg (by simp only [ByteArray.size_append,ByteArray.size_extract,eq_iff_iff,iff_true,iff_false] at *;omega)];try with_reducible rfl)
                       rotate_left
                       ·simp only [Act.put,List.setIfInBounds_toArray,List.set_cons_zero,List.set_cons_succ,i64_w,i32_w]
                        rfl
                       refine pure_ (i:=9) (N:=some 65) (v:=?_) (a':=?_) #[true,true,true,true,true,true,true,true,true,true,false,false,false,false,false,false,false,false,false,false,false,false,false,false,false,false,false,false,false,false] rfl rfl (any_of HT_.out (by kernel_rfl)) (fun _ _ _ h=>h) (Or.inl ⟨by rfl,?_⟩) ?_ ?_
                       rotate_left
                       ·intro w'
                        go_simp
                        first|with_reducible rfl|(rw [if_neg (by simp only [ByteArray.size_append,ByteArray.size_extract,eq_iff_iff,iff_true,iff_false] at *;omega)];try with_reducible rfl)
                       rotate_left
                       ·simp only [Act.put,List.setIfInBounds_toArray,List.set_cons_zero,List.set_cons_succ,i64_w,i32_w]
                        rfl
                       refine pure_ (i:=10) (N:=some 66) (v:=?_) (a':=?_) #[true,true,true,true,true,true,true,true,true,true,true,false,false,false,false,false,false,false,false,false,false,false,false,false,false,false,false,false,false,false] rfl rfl (any_of HT_.out (by kernel_rfl)) (fun _ _ _ h=>h) (Or.inl ⟨by rfl,?_⟩) ?_ ?_
                       rotate_left
                       ·intro w'
                        go_simp
                        first|with_reducible rfl|(rw [if_neg (by simp only [ByteArray.size_append,ByteArray.size_extract,eq_iff_iff,iff_true,iff_false] at *;omega)];try with_reducible rfl)
                       rotate_left
                       ·simp only [Act.put,List.setIfInBounds_toArray,List.set_cons_zero,List.set_cons_succ,i64_w,i32_w]
                        rfl
                       refine pure_ (i:=11) (N:=some 67) (v:=?_) (a':=?_) #[true,true,true,true,true,true,true,true,true,true,true,true,false,false,false,false,false,false,false,false,false,false,false,false,false,false,false,false,false,false] rfl rfl (any_of HT_.out (by kernel_rfl)) (fun _ _ _ h=>h) (Or.inl ⟨by rfl,?_⟩) ?_ ?_
                       rotate_left
                       ·intro w'
                        go_simp
                        first|with_reducible rfl|(rw [if_neg (by simp only [ByteArray.size_append,ByteArray.size_extract,eq_iff_iff,iff_true,iff_false] at *;omega)];try with_reducible rfl)
                       rotate_left
                       ·simp only [Act.put,List.setIfInBounds_toArray,List.set_cons_zero,List.set_cons_succ,i64_w,i32_w]
                        rfl
                       refine pure_ (i:=12) (N:=some 68) (v:=?_) (a':=?_) #[true,true,true,true,true,true,true,true,true,true,true,true,true,false,false,false,false,false,false,false,false,false,false,false,false,false,false,false,false,false] rfl rfl (any_of HT_.out (by kernel_rfl)) (fun _ _ _ h=>h) (Or.inl ⟨by rfl,?_⟩) ?_ ?_
                       rotate_left
                       ·intro w'
                        go_simp
                        first|with_reducible rfl|(rw [if_neg (by simp only [ByteArray.size_append,ByteArray.size_extract,eq_iff_iff,iff_true,iff_false] at *;omega)];try with_reducible rfl)
                       rotate_left
                       ·simp only [Act.put,List.setIfInBounds_toArray,List.set_cons_zero,List.set_cons_succ,i64_w,i32_w]
                        rfl
                       refine take_ (i:=13) (N:=some 69) (v:=?_) (a':=?_) #[true,true,true,true,true,true,true,true,true,true,true,true,true,true,false,false,false,false,false,false,false,false,false,false,false,false,false,false,false,false] rfl rfl (take_ofW HT_.out HW_.out (by kernel_rfl)) (fun _ _ _ h=>h) (Or.inl ⟨by rfl,?_⟩) hHeld ?_ ?_
                       rotate_left
                       ·rintro w' ⟨s0,s1,s2,s3,s4,s5,s6,s7⟩
                        go_simp
                        first|with_reducible rfl|(rw [if_neg (by simp only [ByteArray.size_append,ByteArray.size_extract,eq_iff_iff,iff_true,iff_false] at *;omega)];try with_reducible rfl)
                       rotate_left
                       ·simp only [Act.put,List.setIfInBounds_toArray,List.set_cons_zero,List.set_cons_succ,i64_w,i32_w]
                        rfl
                       refine pure_ (i:=14) (N:=some 70) (v:=?_) (a':=?_) #[true,true,true,true,true,true,true,true,true,true,true,true,true,true,true,false,false,false,false,false,false,false,false,false,false,false,false,false,false,false] rfl rfl (any_of HT_.out (by kernel_rfl)) (fun _ _ _ h=>h) (Or.inl ⟨by rfl,?_⟩) ?_ ?_
                       rotate_left
                       ·intro w'
                        go_simp
                        first|with_reducible rfl|(rw [if_neg (by simp only [ByteArray.size_append,ByteArray.size_extract,eq_iff_iff,iff_true,iff_false] at *;omega)];try with_reducible rfl)
                       rotate_left
                       ·simp only [Act.put,List.setIfInBounds_toArray,List.set_cons_zero,List.set_cons_succ,i64_w,i32_w]
                        rfl
                       refine pure_ (i:=15) (N:=some 71) (v:=?_) (a':=?_) #[true,true,true,true,true,true,true,true,true,true,true,true,true,true,true,true,false,false,false,false,false,false,false,false,false,false,false,false,false,false] rfl rfl (any_of HT_.out (by kernel_rfl)) (fun _ _ _ h=>h) (Or.inl ⟨by rfl,?_⟩) ?_ ?_
                       rotate_left
                       ·intro w'
                        go_simp
                        first|with_reducible rfl|(rw [if_neg (by simp only [ByteArray.size_append,ByteArray.size_extract,eq_iff_iff,iff_true,iff_false] at *;omega)];try with_reducible rfl)
                       rotate_left
                       ·simp only [Act.put,List.setIfInBounds_toArray,List.set_cons_zero,List.set_cons_succ,i64_w,i32_w]
                        rfl
                       refine take_ (i:=16) (N:=some 72) (v:=?_) (a':=?_) #[true,true,true,true,true,true,true,true,true,true,true,true,true,true,true,true,true,false,false,false,false,false,false,false,false,false,false,false,false,false] rfl rfl (take_ofW HT_.out HW_.out (by kernel_rfl)) (fun _ _ _ h=>h) (Or.inl ⟨by rfl,?_⟩) hHeld ?_ ?_
                       rotate_left
                       ·rintro w' ⟨s0,s1,s2,s3,s4,s5,s6,s7⟩
                        go_simp
                        first|with_reducible rfl|(rw [if_neg (by simp only [ByteArray.size_append,ByteArray.size_extract,eq_iff_iff,iff_true,iff_false] at *;omega)];try with_reducible rfl)
                       rotate_left
                       ·simp only [Act.put,List.setIfInBounds_toArray,List.set_cons_zero,List.set_cons_succ,i64_w,i32_w]
                        rfl
                       refine pure_ (i:=17) (N:=some 73) (v:=?_) (a':=?_) #[true,true,true,true,true,true,true,true,true,true,true,true,true,true,true,true,true,true,false,false,false,false,false,false,false,false,false,false,false,false] rfl rfl (any_of HT_.out (by kernel_rfl)) (fun _ _ _ h=>h) (Or.inl ⟨by rfl,?_⟩) ?_ ?_
                       rotate_left
                       ·intro w'
                        go_simp
                        first|with_reducible rfl|(rw [if_neg (by simp only [ByteArray.size_append,ByteArray.size_extract,eq_iff_iff,iff_true,iff_false] at *;omega)];try with_reducible rfl)
                       rotate_left
                       ·simp only [Act.put,List.setIfInBounds_toArray,List.set_cons_zero,List.set_cons_succ,i64_w,i32_w]
                        rfl
                       refine pure_ (i:=18) (N:=some 74) (v:=?_) (a':=?_) #[true,true,true,true,true,true,true,true,true,true,true,true,true,true,true,true,true,true,true,false,false,false,false,false,false,false,false,false,false,false] rfl rfl (any_of HT_.out (by kernel_rfl)) (fun _ _ _ h=>h) (Or.inl ⟨by rfl,?_⟩) ?_ ?_
                       rotate_left
                       ·intro w'
                        go_simp
                        first|with_reducible rfl|(rw [if_neg (by simp only [ByteArray.size_append,ByteArray.size_extract,eq_iff_iff,iff_true,iff_false] at *;omega)];try with_reducible rfl)
                       rotate_left
                       ·simp only [Act.put,List.setIfInBounds_toArray,List.set_cons_zero,List.set_cons_succ,i64_w,i32_w]
                        rfl
                       refine pure_ (i:=19) (N:=some 75) (v:=?_) (a':=?_) #[true,true,true,true,true,true,true,true,true,true,true,true,true,true,true,true,true,true,true,true,false,false,false,false,false,false,false,false,false,false] rfl rfl (any_of HT_.out (by kernel_rfl)) (fun _ _ _ h=>h) (Or.inl ⟨by rfl,?_⟩) ?_ ?_
                       rotate_left
                       ·intro w'
                        go_simp
                        first|with_reducible rfl|(rw [if_neg (by simp only [ByteArray.size_append,ByteArray.size_extract,eq_iff_iff,iff_true,iff_false] at *;omega)];try with_reducible rfl)
                       rotate_left
                       ·simp only [Act.put,List.setIfInBounds_toArray,List.set_cons_zero,List.set_cons_succ,i64_w,i32_w]
                        rfl
                       refine pure_ (i:=20) (N:=some 76) (v:=undef) (a':=?_) #[true,true,true,true,true,true,true,true,true,true,true,true,true,true,true,true,true,true,true,true,true,false,false,false,false,false,false,false,false,false] rfl rfl (any_of HT_.out (by kernel_rfl)) (fun _ _ _ h=>h) (Or.inr ⟨by rfl,rfl⟩) ?_ ?_
                       rotate_left
                       ·simp only [Act.put,List.setIfInBounds_toArray,List.set_cons_zero,List.set_cons_succ,i64_w,i32_w]
                        rfl
                       refine pure_ (i:=21) (N:=some 77) (v:=undef) (a':=?_) #[true,true,true,true,true,true,true,true,true,true,true,true,true,true,true,true,true,true,true,true,true,true,false,false,false,false,false,false,false,false] rfl rfl (any_of HT_.out (by kernel_rfl)) (fun _ _ _ h=>h) (Or.inr ⟨by rfl,rfl⟩) ?_ ?_
                       rotate_left
                       ·simp only [Act.put,List.setIfInBounds_toArray,List.set_cons_zero,List.set_cons_succ,i64_w,i32_w]
                        rfl
                       refine pure_ (i:=22) (N:=some 78) (v:=undef) (a':=?_) #[true,true,true,true,true,true,true,true,true,true,true,true,true,true,true,true,true,true,true,true,true,true,true,false,false,false,false,false,false,false] rfl rfl (any_of HT_.out (by kernel_rfl)) (fun _ _ _ h=>h) (Or.inr ⟨by rfl,rfl⟩) ?_ ?_
                       rotate_left
                       ·simp only [Act.put,List.setIfInBounds_toArray,List.set_cons_zero,List.set_cons_succ,i64_w,i32_w]
                        rfl
                       refine pure_ (i:=23) (N:=some 79) (v:=undef) (a':=?_) #[true,true,true,true,true,true,true,true,true,true,true,true,true,true,true,true,true,true,true,true,true,true,true,true,false,false,false,false,false,false] rfl rfl (any_of HT_.out (by kernel_rfl)) (fun _ _ _ h=>h) (Or.inr ⟨by rfl,rfl⟩) ?_ ?_
                       rotate_left
                       ·simp only [Act.put,List.setIfInBounds_toArray,List.set_cons_zero,List.set_cons_succ,i64_w,i32_w]
                        rfl
                       refine pure_ (i:=24) (N:=some 80) (v:=undef) (a':=?_) #[true,true,true,true,true,true,true,true,true,true,true,true,true,true,true,true,true,true,true,true,true,true,true,true,true,false,false,false,false,false] rfl rfl (any_of HT_.out (by kernel_rfl)) (fun _ _ _ h=>h) (Or.inr ⟨by rfl,rfl⟩) ?_ ?_
                       rotate_left
                       ·simp only [Act.put,List.setIfInBounds_toArray,List.set_cons_zero,List.set_cons_succ,i64_w,i32_w]
                        rfl
                       refine pure_ (i:=25) (N:=some 81) (v:=undef) (a':=?_) #[true,true,true,true,true,true,true,true,true,true,true,true,true,true,true,true,true,true,true,true,true,true,true,true,true,true,false,false,false,false] rfl rfl (any_of HT_.out (by kernel_rfl)) (fun _ _ _ h=>h) (Or.inr ⟨by rfl,rfl⟩) ?_ ?_
                       rotate_left
                       ·simp only [Act.put,List.setIfInBounds_toArray,List.set_cons_zero,List.set_cons_succ,i64_w,i32_w]
                        rfl
                       refine pure_ (i:=26) (N:=some 82) (v:=undef) (a':=?_) #[true,true,true,true,true,true,true,true,true,true,true,true,true,true,true,true,true,true,true,true,true,true,true,true,true,true,true,false,false,false] rfl rfl (any_of HT_.out (by kernel_rfl)) (fun _ _ _ h=>h) (Or.inr ⟨by rfl,rfl⟩) ?_ ?_
                       rotate_left
                       ·simp only [Act.put,List.setIfInBounds_toArray,List.set_cons_zero,List.set_cons_succ,i64_w,i32_w]
                        rfl
                       refine pure_ (i:=27) (N:=some 83) (v:=undef) (a':=?_) #[true,true,true,true,true,true,true,true,true,true,true,true,true,true,true,true,true,true,true,true,true,true,true,true,true,true,true,true,false,false] rfl rfl (any_of HT_.out (by kernel_rfl)) (fun _ _ _ h=>h) (Or.inr ⟨by rfl,rfl⟩) ?_ ?_
                       rotate_left
                       ·simp only [Act.put,List.setIfInBounds_toArray,List.set_cons_zero,List.set_cons_succ,i64_w,i32_w]
                        rfl
                       refine pure_ (i:=28) (N:=some 84) (v:=undef) (a':=?_) #[true,true,true,true,true,true,true,true,true,true,true,true,true,true,true,true,true,true,true,true,true,true,true,true,true,true,true,true,true,false] rfl rfl (any_of HT_.out (by kernel_rfl)) (fun _ _ _ h=>h) (Or.inr ⟨by rfl,rfl⟩) ?_ ?_
                       rotate_left
                       ·simp only [Act.put,List.setIfInBounds_toArray,List.set_cons_zero,List.set_cons_succ,i64_w,i32_w]
                        rfl
                       refine pure_ (i:=29) (N:=some 85) (v:=?_) (a':=?_) #[true,true,true,true,true,true,true,true,true,true,true,true,true,true,true,true,true,true,true,true,true,true,true,true,true,true,true,true,true,true] rfl rfl (any_of HT_.out (by kernel_rfl)) (fun _ _ _ h=>h) (Or.inl ⟨by rfl,?_⟩) ?_ ?_
                       rotate_left
                       ·intro w'
                        go_simp
                        first|with_reducible rfl|(rw [if_neg (by simp only [ByteArray.size_append,ByteArray.size_extract,eq_iff_iff,iff_true,iff_false] at *;omega)];try with_reducible rfl)
                       rotate_left
                       ·simp only [Act.put,List.setIfInBounds_toArray,List.set_cons_zero,List.set_cons_succ,i64_w,i32_w]
                        rfl
                       refine done_ (done_of HT_.out (by kernel_rfl)) ?_
                       try go_wp2
                       go_roundg k3
                       case measure=>have:=HK1.out;have:=HJ16.out;have:=HK3.out;omega
                       case rel=>exact ⟨(x12_3),(wrap64 (x13_3 + 1)),(by first|rfl|(simp;done)|(simp [*];done)),H',⟨by have:=HK1.out;have:=HJ16.out;have:=HK3.out;omega⟩,⟨by (try simp only [hl10_16]);(with_reducible repeat (first|apply Kd.R_alloc|apply Kd.R_drewN|apply Kd.R_drew));exact HO_9.out⟩,⟨by (try simp only [hl10_16]);(with_reducible repeat (first|apply Kd.R_alloc|apply Kd.R_drewN|apply Kd.R_drew));exact HO_10.out⟩,⟨by (try simp only [hl10_16]);(with_reducible repeat (first|apply Kd.R_alloc|apply Kd.R_drewN|apply Kd.R_drew));exact HO_12.out⟩,⟨by (try simp only [hl10_16]);(with_reducible repeat (first|refine blk_drewN ?_ _|refine blk_drew ?_|refine blk_alloc ?_ _));exact BK154.out⟩,⟨by repeat (first|(with_reducible first|exact HB.out|apply below_alloc|apply pw_below_drewN|apply below_drew1|refine below_set ?_ GE154.out|refine below_set ?_ GE168.out)|exact HB.out)⟩⟩
                     ·rw [if_neg c39] at H
                      exact absurd H (by simp)
                    ·rw [if_neg c38] at H
                     exact absurd H (by simp)
                   ·rw [if_neg c37] at H
                    have c37b0 : decide (0 ≤ ((rd_T85 l0_0 x13_3).f2)) = false:=decide_eq_false c37
                    clear c37
                    have H':=Aside0.mk H
                    clear H
                    have hcz72_0 : wr.cell? ⟨gb154,0,none⟩ = some (.slice A0_0 l0_0.length c0_0):=(blk_cell BK154.out 0).trans rfl
                    have hcz72_1 : wr.cell? ⟨gb154,1,none⟩ = some (.int .i64 a0_1):=(blk_cell BK154.out 1).trans rfl
                    have hfz72_0:=blk_frozen BK154.out 0
                    have hfz72_1:=blk_frozen BK154.out 1
                    have p167 : 0 ≤ (x13_3 : Int):=of_decide_eq_true (by first|(with_reducible assumption)|assumption)
                    have q167 : x13_3 < (l0_0.length : Int):=of_decide_eq_true (by first|(with_reducible assumption)|assumption)
                    obtain ⟨ad167,e167,hx167_0,hx167_1,hx167_2⟩:=at_T85 HR0_0.out x13_3 p167 q167
                    cases e167
                    replace hx167_0:=(HB.out.cell (World.block_lt_of_cell? w _ hx167_0)).trans hx167_0
                    replace hx167_1:=(HB.out.cell (World.block_lt_of_cell? w _ hx167_1)).trans hx167_1
                    replace hx167_2:=(HB.out.cell (World.block_lt_of_cell? w _ hx167_2)).trans hx167_2
                    replace p167:=eq_true p167
                    replace q167:=eq_true q167
                    try go_wp2_with (first|((with_reducible refine gate_dst (N:=14) rfl ?_);refine box_event ?hg (N:=14) ?hd (cs:=#[.int .i64 0,.int .i64 0,.int .i64 0]) (t:=85) ?hr ?_;(case hd=>rfl);(case hg=>rfl);(case hr=>first|(go_simp;done)|(go_simp;rfl));intro gb168 hg w73 hbox hb;have n0_:=Aside0.mk (Kd.R_below (by (with_reducible repeat (first|apply Kd.R_alloc|apply Kd.R_drewN|apply Kd.R_drew));exact HO_9.out) hb);have n1_:=Aside0.mk (Kd.R_below (by (with_reducible repeat (first|apply Kd.R_alloc|apply Kd.R_drewN|apply Kd.R_drew));exact HO_10.out) hb);have n2_:=Aside0.mk (Kd.R_below (by (with_reducible repeat (first|apply Kd.R_alloc|apply Kd.R_drewN|apply Kd.R_drew));exact HO_12.out) hb);have n3_:=Aside0.mk (blk_below (g:=gb154) (o:=.cells #[.slice (some ad167) l0_0.length c0_0,.int .i64 a0_1] 59 (0,0)) (by (with_reducible repeat (first|refine blk_drewN ?_ _|refine blk_drew ?_|refine blk_alloc ?_ _));exact BK154.out) hb);have n4_:=Aside0.mk (below_step (by repeat (first|(with_reducible first|exact HB.out|apply below_alloc|apply pw_below_drewN|apply below_drew1|refine below_set ?_ GE154.out)|exact HB.out)) hb);have n5_:=Aside0.mk (hbox);have n6_:=Aside0.mk ((by rw [hg];exact (below_size (by repeat (first|(with_reducible first|exact HB.out|apply below_alloc|apply pw_below_drewN|apply below_drew1|refine below_set ?_ GE154.out)|exact HB.out))) : w.heap.size ≤ gb168));have n7_:=Aside0.mk ((by rw [hg];exact (below_size (by repeat (first|(with_reducible first|exact HB.out|apply below_alloc|apply pw_below_drewN|apply below_drew1|refine below_set ?_ GE154.out)|exact HB.out))) : w.heap.size ≤ gb168));have n8_:=Aside0.mk ((by rw [hg];exact Nat.ne_of_lt (blk_lt (g:=gb154) (o:=.cells #[.slice (some ad167) l0_0.length c0_0,.int .i64 a0_1] 59 (0,0)) (by (with_reducible repeat (first|refine blk_drewN ?_ _|refine blk_drew ?_|refine blk_alloc ?_ _));exact BK154.out)) : gb154 ≠ gb168));have n9_:=Aside0.mk ((by rw [hg];exact Nat.ne_of_gt (blk_lt (g:=gb154) (o:=.cells #[.slice (some ad167) l0_0.length c0_0,.int .i64 a0_1] 59 (0,0)) (by (with_reducible repeat (first|refine blk_drewN ?_ _|refine blk_drew ?_|refine blk_alloc ?_ _));exact BK154.out)) : gb168 ≠ gb154));clear HO_9;clear HO_10;clear HO_12;clear BK154;clear HB;have HO_9:=n0_;have HO_10:=n1_;have HO_12:=n2_;have BK154:=n3_;have HB:=n4_;have BK168:=n5_;have GW168:=n6_;have GE168:=n7_;have NB154_168:=n8_;have NB168_154:=n9_;clear n0_ n1_ n2_ n3_ n4_ n5_ n6_ n7_ n8_ n9_;clear hb hbox hg;have hnb74:=NB168_154.out;have hnc74:=NB154_168.out;have hcz75_0 : w73.cell? ⟨gb168,0,none⟩ = some (.int .i64 0):=(blk_cell BK168.out 0).trans rfl;have hcz75_1 : w73.cell? ⟨gb168,1,none⟩ = some (.int .i64 0):=(blk_cell BK168.out 1).trans rfl;have hcz75_2 : w73.cell? ⟨gb168,2,none⟩ = some (.int .i64 0):=(blk_cell BK168.out 2).trans rfl;have hfz75_0:=blk_frozen BK168.out 0;have hfz75_1:=blk_frozen BK168.out 1;have hfz75_2:=blk_frozen BK168.out 2))
                    have n0_ : Aside0 (Kd.R (Kd.int .i64) 3 (((w73.setCell ⟨gb168,0,none⟩ (.int .i64 ((rd_T85 l0_0 x13_3).f0))).setCell ⟨gb168,1,none⟩ (.int .i64 ((rd_T85 l0_0 x13_3).f1))).setCell ⟨gb168,2,none⟩ (.int .i64 ((rd_T85 l0_0 x13_3).f2))) w.heap.size (fun _=>True) u9 x9_16):=⟨by (with_reducible repeat (first|apply Kd.R_alloc|apply Kd.R_drewN|apply Kd.R_drew));exact Kd.R_mono (Kd.R_far (p:=⟨gb168,2,none⟩) (Kd.R_far (p:=⟨gb168,1,none⟩) (Kd.R_far (p:=⟨gb168,0,none⟩) (Kd.R_types HO_9.out BK168.out (by decide)) (fun _ hk=>hk.2) (.int .i64 ((rd_T85 l0_0 x13_3).f0))) (fun _ hk=>hk.2) (.int .i64 ((rd_T85 l0_0 x13_3).f1))) (fun _ hk=>hk.2) (.int .i64 ((rd_T85 l0_0 x13_3).f2))) (fun _ hk=>trivial)⟩
                    have n1_ : Aside0 (Kd.R Kd.bool 4 (((w73.setCell ⟨gb168,0,none⟩ (.int .i64 ((rd_T85 l0_0 x13_3).f0))).setCell ⟨gb168,1,none⟩ (.int .i64 ((rd_T85 l0_0 x13_3).f1))).setCell ⟨gb168,2,none⟩ (.int .i64 ((rd_T85 l0_0 x13_3).f2))) w.heap.size (fun k_=>some k_ ≠ (v165 : Value).ownBlock) (.slice (some ad160) t159.length co19) t159):=⟨by (with_reducible repeat (first|apply Kd.R_alloc|apply Kd.R_drewN|apply Kd.R_drew));exact Kd.R_mono (Kd.R_far (p:=⟨gb168,2,none⟩) (Kd.R_far (p:=⟨gb168,1,none⟩) (Kd.R_far (p:=⟨gb168,0,none⟩) (Kd.R_types HO_10.out BK168.out (by decide)) (fun _ hk=>hk.2) (.int .i64 ((rd_T85 l0_0 x13_3).f0))) (fun _ hk=>hk.2) (.int .i64 ((rd_T85 l0_0 x13_3).f1))) (fun _ hk=>hk.2) (.int .i64 ((rd_T85 l0_0 x13_3).f2))) (fun _ hk=>hk.1)⟩
                    have n2_ : Aside0 (Kd.R Kd.bool 4 (((w73.setCell ⟨gb168,0,none⟩ (.int .i64 ((rd_T85 l0_0 x13_3).f0))).setCell ⟨gb168,1,none⟩ (.int .i64 ((rd_T85 l0_0 x13_3).f1))).setCell ⟨gb168,2,none⟩ (.int .i64 ((rd_T85 l0_0 x13_3).f2))) w.heap.size (fun k_=>some k_ ≠ (.slice (some ad160) t159.length co19 : Value).ownBlock) v165 x12_3):=⟨by (with_reducible repeat (first|apply Kd.R_alloc|apply Kd.R_drewN|apply Kd.R_drew));exact Kd.R_mono (Kd.R_far (p:=⟨gb168,2,none⟩) (Kd.R_far (p:=⟨gb168,1,none⟩) (Kd.R_far (p:=⟨gb168,0,none⟩) (Kd.R_types HO_12.out BK168.out (by decide)) (fun _ hk=>hk.2) (.int .i64 ((rd_T85 l0_0 x13_3).f0))) (fun _ hk=>hk.2) (.int .i64 ((rd_T85 l0_0 x13_3).f1))) (fun _ hk=>hk.2) (.int .i64 ((rd_T85 l0_0 x13_3).f2))) (fun _ hk=>hk.1)⟩
                    have n3_ : Aside0 ((((w73.setCell ⟨gb168,0,none⟩ (.int .i64 ((rd_T85 l0_0 x13_3).f0))).setCell ⟨gb168,1,none⟩ (.int .i64 ((rd_T85 l0_0 x13_3).f1))).setCell ⟨gb168,2,none⟩ (.int .i64 ((rd_T85 l0_0 x13_3).f2))).heap[gb154]? = some (.cells #[.slice (some ad167) l0_0.length c0_0,.int .i64 a0_1] 59 (0,0))):=⟨by (with_reducible repeat (first|refine blk_drewN ?_ _|refine blk_drew ?_|refine blk_alloc ?_ _));refine blk_far ?_ NB154_168.out _;(with_reducible repeat (first|refine blk_drewN ?_ _|refine blk_drew ?_|refine blk_alloc ?_ _));refine blk_far ?_ NB154_168.out _;(with_reducible repeat (first|refine blk_drewN ?_ _|refine blk_drew ?_|refine blk_alloc ?_ _));refine blk_far ?_ NB154_168.out _;(with_reducible repeat (first|refine blk_drewN ?_ _|refine blk_drew ?_|refine blk_alloc ?_ _));exact BK154.out⟩
                    have n4_ : Aside0 ((((w73.setCell ⟨gb168,0,none⟩ (.int .i64 ((rd_T85 l0_0 x13_3).f0))).setCell ⟨gb168,1,none⟩ (.int .i64 ((rd_T85 l0_0 x13_3).f1))).setCell ⟨gb168,2,none⟩ (.int .i64 ((rd_T85 l0_0 x13_3).f2))).heap[gb168]? = some (.cells #[.int .i64 ((rd_T85 l0_0 x13_3).f0),.int .i64 ((rd_T85 l0_0 x13_3).f1),.int .i64 ((rd_T85 l0_0 x13_3).f2)] 85 (0,0))):=⟨by (with_reducible repeat (first|refine blk_drewN ?_ _|refine blk_drew ?_|refine blk_alloc ?_ _));refine blk_put (cs:=#[.int .i64 ((rd_T85 l0_0 x13_3).f0),.int .i64 ((rd_T85 l0_0 x13_3).f1),.int .i64 0]) ?_ 2 _ rfl;(with_reducible repeat (first|refine blk_drewN ?_ _|refine blk_drew ?_|refine blk_alloc ?_ _));refine blk_put (cs:=#[.int .i64 ((rd_T85 l0_0 x13_3).f0),.int .i64 0,.int .i64 0]) ?_ 1 _ rfl;(with_reducible repeat (first|refine blk_drewN ?_ _|refine blk_drew ?_|refine blk_alloc ?_ _));refine blk_put (cs:=#[.int .i64 0,.int .i64 0,.int .i64 0]) ?_ 0 _ rfl;(with_reducible repeat (first|refine blk_drewN ?_ _|refine blk_drew ?_|refine blk_alloc ?_ _));exact BK168.out⟩
                    have n5_ : Aside0 (Below w.heap.size w (((w73.setCell ⟨gb168,0,none⟩ (.int .i64 ((rd_T85 l0_0 x13_3).f0))).setCell ⟨gb168,1,none⟩ (.int .i64 ((rd_T85 l0_0 x13_3).f1))).setCell ⟨gb168,2,none⟩ (.int .i64 ((rd_T85 l0_0 x13_3).f2)))):=⟨by repeat (first|(with_reducible first|exact HB.out|apply below_alloc|apply pw_below_drewN|apply below_drew1|refine below_set ?_ GE154.out|refine below_set ?_ GE168.out)|exact HB.out)⟩
                    (try clear HO_9)
                    (try clear HO_10)
                    (try clear HO_12)
                    (try clear BK154)
                    (try clear BK168)
                    (try clear HB)
                    generalize (((w73.setCell ⟨gb168,0,none⟩ (.int .i64 ((rd_T85 l0_0 x13_3).f0))).setCell ⟨gb168,1,none⟩ (.int .i64 ((rd_T85 l0_0 x13_3).f1))).setCell ⟨gb168,2,none⟩ (.int .i64 ((rd_T85 l0_0 x13_3).f2))) = w76 at n0_ n1_ n2_ n3_ n4_ n5_ ⊢
                    have HO_9:=n0_
                    have HO_10:=n1_
                    have HO_12:=n2_
                    have BK154:=n3_
                    have BK168:=n4_
                    have HB:=n5_
                    clear n0_ n1_ n2_ n3_ n4_ n5_
                    have n0_:=Aside0.mk (Kd.R_drew HO_9.out)
                    have n1_:=Aside0.mk (Kd.R_drew HO_10.out)
                    have n2_:=Aside0.mk (Kd.R_drew HO_12.out)
                    have n3_:=Aside0.mk (blk_drew BK154.out)
                    have n4_:=Aside0.mk (blk_drew BK168.out)
                    have n5_:=Aside0.mk (below_drew1 HB.out)
                    clear HO_9
                    clear HO_10
                    clear HO_12
                    clear BK154
                    clear BK168
                    clear HB
                    have HO_9:=n0_
                    have HO_10:=n1_
                    have HO_12:=n2_
                    have BK154:=n3_
                    have BK168:=n4_
                    have HB:=n5_
                    clear n0_ n1_ n2_ n3_ n4_ n5_
                    have p169 : 0 ≤ (((rd_T85 l0_0 x13_3).f0) : Int):=of_decide_eq_true (by first|(with_reducible assumption)|assumption)
                    have q169 : ((rd_T85 l0_0 x13_3).f0) < (t159.length : Int):=of_decide_eq_true (by first|(with_reducible assumption)|assumption)
                    obtain ⟨ad169,e169,hx169_0⟩:=Kd.at_bool (Kd.R_reads' HO_10.out).2.2 ((rd_T85 l0_0 x13_3).f0) p169 q169
                    (try rw [← Nbq35.out] at hx169_0)
                    obtain rfl : ad160 = ad169:=(by injection e169)
                    replace p169:=eq_true p169
                    replace q169:=eq_true q169
                    refine start_ (n:=30) (S:=fun w'=>w'.cell? ⟨gb168,0,none⟩ = some (.int .i64 ((rd_T85 l0_0 x13_3).f0)) ∧ w'.cell? ⟨gb168,1,none⟩ = some (.int .i64 ((rd_T85 l0_0 x13_3).f1)) ∧ w'.cell? ⟨gb168,2,none⟩ = some (.int .i64 ((rd_T85 l0_0 x13_3).f2)) ∧ w'.cell? (ad160.add (((rd_T85 l0_0 x13_3).f0)).toNat) = some (.bool true)) (ds:=[]) #[false,false,false,false,false,false,false,false,false,false,false,false,false,false,false,false,false,false,false,false,false,false,false,false,false,false,false,false,false,false] (by kernel_rfl) rfl rfl ⟨(blk_cell BK168.out 0).trans rfl,(blk_cell BK168.out 1).trans rfl,(blk_cell BK168.out 2).trans rfl,hx169_0⟩ (fun hHeld=>?_);refine with_tabW spec_l2ends.tab16 spec_l2ends.bits16 (fun HT_ HW_=>?_)
                    generalize w76.drew = w77 at HO_9 HO_10 HO_12 BK154 BK168 HB hx169_0 hHeld ⊢
                    refine pure_ (i:=0) (N:=some 56) (v:=?_) (a':=?_) #[true,false,false,false,false,false,false,false,false,false,false,false,false,false,false,false,false,false,false,false,false,false,false,false,false,false,false,false,false,false] rfl rfl (any_of HT_.out (by kernel_rfl)) (fun _ _ _ h=>h) (Or.inl ⟨by rfl,?_⟩) ?_ ?_
                    rotate_left
                    ·intro w'
                     go_simp
                     first|with_reducible rfl|(rw [if_neg (by simp only [ByteArray.size_append,ByteArray.size_extract,eq_iff_iff,iff_true,iff_false] at *;omega)];try with_reducible rfl)
                    rotate_left
                    ·simp only [Act.put,List.setIfInBounds_toArray,List.set_cons_zero,List.set_cons_succ,i64_w,i32_w]
                     rfl
                    refine pure_ (i:=1) (N:=some 57) (v:=?_) (a':=?_) #[true,true,false,false,false,false,false,false,false,false,false,false,false,false,false,false,false,false,false,false,false,false,false,false,false,false,false,false,false,false] rfl rfl (any_of HT_.out (by kernel_rfl)) (fun _ _ _ h=>h) (Or.inl ⟨by rfl,?_⟩) ?_ ?_
                    rotate_left
                    ·intro w'
                     go_simp
                     first|with_reducible rfl|(rw [if_neg (by simp only [ByteArray.size_append,ByteArray.size_extract,eq_iff_iff,iff_true,iff_false] at *;omega)];try with_reducible rfl)
                    rotate_left
                    ·simp only [Act.put,List.setIfInBounds_toArray,List.set_cons_zero,List.set_cons_succ,i64_w,i32_w]
                     rfl
                    refine take_ (i:=2) (N:=some 58) (v:=?_) (a':=?_) #[true,true,true,false,false,false,false,false,false,false,false,false,false,false,false,false,false,false,false,false,false,false,false,false,false,false,false,false,false,false] rfl rfl (take_ofW HT_.out HW_.out (by kernel_rfl)) (fun _ _ _ h=>h) (Or.inl ⟨by rfl,?_⟩) hHeld ?_ ?_
                    rotate_left
                    ·rintro w' ⟨s0,s1,s2,s3⟩
                     go_simp
                     first|with_reducible rfl|(rw [if_neg (by simp only [ByteArray.size_append,ByteArray.size_extract,eq_iff_iff,iff_true,iff_false] at *;omega)];try with_reducible rfl)
                    rotate_left
                    ·simp only [Act.put,List.setIfInBounds_toArray,List.set_cons_zero,List.set_cons_succ,i64_w,i32_w]
                     rfl
                    refine pure_ (i:=3) (N:=some 59) (v:=?_) (a':=?_) #[true,true,true,true,false,false,false,false,false,false,false,false,false,false,false,false,false,false,false,false,false,false,false,false,false,false,false,false,false,false] rfl rfl (any_of HT_.out (by kernel_rfl)) (fun _ _ _ h=>h) (Or.inl ⟨by rfl,?_⟩) ?_ ?_
                    rotate_left
                    ·intro w'
                     go_simp
                     first|with_reducible rfl|(rw [if_neg (by simp only [ByteArray.size_append,ByteArray.size_extract,eq_iff_iff,iff_true,iff_false] at *;omega)];try with_reducible rfl)
                    rotate_left
                    ·simp only [Act.put,List.setIfInBounds_toArray,List.set_cons_zero,List.set_cons_succ,i64_w,i32_w]
                     rfl
                    refine take_ (i:=4) (N:=some 60) (v:=?_) (a':=?_) #[true,true,true,true,true,false,false,false,false,false,false,false,false,false,false,false,false,false,false,false,false,false,false,false,false,false,false,false,false,false] rfl rfl (take_ofW HT_.out HW_.out (by kernel_rfl)) (fun _ _ _ h=>h) (Or.inl ⟨by rfl,?_⟩) hHeld ?_ ?_
                    rotate_left
                    ·rintro w' ⟨s0,s1,s2,s3⟩
                     go_simp
                     first|with_reducible rfl|(rw [if_neg (by simp only [ByteArray.size_append,ByteArray.size_extract,eq_iff_iff,iff_true,iff_false] at *;omega)];try with_reducible rfl)
                    rotate_left
                    ·simp only [Act.put,List.setIfInBounds_toArray,List.set_cons_zero,List.set_cons_succ,i64_w,i32_w]
                     rfl
                    refine pure_ (i:=5) (N:=some 61) (v:=?_) (a':=?_) #[true,true,true,true,true,true,false,false,false,false,false,false,false,false,false,false,false,false,false,false,false,false,false,false,false,false,false,false,false,false] rfl rfl (any_of HT_.out (by kernel_rfl)) (fun _ _ _ h=>h) (Or.inl ⟨by rfl,?_⟩) ?_ ?_
                    rotate_left
                    ·intro w'
                     go_simp
                     first|with_reducible rfl|(rw [if_neg (by simp only [ByteArray.size_append,ByteArray.size_extract,eq_iff_iff,iff_true,iff_false] at *;omega)];try with_reducible rfl)
                    rotate_left
                    ·simp only [Act.put,List.setIfInBounds_toArray,List.set_cons_zero,List.set_cons_succ,i64_w,i32_w]
                     rfl
                    refine pure_ (i:=6) (N:=some 62) (v:=?_) (a':=?_) #[true,true,true,true,true,true,true,false,false,false,false,false,false,false,false,false,false,false,false,false,false,false,false,false,false,false,false,false,false,false] rfl rfl (any_of HT_.out (by kernel_rfl)) (fun _ _ _ h=>h) (Or.inl ⟨by rfl,?_⟩) ?_ ?_
                    rotate_left
                    ·intro w'
                     go_simp
                     first|with_reducible rfl|(rw [if_neg (by simp only [ByteArray.size_append,ByteArray.size_extract,eq_iff_iff,iff_true,iff_false] at *;omega)];try with_reducible rfl)
                    rotate_left
                    ·simp only [Act.put,List.setIfInBounds_toArray,List.set_cons_zero,List.set_cons_succ,i64_w,i32_w]
                     rfl
                    refine take_ (i:=7) (N:=some 63) (v:=?_) (a':=?_) #[true,true,true,true,true,true,true,true,false,false,false,false,false,false,false,false,false,false,false,false,false,false,false,false,false,false,false,false,false,false] rfl rfl (take_ofW HT_.out HW_.out (by kernel_rfl)) (fun _ _ _ h=>h) (Or.inl ⟨by rfl,?_⟩) hHeld ?_ ?_
                    rotate_left
                    ·rintro w' ⟨s0,s1,s2,s3⟩
                     go_simp
                     first|with_reducible rfl|(rw [if_neg (by simp only [ByteArray.size_append,ByteArray.size_extract,eq_iff_iff,iff_true,iff_false] at *;omega)];try with_reducible rfl)
                    rotate_left
                    ·simp only [Act.put,List.setIfInBounds_toArray,List.set_cons_zero,List.set_cons_succ,i64_w,i32_w]
                     rfl
                    refine pure_ (i:=8) (N:=some 64) (v:=?_) (a':=?_) #[true,true,true,true,true,true,true,true,true,false,false,false,false,false,false,false,false,false,false,false,false,false,false,false,false,false,false,false,false,false] rfl rfl (any_of HT_.out (by kernel_rfl)) (fun _ _ _ h=>h) (Or.inl ⟨by rfl,?_⟩) ?_ ?_
                    rotate_left
                    ·intro w'
                     go_simp
                     first|with_reducible rfl|(rw [if_neg (by simp only [ByteArray.size_append,ByteArray.size_extract,eq_iff_iff,iff_true,iff_false] at *;omega)];try with_reducible rfl)
                    rotate_left
                    ·simp only [Act.put,List.setIfInBounds_toArray,List.set_cons_zero,List.set_cons_succ,i64_w,i32_w]
                     rfl
                    refine pure_ (i:=9) (N:=some 65) (v:=?_) (a':=?_) #[true,true,true,true,true,true,true,true,true,true,false,false,false,false,false,false,false,false,false,false,false,false,false,false,false,false,false,false,false,false] rfl rfl (any_of HT_.out (by kernel_rfl)) (fun _ _ _ h=>h) (Or.inl ⟨by rfl,?_⟩) ?_ ?_
                    rotate_left
                    ·intro w'
                     go_simp
                     first|with_reducible rfl|(rw [if_neg (by simp only [ByteArray.size_append,ByteArray.size_extract,eq_iff_iff,iff_true,iff_false] at *;omega)];try with_reducible rfl)
                    rotate_left
                    ·simp only [Act.put,List.setIfInBounds_toArray,List.set_cons_zero,List.set_cons_succ,i64_w,i32_w]
                     rfl
                    refine pure_ (i:=10) (N:=some 66) (v:=?_) (a':=?_) #[true,true,true,true,true,true,true,true,true,true,true,false,false,false,false,false,false,false,false,false,false,false,false,false,false,false,false,false,false,false] rfl rfl (any_of HT_.out (by kernel_rfl)) (fun _ _ _ h=>h) (Or.inl ⟨by rfl,?_⟩) ?_ ?_
                    rotate_left
                    ·intro w'
                     go_simp
                     first|with_reducible rfl|(rw [if_neg (by simp only [ByteArray.size_append,ByteArray.size_extract,eq_iff_iff,iff_true,iff_false] at *;omega)];try with_reducible rfl)
                    rotate_left
                    ·simp only [Act.put,List.setIfInBounds_toArray,List.set_cons_zero,List.set_cons_succ,i64_w,i32_w]
                     rfl
                    refine pure_ (i:=11) (N:=some 67) (v:=undef) (a':=?_) #[true,true,true,true,true,true,true,true,true,true,true,true,false,false,false,false,false,false,false,false,false,false,false,false,false,false,false,false,false,false] rfl rfl (any_of HT_.out (by kernel_rfl)) (fun _ _ _ h=>h) (Or.inr ⟨by rfl,rfl⟩) ?_ ?_
                    rotate_left
                    ·simp only [Act.put,List.setIfInBounds_toArray,List.set_cons_zero,List.set_cons_succ,i64_w,i32_w]
                     rfl
                    refine pure_ (i:=12) (N:=some 68) (v:=undef) (a':=?_) #[true,true,true,true,true,true,true,true,true,true,true,true,true,false,false,false,false,false,false,false,false,false,false,false,false,false,false,false,false,false] rfl rfl (any_of HT_.out (by kernel_rfl)) (fun _ _ _ h=>h) (Or.inr ⟨by rfl,rfl⟩) ?_ ?_
                    rotate_left
                    ·simp only [Act.put,List.setIfInBounds_toArray,List.set_cons_zero,List.set_cons_succ,i64_w,i32_w]
                     rfl
                    refine pure_ (i:=13) (N:=some 69) (v:=undef) (a':=?_) #[true,true,true,true,true,true,true,true,true,true,true,true,true,true,false,false,false,false,false,false,false,false,false,false,false,false,false,false,false,false] rfl rfl (any_of HT_.out (by kernel_rfl)) (fun _ _ _ h=>h) (Or.inr ⟨by rfl,rfl⟩) ?_ ?_
                    rotate_left
                    ·simp only [Act.put,List.setIfInBounds_toArray,List.set_cons_zero,List.set_cons_succ,i64_w,i32_w]
                     rfl
                    refine pure_ (i:=14) (N:=some 70) (v:=undef) (a':=?_) #[true,true,true,true,true,true,true,true,true,true,true,true,true,true,true,false,false,false,false,false,false,false,false,false,false,false,false,false,false,false] rfl rfl (any_of HT_.out (by kernel_rfl)) (fun _ _ _ h=>h) (Or.inr ⟨by rfl,rfl⟩) ?_ ?_
                    rotate_left
                    ·simp only [Act.put,List.setIfInBounds_toArray,List.set_cons_zero,List.set_cons_succ,i64_w,i32_w]
                     rfl
                    refine pure_ (i:=15) (N:=some 71) (v:=undef) (a':=?_) #[true,true,true,true,true,true,true,true,true,true,true,true,true,true,true,true,false,false,false,false,false,false,false,false,false,false,false,false,false,false] rfl rfl (any_of HT_.out (by kernel_rfl)) (fun _ _ _ h=>h) (Or.inr ⟨by rfl,rfl⟩) ?_ ?_
                    rotate_left
                    ·simp only [Act.put,List.setIfInBounds_toArray,List.set_cons_zero,List.set_cons_succ,i64_w,i32_w]
                     rfl
                    refine pure_ (i:=16) (N:=some 72) (v:=undef) (a':=?_) #[true,true,true,true,true,true,true,true,true,true,true,true,true,true,true,true,true,false,false,false,false,false,false,false,false,false,false,false,false,false] rfl rfl (any_of HT_.out (by kernel_rfl)) (fun _ _ _ h=>h) (Or.inr ⟨by rfl,rfl⟩) ?_ ?_
                    rotate_left
                    ·simp only [Act.put,List.setIfInBounds_toArray,List.set_cons_zero,List.set_cons_succ,i64_w,i32_w]
                     rfl
                    refine pure_ (i:=17) (N:=some 73) (v:=undef) (a':=?_) #[true,true,true,true,true,true,true,true,true,true,true,true,true,true,true,true,true,true,false,false,false,false,false,false,false,false,false,false,false,false] rfl rfl (any_of HT_.out (by kernel_rfl)) (fun _ _ _ h=>h) (Or.inr ⟨by rfl,rfl⟩) ?_ ?_
                    rotate_left
                    ·simp only [Act.put,List.setIfInBounds_toArray,List.set_cons_zero,List.set_cons_succ,i64_w,i32_w]
                     rfl
                    refine pure_ (i:=18) (N:=some 74) (v:=?_) (a':=?_) #[true,true,true,true,true,true,true,true,true,true,true,true,true,true,true,true,true,true,true,false,false,false,false,false,false,false,false,false,false,false] rfl rfl (any_of HT_.out (by kernel_rfl)) (fun _ _ _ h=>h) (Or.inl ⟨by rfl,?_⟩) ?_ ?_
                    rotate_left
                    ·intro w'
                     go_simp
                     first|with_reducible rfl|(rw [if_neg (by simp only [ByteArray.size_append,ByteArray.size_extract,eq_iff_iff,iff_true,iff_false] at *;omega)];try with_reducible rfl)
                    rotate_left
                    ·simp only [Act.put,List.setIfInBounds_toArray,List.set_cons_zero,List.set_cons_succ,i64_w,i32_w]
                     rfl
                    refine pure_ (i:=19) (N:=some 75) (v:=?_) (a':=?_) #[true,true,true,true,true,true,true,true,true,true,true,true,true,true,true,true,true,true,true,true,false,false,false,false,false,false,false,false,false,false] rfl rfl (any_of HT_.out (by kernel_rfl)) (fun _ _ _ h=>h) (Or.inl ⟨by rfl,?_⟩) ?_ ?_
                    rotate_left
                    ·intro w'
                     go_simp
                     first|with_reducible rfl|(rw [if_neg (by simp only [ByteArray.size_append,ByteArray.size_extract,eq_iff_iff,iff_true,iff_false] at *;omega)];try with_reducible rfl)
                    rotate_left
                    ·simp only [Act.put,List.setIfInBounds_toArray,List.set_cons_zero,List.set_cons_succ,i64_w,i32_w]
                     rfl
                    refine pure_ (i:=20) (N:=some 76) (v:=undef) (a':=?_) #[true,true,true,true,true,true,true,true,true,true,true,true,true,true,true,true,true,true,true,true,true,false,false,false,false,false,false,false,false,false] rfl rfl (any_of HT_.out (by kernel_rfl)) (fun _ _ _ h=>h) (Or.inr ⟨by rfl,rfl⟩) ?_ ?_
                    rotate_left
                    ·simp only [Act.put,List.setIfInBounds_toArray,List.set_cons_zero,List.set_cons_succ,i64_w,i32_w]
                     rfl
                    refine pure_ (i:=21) (N:=some 77) (v:=undef) (a':=?_) #[true,true,true,true,true,true,true,true,true,true,true,true,true,true,true,true,true,true,true,true,true,true,false,false,false,false,false,false,false,false] rfl rfl (any_of HT_.out (by kernel_rfl)) (fun _ _ _ h=>h) (Or.inr ⟨by rfl,rfl⟩) ?_ ?_
                    rotate_left
                    ·simp only [Act.put,List.setIfInBounds_toArray,List.set_cons_zero,List.set_cons_succ,i64_w,i32_w]
                     rfl
                    refine pure_ (i:=22) (N:=some 78) (v:=undef) (a':=?_) #[true,true,true,true,true,true,true,true,true,true,true,true,true,true,true,true,true,true,true,true,true,true,true,false,false,false,false,false,false,false] rfl rfl (any_of HT_.out (by kernel_rfl)) (fun _ _ _ h=>h) (Or.inr ⟨by rfl,rfl⟩) ?_ ?_
                    rotate_left
                    ·simp only [Act.put,List.setIfInBounds_toArray,List.set_cons_zero,List.set_cons_succ,i64_w,i32_w]
                     rfl
                    refine pure_ (i:=23) (N:=some 79) (v:=undef) (a':=?_) #[true,true,true,true,true,true,true,true,true,true,true,true,true,true,true,true,true,true,true,true,true,true,true,true,false,false,false,false,false,false] rfl rfl (any_of HT_.out (by kernel_rfl)) (fun _ _ _ h=>h) (Or.inr ⟨by rfl,rfl⟩) ?_ ?_
                    rotate_left
                    ·simp only [Act.put,List.setIfInBounds_toArray,List.set_cons_zero,List.set_cons_succ,i64_w,i32_w]
                     rfl
                    refine pure_ (i:=24) (N:=some 80) (v:=undef) (a':=?_) #[true,true,true,true,true,true,true,true,true,true,true,true,true,true,true,true,true,true,true,true,true,true,true,true,true,false,false,false,false,false] rfl rfl (any_of HT_.out (by kernel_rfl)) (fun _ _ _ h=>h) (Or.inr ⟨by rfl,rfl⟩) ?_ ?_
                    rotate_left
                    ·simp only [Act.put,List.setIfInBounds_toArray,List.set_cons_zero,List.set_cons_succ,i64_w,i32_w]
                     rfl
                    refine pure_ (i:=25) (N:=some 81) (v:=undef) (a':=?_) #[true,true,true,true,true,true,true,true,true,true,true,true,true,true,true,true,true,true,true,true,true,true,true,true,true,true,false,false,false,false] rfl rfl (any_of HT_.out (by kernel_rfl)) (fun _ _ _ h=>h) (Or.inr ⟨by rfl,rfl⟩) ?_ ?_
                    rotate_left
                    ·simp only [Act.put,List.setIfInBounds_toArray,List.set_cons_zero,List.set_cons_succ,i64_w,i32_w]
                     rfl
                    refine pure_ (i:=26) (N:=some 82) (v:=undef) (a':=?_) #[true,true,true,true,true,true,true,true,true,true,true,true,true,true,true,true,true,true,true,true,true,true,true,true,true,true,true,false,false,false] rfl rfl (any_of HT_.out (by kernel_rfl)) (fun _ _ _ h=>h) (Or.inr ⟨by rfl,rfl⟩) ?_ ?_
                    rotate_left
                    ·simp only [Act.put,List.setIfInBounds_toArray,List.set_cons_zero,List.set_cons_succ,i64_w,i32_w]
                     rfl
                    refine pure_ (i:=27) (N:=some 83) (v:=undef) (a':=?_) #[true,true,true,true,true,true,true,true,true,true,true,true,true,true,true,true,true,true,true,true,true,true,true,true,true,true,true,true,false,false] rfl rfl (any_of HT_.out (by kernel_rfl)) (fun _ _ _ h=>h) (Or.inr ⟨by rfl,rfl⟩) ?_ ?_
                    rotate_left
                    ·simp only [Act.put,List.setIfInBounds_toArray,List.set_cons_zero,List.set_cons_succ,i64_w,i32_w]
                     rfl
                    refine pure_ (i:=28) (N:=some 84) (v:=undef) (a':=?_) #[true,true,true,true,true,true,true,true,true,true,true,true,true,true,true,true,true,true,true,true,true,true,true,true,true,true,true,true,true,false] rfl rfl (any_of HT_.out (by kernel_rfl)) (fun _ _ _ h=>h) (Or.inr ⟨by rfl,rfl⟩) ?_ ?_
                    rotate_left
                    ·simp only [Act.put,List.setIfInBounds_toArray,List.set_cons_zero,List.set_cons_succ,i64_w,i32_w]
                     rfl
                    refine pure_ (i:=29) (N:=some 85) (v:=?_) (a':=?_) #[true,true,true,true,true,true,true,true,true,true,true,true,true,true,true,true,true,true,true,true,true,true,true,true,true,true,true,true,true,true] rfl rfl (any_of HT_.out (by kernel_rfl)) (fun _ _ _ h=>h) (Or.inl ⟨by rfl,?_⟩) ?_ ?_
                    rotate_left
                    ·intro w'
                     go_simp
                     first|with_reducible rfl|(rw [if_neg (by simp only [ByteArray.size_append,ByteArray.size_extract,eq_iff_iff,iff_true,iff_false] at *;omega)];try with_reducible rfl)
                    rotate_left
                    ·simp only [Act.put,List.setIfInBounds_toArray,List.set_cons_zero,List.set_cons_succ,i64_w,i32_w]
                     rfl
                    refine done_ (done_of HT_.out (by kernel_rfl)) ?_
                    try go_wp2
                    go_roundg k3
                    case measure=>have:=HK1.out;have:=HJ16.out;have:=HK3.out;omega
                    case rel=>exact ⟨(x12_3),(wrap64 (x13_3 + 1)),(by first|rfl|(simp;done)|(simp [*];done)),H',⟨by have:=HK1.out;have:=HJ16.out;have:=HK3.out;omega⟩,⟨by (try simp only [hl10_16]);(with_reducible repeat (first|apply Kd.R_alloc|apply Kd.R_drewN|apply Kd.R_drew));exact HO_9.out⟩,⟨by (try simp only [hl10_16]);(with_reducible repeat (first|apply Kd.R_alloc|apply Kd.R_drewN|apply Kd.R_drew));exact HO_10.out⟩,⟨by (try simp only [hl10_16]);(with_reducible repeat (first|apply Kd.R_alloc|apply Kd.R_drewN|apply Kd.R_drew));exact HO_12.out⟩,⟨by (try simp only [hl10_16]);(with_reducible repeat (first|refine blk_drewN ?_ _|refine blk_drew ?_|refine blk_alloc ?_ _));exact BK154.out⟩,⟨by repeat (first|(with_reducible first|exact HB.out|apply below_alloc|apply pw_below_drewN|apply below_drew1|refine below_set ?_ GE154.out|refine below_set ?_ GE168.out)|exact HB.out)⟩⟩
                  ·replace c36:=Bool.eq_false_iff.mpr c36
                   subst c36
                   have H1 : (spec_l2ends.l1 k3 l1 a2 x9_16 t159 x11_1 x12_3 (wrap64 (x13_3 + 1)) l0_0 a0_1) = some r:=by rw [if_neg (show ¬ (false = true) by decide)] at H;exact H
                   clear H
                   have H:=H1
                   clear H1
                   have H':=Aside0.mk H
                   clear H
                   have hcz78_0 : wr.cell? ⟨gb154,0,none⟩ = some (.slice A0_0 l0_0.length c0_0):=(blk_cell BK154.out 0).trans rfl
                   have hcz78_1 : wr.cell? ⟨gb154,1,none⟩ = some (.int .i64 a0_1):=(blk_cell BK154.out 1).trans rfl
                   have hfz78_0:=blk_frozen BK154.out 0
                   have hfz78_1:=blk_frozen BK154.out 1
                   have p167 : 0 ≤ (x13_3 : Int):=of_decide_eq_true (by first|(with_reducible assumption)|assumption)
                   have q167 : x13_3 < (l0_0.length : Int):=of_decide_eq_true (by first|(with_reducible assumption)|assumption)
                   obtain ⟨ad167,e167,hx167_0,hx167_1,hx167_2⟩:=at_T85 HR0_0.out x13_3 p167 q167
                   cases e167
                   replace hx167_0:=(HB.out.cell (World.block_lt_of_cell? w _ hx167_0)).trans hx167_0
                   replace hx167_1:=(HB.out.cell (World.block_lt_of_cell? w _ hx167_1)).trans hx167_1
                   replace hx167_2:=(HB.out.cell (World.block_lt_of_cell? w _ hx167_2)).trans hx167_2
                   replace p167:=eq_true p167
                   replace q167:=eq_true q167
                   try go_wp2_with (first|((with_reducible refine gate_dst (N:=14) rfl ?_);refine box_event ?hg (N:=14) ?hd (cs:=#[.int .i64 0,.int .i64 0,.int .i64 0]) (t:=85) ?hr ?_;(case hd=>rfl);(case hg=>rfl);(case hr=>first|(go_simp;done)|(go_simp;rfl));intro gb168 hg w79 hbox hb;have n0_:=Aside0.mk (Kd.R_below (by (with_reducible repeat (first|apply Kd.R_alloc|apply Kd.R_drewN|apply Kd.R_drew));exact HO_9.out) hb);have n1_:=Aside0.mk (Kd.R_below (by (with_reducible repeat (first|apply Kd.R_alloc|apply Kd.R_drewN|apply Kd.R_drew));exact HO_10.out) hb);have n2_:=Aside0.mk (Kd.R_below (by (with_reducible repeat (first|apply Kd.R_alloc|apply Kd.R_drewN|apply Kd.R_drew));exact HO_12.out) hb);have n3_:=Aside0.mk (blk_below (g:=gb154) (o:=.cells #[.slice (some ad167) l0_0.length c0_0,.int .i64 a0_1] 59 (0,0)) (by (with_reducible repeat (first|refine blk_drewN ?_ _|refine blk_drew ?_|refine blk_alloc ?_ _));exact BK154.out) hb);have n4_:=Aside0.mk (below_step (by repeat (first|(with_reducible first|exact HB.out|apply below_alloc|apply pw_below_drewN|apply below_drew1|refine below_set ?_ GE154.out)|exact HB.out)) hb);have n5_:=Aside0.mk (hbox);have n6_:=Aside0.mk ((by rw [hg];exact (below_size (by repeat (first|(with_reducible first|exact HB.out|apply below_alloc|apply pw_below_drewN|apply below_drew1|refine below_set ?_ GE154.out)|exact HB.out))) : w.heap.size ≤ gb168));have n7_:=Aside0.mk ((by rw [hg];exact (below_size (by repeat (first|(with_reducible first|exact HB.out|apply below_alloc|apply pw_below_drewN|apply below_drew1|refine below_set ?_ GE154.out)|exact HB.out))) : w.heap.size ≤ gb168));have n8_:=Aside0.mk ((by rw [hg];exact Nat.ne_of_lt (blk_lt (g:=gb154) (o:=.cells #[.slice (some ad167) l0_0.length c0_0,.int .i64 a0_1] 59 (0,0)) (by (with_reducible repeat (first|refine blk_drewN ?_ _|refine blk_drew ?_|refine blk_alloc ?_ _));exact BK154.out)) : gb154 ≠ gb168));have n9_:=Aside0.mk ((by rw [hg];exact Nat.ne_of_gt (blk_lt (g:=gb154) (o:=.cells #[.slice (some ad167) l0_0.length c0_0,.int .i64 a0_1] 59 (0,0)) (by (with_reducible repeat (first|refine blk_drewN ?_ _|refine blk_drew ?_|refine blk_alloc ?_ _));exact BK154.out)) : gb168 ≠ gb154));clear HO_9;clear HO_10;clear HO_12;clear BK154;clear HB;have HO_9:=n0_;have HO_10:=n1_;have HO_12:=n2_;have BK154:=n3_;have HB:=n4_;have BK168:=n5_;have GW168:=n6_;have GE168:=n7_;have NB154_168:=n8_;have NB168_154:=n9_;clear n0_ n1_ n2_ n3_ n4_ n5_ n6_ n7_ n8_ n9_;clear hb hbox hg;have hnb80:=NB168_154.out;have hnc80:=NB154_168.out;have hcz81_0 : w79.cell? ⟨gb168,0,none⟩ = some (.int .i64 0):=(blk_cell BK168.out 0).trans rfl;have hcz81_1 : w79.cell? ⟨gb168,1,none⟩ = some (.int .i64 0):=(blk_cell BK168.out 1).trans rfl;have hcz81_2 : w79.cell? ⟨gb168,2,none⟩ = some (.int .i64 0):=(blk_cell BK168.out 2).trans rfl;have hfz81_0:=blk_frozen BK168.out 0;have hfz81_1:=blk_frozen BK168.out 1;have hfz81_2:=blk_frozen BK168.out 2))
                   have n0_ : Aside0 (Kd.R (Kd.int .i64) 3 (((w79.setCell ⟨gb168,0,none⟩ (.int .i64 ((rd_T85 l0_0 x13_3).f0))).setCell ⟨gb168,1,none⟩ (.int .i64 ((rd_T85 l0_0 x13_3).f1))).setCell ⟨gb168,2,none⟩ (.int .i64 ((rd_T85 l0_0 x13_3).f2))) w.heap.size (fun _=>True) u9 x9_16):=⟨by (with_reducible repeat (first|apply Kd.R_alloc|apply Kd.R_drewN|apply Kd.R_drew));exact Kd.R_mono (Kd.R_far (p:=⟨gb168,2,none⟩) (Kd.R_far (p:=⟨gb168,1,none⟩) (Kd.R_far (p:=⟨gb168,0,none⟩) (Kd.R_types HO_9.out BK168.out (by decide)) (fun _ hk=>hk.2) (.int .i64 ((rd_T85 l0_0 x13_3).f0))) (fun _ hk=>hk.2) (.int .i64 ((rd_T85 l0_0 x13_3).f1))) (fun _ hk=>hk.2) (.int .i64 ((rd_T85 l0_0 x13_3).f2))) (fun _ hk=>trivial)⟩
                   have n1_ : Aside0 (Kd.R Kd.bool 4 (((w79.setCell ⟨gb168,0,none⟩ (.int .i64 ((rd_T85 l0_0 x13_3).f0))).setCell ⟨gb168,1,none⟩ (.int .i64 ((rd_T85 l0_0 x13_3).f1))).setCell ⟨gb168,2,none⟩ (.int .i64 ((rd_T85 l0_0 x13_3).f2))) w.heap.size (fun k_=>some k_ ≠ (v165 : Value).ownBlock) (.slice (some ad160) t159.length co19) t159):=⟨by (with_reducible repeat (first|apply Kd.R_alloc|apply Kd.R_drewN|apply Kd.R_drew));exact Kd.R_mono (Kd.R_far (p:=⟨gb168,2,none⟩) (Kd.R_far (p:=⟨gb168,1,none⟩) (Kd.R_far (p:=⟨gb168,0,none⟩) (Kd.R_types HO_10.out BK168.out (by decide)) (fun _ hk=>hk.2) (.int .i64 ((rd_T85 l0_0 x13_3).f0))) (fun _ hk=>hk.2) (.int .i64 ((rd_T85 l0_0 x13_3).f1))) (fun _ hk=>hk.2) (.int .i64 ((rd_T85 l0_0 x13_3).f2))) (fun _ hk=>hk.1)⟩
                   have n2_ : Aside0 (Kd.R Kd.bool 4 (((w79.setCell ⟨gb168,0,none⟩ (.int .i64 ((rd_T85 l0_0 x13_3).f0))).setCell ⟨gb168,1,none⟩ (.int .i64 ((rd_T85 l0_0 x13_3).f1))).setCell ⟨gb168,2,none⟩ (.int .i64 ((rd_T85 l0_0 x13_3).f2))) w.heap.size (fun k_=>some k_ ≠ (.slice (some ad160) t159.length co19 : Value).ownBlock) v165 x12_3):=⟨by (with_reducible repeat (first|apply Kd.R_alloc|apply Kd.R_drewN|apply Kd.R_drew));exact Kd.R_mono (Kd.R_far (p:=⟨gb168,2,none⟩) (Kd.R_far (p:=⟨gb168,1,none⟩) (Kd.R_far (p:=⟨gb168,0,none⟩) (Kd.R_types HO_12.out BK168.out (by decide)) (fun _ hk=>hk.2) (.int .i64 ((rd_T85 l0_0 x13_3).f0))) (fun _ hk=>hk.2) (.int .i64 ((rd_T85 l0_0 x13_3).f1))) (fun _ hk=>hk.2) (.int .i64 ((rd_T85 l0_0 x13_3).f2))) (fun _ hk=>hk.1)⟩
                   have n3_ : Aside0 ((((w79.setCell ⟨gb168,0,none⟩ (.int .i64 ((rd_T85 l0_0 x13_3).f0))).setCell ⟨gb168,1,none⟩ (.int .i64 ((rd_T85 l0_0 x13_3).f1))).setCell ⟨gb168,2,none⟩ (.int .i64 ((rd_T85 l0_0 x13_3).f2))).heap[gb154]? = some (.cells #[.slice (some ad167) l0_0.length c0_0,.int .i64 a0_1] 59 (0,0))):=⟨by (with_reducible repeat (first|refine blk_drewN ?_ _|refine blk_drew ?_|refine blk_alloc ?_ _));refine blk_far ?_ NB154_168.out _;(with_reducible repeat (first|refine blk_drewN ?_ _|refine blk_drew ?_|refine blk_alloc ?_ _));refine blk_far ?_ NB154_168.out _;(with_reducible repeat (first|refine blk_drewN ?_ _|refine blk_drew ?_|refine blk_alloc ?_ _));refine blk_far ?_ NB154_168.out _;(with_reducible repeat (first|refine blk_drewN ?_ _|refine blk_drew ?_|refine blk_alloc ?_ _));exact BK154.out⟩
                   have n4_ : Aside0 ((((w79.setCell ⟨gb168,0,none⟩ (.int .i64 ((rd_T85 l0_0 x13_3).f0))).setCell ⟨gb168,1,none⟩ (.int .i64 ((rd_T85 l0_0 x13_3).f1))).setCell ⟨gb168,2,none⟩ (.int .i64 ((rd_T85 l0_0 x13_3).f2))).heap[gb168]? = some (.cells #[.int .i64 ((rd_T85 l0_0 x13_3).f0),.int .i64 ((rd_T85 l0_0 x13_3).f1),.int .i64 ((rd_T85 l0_0 x13_3).f2)] 85 (0,0))):=⟨by (with_reducible repeat (first|refine blk_drewN ?_ _|refine blk_drew ?_|refine blk_alloc ?_ _));refine blk_put (cs:=#[.int .i64 ((rd_T85 l0_0 x13_3).f0),.int .i64 ((rd_T85 l0_0 x13_3).f1),.int .i64 0]) ?_ 2 _ rfl;(with_reducible repeat (first|refine blk_drewN ?_ _|refine blk_drew ?_|refine blk_alloc ?_ _));refine blk_put (cs:=#[.int .i64 ((rd_T85 l0_0 x13_3).f0),.int .i64 0,.int .i64 0]) ?_ 1 _ rfl;(with_reducible repeat (first|refine blk_drewN ?_ _|refine blk_drew ?_|refine blk_alloc ?_ _));refine blk_put (cs:=#[.int .i64 0,.int .i64 0,.int .i64 0]) ?_ 0 _ rfl;(with_reducible repeat (first|refine blk_drewN ?_ _|refine blk_drew ?_|refine blk_alloc ?_ _));exact BK168.out⟩
                   have n5_ : Aside0 (Below w.heap.size w (((w79.setCell ⟨gb168,0,none⟩ (.int .i64 ((rd_T85 l0_0 x13_3).f0))).setCell ⟨gb168,1,none⟩ (.int .i64 ((rd_T85 l0_0 x13_3).f1))).setCell ⟨gb168,2,none⟩ (.int .i64 ((rd_T85 l0_0 x13_3).f2)))):=⟨by repeat (first|(with_reducible first|exact HB.out|apply below_alloc|apply pw_below_drewN|apply below_drew1|refine below_set ?_ GE154.out|refine below_set ?_ GE168.out)|exact HB.out)⟩
                   (try clear HO_9)
                   (try clear HO_10)
                   (try clear HO_12)
                   (try clear BK154)
                   (try clear BK168)
                   (try clear HB)
                   generalize (((w79.setCell ⟨gb168,0,none⟩ (.int .i64 ((rd_T85 l0_0 x13_3).f0))).setCell ⟨gb168,1,none⟩ (.int .i64 ((rd_T85 l0_0 x13_3).f1))).setCell ⟨gb168,2,none⟩ (.int .i64 ((rd_T85 l0_0 x13_3).f2))) = w82 at n0_ n1_ n2_ n3_ n4_ n5_ ⊢
                   have HO_9:=n0_
                   have HO_10:=n1_
                   have HO_12:=n2_
                   have BK154:=n3_
                   have BK168:=n4_
                   have HB:=n5_
                   clear n0_ n1_ n2_ n3_ n4_ n5_
                   have n0_:=Aside0.mk (Kd.R_drew HO_9.out)
                   have n1_:=Aside0.mk (Kd.R_drew HO_10.out)
                   have n2_:=Aside0.mk (Kd.R_drew HO_12.out)
                   have n3_:=Aside0.mk (blk_drew BK154.out)
                   have n4_:=Aside0.mk (blk_drew BK168.out)
                   have n5_:=Aside0.mk (below_drew1 HB.out)
                   clear HO_9
                   clear HO_10
                   clear HO_12
                   clear BK154
                   clear BK168
                   clear HB
                   have HO_9:=n0_
                   have HO_10:=n1_
                   have HO_12:=n2_
                   have BK154:=n3_
                   have BK168:=n4_
                   have HB:=n5_
                   clear n0_ n1_ n2_ n3_ n4_ n5_
                   have p169 : 0 ≤ (((rd_T85 l0_0 x13_3).f0) : Int):=of_decide_eq_true (by first|(with_reducible assumption)|assumption)
                   have q169 : ((rd_T85 l0_0 x13_3).f0) < (t159.length : Int):=of_decide_eq_true (by first|(with_reducible assumption)|assumption)
                   obtain ⟨ad169,e169,hx169_0⟩:=Kd.at_bool (Kd.R_reads' HO_10.out).2.2 ((rd_T85 l0_0 x13_3).f0) p169 q169
                   (try rw [← Nbq35.out] at hx169_0)
                   obtain rfl : ad160 = ad169:=(by injection e169)
                   replace p169:=eq_true p169
                   replace q169:=eq_true q169
                   refine start_ (n:=30) (S:=fun w'=>w'.cell? ⟨gb168,0,none⟩ = some (.int .i64 ((rd_T85 l0_0 x13_3).f0)) ∧ w'.cell? ⟨gb168,1,none⟩ = some (.int .i64 ((rd_T85 l0_0 x13_3).f1)) ∧ w'.cell? ⟨gb168,2,none⟩ = some (.int .i64 ((rd_T85 l0_0 x13_3).f2)) ∧ w'.cell? (ad160.add (((rd_T85 l0_0 x13_3).f0)).toNat) = some (.bool false)) (ds:=[]) #[false,false,false,false,false,false,false,false,false,false,false,false,false,false,false,false,false,false,false,false,false,false,false,false,false,false,false,false,false,false] (by kernel_rfl) rfl rfl ⟨(blk_cell BK168.out 0).trans rfl,(blk_cell BK168.out 1).trans rfl,(blk_cell BK168.out 2).trans rfl,hx169_0⟩ (fun hHeld=>?_);refine with_tabW spec_l2ends.tab16 spec_l2ends.bits16 (fun HT_ HW_=>?_)
                   generalize w82.drew = w83 at HO_9 HO_10 HO_12 BK154 BK168 HB hx169_0 hHeld ⊢
                   refine pure_ (i:=0) (N:=some 56) (v:=?_) (a':=?_) #[true,false,false,false,false,false,false,false,false,false,false,false,false,false,false,false,false,false,false,false,false,false,false,false,false,false,false,false,false,false] rfl rfl (any_of HT_.out (by kernel_rfl)) (fun _ _ _ h=>h) (Or.inl ⟨by rfl,?_⟩) ?_ ?_
                   rotate_left
                   ·intro w'
                    go_simp
                    first|with_reducible rfl|(rw [if_neg (by simp only [ByteArray.size_append,ByteArray.size_extract,eq_iff_iff,iff_true,iff_false] at *;omega)];try with_reducible rfl)
                   rotate_left
                   ·simp only [Act.put,List.setIfInBounds_toArray,List.set_cons_zero,List.set_cons_succ,i64_w,i32_w]
                    rfl
                   refine pure_ (i:=1) (N:=some 57) (v:=?_) (a':=?_) #[true,true,false,false,false,false,false,false,false,false,false,false,false,false,false,false,false,false,false,false,false,false,false,false,false,false,false,false,false,false] rfl rfl (any_of HT_.out (by kernel_rfl)) (fun _ _ _ h=>h) (Or.inl ⟨by rfl,?_⟩) ?_ ?_
                   rotate_left
                   ·intro w'
                    go_simp
                    first|with_reducible rfl|(rw [if_neg (by simp only [ByteArray.size_append,ByteArray.size_extract,eq_iff_iff,iff_true,iff_false] at *;omega)];try with_reducible rfl)
                   rotate_left
                   ·simp only [Act.put,List.setIfInBounds_toArray,List.set_cons_zero,List.set_cons_succ,i64_w,i32_w]
                    rfl
                   refine take_ (i:=2) (N:=some 58) (v:=?_) (a':=?_) #[true,true,true,false,false,false,false,false,false,false,false,false,false,false,false,false,false,false,false,false,false,false,false,false,false,false,false,false,false,false] rfl rfl (take_ofW HT_.out HW_.out (by kernel_rfl)) (fun _ _ _ h=>h) (Or.inl ⟨by rfl,?_⟩) hHeld ?_ ?_
                   rotate_left
                   ·rintro w' ⟨s0,s1,s2,s3⟩
                    go_simp
                    first|with_reducible rfl|(rw [if_neg (by simp only [ByteArray.size_append,ByteArray.size_extract,eq_iff_iff,iff_true,iff_false] at *;omega)];try with_reducible rfl)
                   rotate_left
                   ·simp only [Act.put,List.setIfInBounds_toArray,List.set_cons_zero,List.set_cons_succ,i64_w,i32_w]
                    rfl
                   refine pure_ (i:=3) (N:=some 59) (v:=?_) (a':=?_) #[true,true,true,true,false,false,false,false,false,false,false,false,false,false,false,false,false,false,false,false,false,false,false,false,false,false,false,false,false,false] rfl rfl (any_of HT_.out (by kernel_rfl)) (fun _ _ _ h=>h) (Or.inl ⟨by rfl,?_⟩) ?_ ?_
                   rotate_left
                   ·intro w'
                    go_simp
                    first|with_reducible rfl|(rw [if_neg (by simp only [ByteArray.size_append,ByteArray.size_extract,eq_iff_iff,iff_true,iff_false] at *;omega)];try with_reducible rfl)
                   rotate_left
                   ·simp only [Act.put,List.setIfInBounds_toArray,List.set_cons_zero,List.set_cons_succ,i64_w,i32_w]
                    rfl
                   refine take_ (i:=4) (N:=some 60) (v:=?_) (a':=?_) #[true,true,true,true,true,false,false,false,false,false,false,false,false,false,false,false,false,false,false,false,false,false,false,false,false,false,false,false,false,false] rfl rfl (take_ofW HT_.out HW_.out (by kernel_rfl)) (fun _ _ _ h=>h) (Or.inl ⟨by rfl,?_⟩) hHeld ?_ ?_
                   rotate_left
                   ·rintro w' ⟨s0,s1,s2,s3⟩
                    go_simp
                    first|with_reducible rfl|(rw [if_neg (by simp only [ByteArray.size_append,ByteArray.size_extract,eq_iff_iff,iff_true,iff_false] at *;omega)];try with_reducible rfl)
                   rotate_left
                   ·simp only [Act.put,List.setIfInBounds_toArray,List.set_cons_zero,List.set_cons_succ,i64_w,i32_w]
                    rfl
                   refine pure_ (i:=5) (N:=some 61) (v:=?_) (a':=?_) #[true,true,true,true,true,true,false,false,false,false,false,false,false,false,false,false,false,false,false,false,false,false,false,false,false,false,false,false,false,false] rfl rfl (any_of HT_.out (by kernel_rfl)) (fun _ _ _ h=>h) (Or.inl ⟨by rfl,?_⟩) ?_ ?_
                   rotate_left
                   ·intro w'
                    go_simp
                    first|with_reducible rfl|(rw [if_neg (by simp only [ByteArray.size_append,ByteArray.size_extract,eq_iff_iff,iff_true,iff_false] at *;omega)];try with_reducible rfl)
                   rotate_left
                   ·simp only [Act.put,List.setIfInBounds_toArray,List.set_cons_zero,List.set_cons_succ,i64_w,i32_w]
                    rfl
                   refine pure_ (i:=6) (N:=some 62) (v:=undef) (a':=?_) #[true,true,true,true,true,true,true,false,false,false,false,false,false,false,false,false,false,false,false,false,false,false,false,false,false,false,false,false,false,false] rfl rfl (any_of HT_.out (by kernel_rfl)) (fun _ _ _ h=>h) (Or.inr ⟨by rfl,rfl⟩) ?_ ?_
                   rotate_left
                   ·simp only [Act.put,List.setIfInBounds_toArray,List.set_cons_zero,List.set_cons_succ,i64_w,i32_w]
                    rfl
                   refine pure_ (i:=7) (N:=some 63) (v:=undef) (a':=?_) #[true,true,true,true,true,true,true,true,false,false,false,false,false,false,false,false,false,false,false,false,false,false,false,false,false,false,false,false,false,false] rfl rfl (any_of HT_.out (by kernel_rfl)) (fun _ _ _ h=>h) (Or.inr ⟨by rfl,rfl⟩) ?_ ?_
                   rotate_left
                   ·simp only [Act.put,List.setIfInBounds_toArray,List.set_cons_zero,List.set_cons_succ,i64_w,i32_w]
                    rfl
                   refine pure_ (i:=8) (N:=some 64) (v:=undef) (a':=?_) #[true,true,true,true,true,true,true,true,true,false,false,false,false,false,false,false,false,false,false,false,false,false,false,false,false,false,false,false,false,false] rfl rfl (any_of HT_.out (by kernel_rfl)) (fun _ _ _ h=>h) (Or.inr ⟨by rfl,rfl⟩) ?_ ?_
                   rotate_left
                   ·simp only [Act.put,List.setIfInBounds_toArray,List.set_cons_zero,List.set_cons_succ,i64_w,i32_w]
                    rfl
                   refine pure_ (i:=9) (N:=some 65) (v:=?_) (a':=?_) #[true,true,true,true,true,true,true,true,true,true,false,false,false,false,false,false,false,false,false,false,false,false,false,false,false,false,false,false,false,false] rfl rfl (any_of HT_.out (by kernel_rfl)) (fun _ _ _ h=>h) (Or.inl ⟨by rfl,?_⟩) ?_ ?_
                   rotate_left
                   ·intro w'
                    go_simp
                    first|with_reducible rfl|(rw [if_neg (by simp only [ByteArray.size_append,ByteArray.size_extract,eq_iff_iff,iff_true,iff_false] at *;omega)];try with_reducible rfl)
                   rotate_left
                   ·simp only [Act.put,List.setIfInBounds_toArray,List.set_cons_zero,List.set_cons_succ,i64_w,i32_w]
                    rfl
                   refine pure_ (i:=10) (N:=some 66) (v:=?_) (a':=?_) #[true,true,true,true,true,true,true,true,true,true,true,false,false,false,false,false,false,false,false,false,false,false,false,false,false,false,false,false,false,false] rfl rfl (any_of HT_.out (by kernel_rfl)) (fun _ _ _ h=>h) (Or.inl ⟨by rfl,?_⟩) ?_ ?_
                   rotate_left
                   ·intro w'
                    go_simp
                    first|with_reducible rfl|(rw [if_neg (by simp only [ByteArray.size_append,ByteArray.size_extract,eq_iff_iff,iff_true,iff_false] at *;omega)];try with_reducible rfl)
                   rotate_left
                   ·simp only [Act.put,List.setIfInBounds_toArray,List.set_cons_zero,List.set_cons_succ,i64_w,i32_w]
                    rfl
                   refine pure_ (i:=11) (N:=some 67) (v:=undef) (a':=?_) #[true,true,true,true,true,true,true,true,true,true,true,true,false,false,false,false,false,false,false,false,false,false,false,false,false,false,false,false,false,false] rfl rfl (any_of HT_.out (by kernel_rfl)) (fun _ _ _ h=>h) (Or.inr ⟨by rfl,rfl⟩) ?_ ?_
                   rotate_left
                   ·simp only [Act.put,List.setIfInBounds_toArray,List.set_cons_zero,List.set_cons_succ,i64_w,i32_w]
                    rfl
                   refine pure_ (i:=12) (N:=some 68) (v:=undef) (a':=?_) #[true,true,true,true,true,true,true,true,true,true,true,true,true,false,false,false,false,false,false,false,false,false,false,false,false,false,false,false,false,false] rfl rfl (any_of HT_.out (by kernel_rfl)) (fun _ _ _ h=>h) (Or.inr ⟨by rfl,rfl⟩) ?_ ?_
                   rotate_left
                   ·simp only [Act.put,List.setIfInBounds_toArray,List.set_cons_zero,List.set_cons_succ,i64_w,i32_w]
                    rfl
                   refine pure_ (i:=13) (N:=some 69) (v:=undef) (a':=?_) #[true,true,true,true,true,true,true,true,true,true,true,true,true,true,false,false,false,false,false,false,false,false,false,false,false,false,false,false,false,false] rfl rfl (any_of HT_.out (by kernel_rfl)) (fun _ _ _ h=>h) (Or.inr ⟨by rfl,rfl⟩) ?_ ?_
                   rotate_left
                   ·simp only [Act.put,List.setIfInBounds_toArray,List.set_cons_zero,List.set_cons_succ,i64_w,i32_w]
                    rfl
                   refine pure_ (i:=14) (N:=some 70) (v:=undef) (a':=?_) #[true,true,true,true,true,true,true,true,true,true,true,true,true,true,true,false,false,false,false,false,false,false,false,false,false,false,false,false,false,false] rfl rfl (any_of HT_.out (by kernel_rfl)) (fun _ _ _ h=>h) (Or.inr ⟨by rfl,rfl⟩) ?_ ?_
                   rotate_left
                   ·simp only [Act.put,List.setIfInBounds_toArray,List.set_cons_zero,List.set_cons_succ,i64_w,i32_w]
                    rfl
                   refine pure_ (i:=15) (N:=some 71) (v:=undef) (a':=?_) #[true,true,true,true,true,true,true,true,true,true,true,true,true,true,true,true,false,false,false,false,false,false,false,false,false,false,false,false,false,false] rfl rfl (any_of HT_.out (by kernel_rfl)) (fun _ _ _ h=>h) (Or.inr ⟨by rfl,rfl⟩) ?_ ?_
                   rotate_left
                   ·simp only [Act.put,List.setIfInBounds_toArray,List.set_cons_zero,List.set_cons_succ,i64_w,i32_w]
                    rfl
                   refine pure_ (i:=16) (N:=some 72) (v:=undef) (a':=?_) #[true,true,true,true,true,true,true,true,true,true,true,true,true,true,true,true,true,false,false,false,false,false,false,false,false,false,false,false,false,false] rfl rfl (any_of HT_.out (by kernel_rfl)) (fun _ _ _ h=>h) (Or.inr ⟨by rfl,rfl⟩) ?_ ?_
                   rotate_left
                   ·simp only [Act.put,List.setIfInBounds_toArray,List.set_cons_zero,List.set_cons_succ,i64_w,i32_w]
                    rfl
                   refine pure_ (i:=17) (N:=some 73) (v:=undef) (a':=?_) #[true,true,true,true,true,true,true,true,true,true,true,true,true,true,true,true,true,true,false,false,false,false,false,false,false,false,false,false,false,false] rfl rfl (any_of HT_.out (by kernel_rfl)) (fun _ _ _ h=>h) (Or.inr ⟨by rfl,rfl⟩) ?_ ?_
                   rotate_left
                   ·simp only [Act.put,List.setIfInBounds_toArray,List.set_cons_zero,List.set_cons_succ,i64_w,i32_w]
                    rfl
                   refine pure_ (i:=18) (N:=some 74) (v:=?_) (a':=?_) #[true,true,true,true,true,true,true,true,true,true,true,true,true,true,true,true,true,true,true,false,false,false,false,false,false,false,false,false,false,false] rfl rfl (any_of HT_.out (by kernel_rfl)) (fun _ _ _ h=>h) (Or.inl ⟨by rfl,?_⟩) ?_ ?_
                   rotate_left
                   ·intro w'
                    go_simp
                    first|with_reducible rfl|(rw [if_neg (by simp only [ByteArray.size_append,ByteArray.size_extract,eq_iff_iff,iff_true,iff_false] at *;omega)];try with_reducible rfl)
                   rotate_left
                   ·simp only [Act.put,List.setIfInBounds_toArray,List.set_cons_zero,List.set_cons_succ,i64_w,i32_w]
                    rfl
                   refine pure_ (i:=19) (N:=some 75) (v:=?_) (a':=?_) #[true,true,true,true,true,true,true,true,true,true,true,true,true,true,true,true,true,true,true,true,false,false,false,false,false,false,false,false,false,false] rfl rfl (any_of HT_.out (by kernel_rfl)) (fun _ _ _ h=>h) (Or.inl ⟨by rfl,?_⟩) ?_ ?_
                   rotate_left
                   ·intro w'
                    go_simp
                    first|with_reducible rfl|(rw [if_neg (by simp only [ByteArray.size_append,ByteArray.size_extract,eq_iff_iff,iff_true,iff_false] at *;omega)];try with_reducible rfl)
                   rotate_left
                   ·simp only [Act.put,List.setIfInBounds_toArray,List.set_cons_zero,List.set_cons_succ,i64_w,i32_w]
                    rfl
                   refine pure_ (i:=20) (N:=some 76) (v:=undef) (a':=?_) #[true,true,true,true,true,true,true,true,true,true,true,true,true,true,true,true,true,true,true,true,true,false,false,false,false,false,false,false,false,false] rfl rfl (any_of HT_.out (by kernel_rfl)) (fun _ _ _ h=>h) (Or.inr ⟨by rfl,rfl⟩) ?_ ?_
                   rotate_left
                   ·simp only [Act.put,List.setIfInBounds_toArray,List.set_cons_zero,List.set_cons_succ,i64_w,i32_w]
                    rfl
                   refine pure_ (i:=21) (N:=some 77) (v:=undef) (a':=?_) #[true,true,true,true,true,true,true,true,true,true,true,true,true,true,true,true,true,true,true,true,true,true,false,false,false,false,false,false,false,false] rfl rfl (any_of HT_.out (by kernel_rfl)) (fun _ _ _ h=>h) (Or.inr ⟨by rfl,rfl⟩) ?_ ?_
                   rotate_left
                   ·simp only [Act.put,List.setIfInBounds_toArray,List.set_cons_zero,List.set_cons_succ,i64_w,i32_w]
                    rfl
                   refine pure_ (i:=22) (N:=some 78) (v:=undef) (a':=?_) #[true,true,true,true,true,true,true,true,true,true,true,true,true,true,true,true,true,true,true,true,true,true,true,false,false,false,false,false,false,false] rfl rfl (any_of HT_.out (by kernel_rfl)) (fun _ _ _ h=>h) (Or.inr ⟨by rfl,rfl⟩) ?_ ?_
                   rotate_left
                   ·simp only [Act.put,List.setIfInBounds_toArray,List.set_cons_zero,List.set_cons_succ,i64_w,i32_w]
                    rfl
                   refine pure_ (i:=23) (N:=some 79) (v:=undef) (a':=?_) #[true,true,true,true,true,true,true,true,true,true,true,true,true,true,true,true,true,true,true,true,true,true,true,true,false,false,false,false,false,false] rfl rfl (any_of HT_.out (by kernel_rfl)) (fun _ _ _ h=>h) (Or.inr ⟨by rfl,rfl⟩) ?_ ?_
                   rotate_left
                   ·simp only [Act.put,List.setIfInBounds_toArray,List.set_cons_zero,List.set_cons_succ,i64_w,i32_w]
                    rfl
                   refine pure_ (i:=24) (N:=some 80) (v:=undef) (a':=?_) #[true,true,true,true,true,true,true,true,true,true,true,true,true,true,true,true,true,true,true,true,true,true,true,true,true,false,false,false,false,false] rfl rfl (any_of HT_.out (by kernel_rfl)) (fun _ _ _ h=>h) (Or.inr ⟨by rfl,rfl⟩) ?_ ?_
                   rotate_left
                   ·simp only [Act.put,List.setIfInBounds_toArray,List.set_cons_zero,List.set_cons_succ,i64_w,i32_w]
                    rfl
                   refine pure_ (i:=25) (N:=some 81) (v:=undef) (a':=?_) #[true,true,true,true,true,true,true,true,true,true,true,true,true,true,true,true,true,true,true,true,true,true,true,true,true,true,false,false,false,false] rfl rfl (any_of HT_.out (by kernel_rfl)) (fun _ _ _ h=>h) (Or.inr ⟨by rfl,rfl⟩) ?_ ?_
                   rotate_left
                   ·simp only [Act.put,List.setIfInBounds_toArray,List.set_cons_zero,List.set_cons_succ,i64_w,i32_w]
                    rfl
                   refine pure_ (i:=26) (N:=some 82) (v:=undef) (a':=?_) #[true,true,true,true,true,true,true,true,true,true,true,true,true,true,true,true,true,true,true,true,true,true,true,true,true,true,true,false,false,false] rfl rfl (any_of HT_.out (by kernel_rfl)) (fun _ _ _ h=>h) (Or.inr ⟨by rfl,rfl⟩) ?_ ?_
                   rotate_left
                   ·simp only [Act.put,List.setIfInBounds_toArray,List.set_cons_zero,List.set_cons_succ,i64_w,i32_w]
                    rfl
                   refine pure_ (i:=27) (N:=some 83) (v:=undef) (a':=?_) #[true,true,true,true,true,true,true,true,true,true,true,true,true,true,true,true,true,true,true,true,true,true,true,true,true,true,true,true,false,false] rfl rfl (any_of HT_.out (by kernel_rfl)) (fun _ _ _ h=>h) (Or.inr ⟨by rfl,rfl⟩) ?_ ?_
                   rotate_left
                   ·simp only [Act.put,List.setIfInBounds_toArray,List.set_cons_zero,List.set_cons_succ,i64_w,i32_w]
                    rfl
                   refine pure_ (i:=28) (N:=some 84) (v:=undef) (a':=?_) #[true,true,true,true,true,true,true,true,true,true,true,true,true,true,true,true,true,true,true,true,true,true,true,true,true,true,true,true,true,false] rfl rfl (any_of HT_.out (by kernel_rfl)) (fun _ _ _ h=>h) (Or.inr ⟨by rfl,rfl⟩) ?_ ?_
                   rotate_left
                   ·simp only [Act.put,List.setIfInBounds_toArray,List.set_cons_zero,List.set_cons_succ,i64_w,i32_w]
                    rfl
                   refine pure_ (i:=29) (N:=some 85) (v:=?_) (a':=?_) #[true,true,true,true,true,true,true,true,true,true,true,true,true,true,true,true,true,true,true,true,true,true,true,true,true,true,true,true,true,true] rfl rfl (any_of HT_.out (by kernel_rfl)) (fun _ _ _ h=>h) (Or.inl ⟨by rfl,?_⟩) ?_ ?_
                   rotate_left
                   ·intro w'
                    go_simp
                    first|with_reducible rfl|(rw [if_neg (by simp only [ByteArray.size_append,ByteArray.size_extract,eq_iff_iff,iff_true,iff_false] at *;omega)];try with_reducible rfl)
                   rotate_left
                   ·simp only [Act.put,List.setIfInBounds_toArray,List.set_cons_zero,List.set_cons_succ,i64_w,i32_w]
                    rfl
                   refine done_ (done_of HT_.out (by kernel_rfl)) ?_
                   try go_wp2
                   go_roundg k3
                   case measure=>have:=HK1.out;have:=HJ16.out;have:=HK3.out;omega
                   case rel=>exact ⟨(x12_3),(wrap64 (x13_3 + 1)),(by first|rfl|(simp;done)|(simp [*];done)),H',⟨by have:=HK1.out;have:=HJ16.out;have:=HK3.out;omega⟩,⟨by (try simp only [hl10_16]);(with_reducible repeat (first|apply Kd.R_alloc|apply Kd.R_drewN|apply Kd.R_drew));exact HO_9.out⟩,⟨by (try simp only [hl10_16]);(with_reducible repeat (first|apply Kd.R_alloc|apply Kd.R_drewN|apply Kd.R_drew));exact HO_10.out⟩,⟨by (try simp only [hl10_16]);(with_reducible repeat (first|apply Kd.R_alloc|apply Kd.R_drewN|apply Kd.R_drew));exact HO_12.out⟩,⟨by (try simp only [hl10_16]);(with_reducible repeat (first|refine blk_drewN ?_ _|refine blk_drew ?_|refine blk_alloc ?_ _));exact BK154.out⟩,⟨by repeat (first|(with_reducible first|exact HB.out|apply below_alloc|apply pw_below_drewN|apply below_drew1|refine below_set ?_ GE154.out|refine below_set ?_ GE168.out)|exact HB.out)⟩⟩
                 ·rw [if_neg c34] at H
                  exact absurd H (by simp)
                ·rw [if_neg c33] at H
                 exact absurd H (by simp)
               ·rw [if_neg c32] at H
                exact absurd H (by simp)
              ·rw [if_neg c31] at H
               have c31b0 : decide (x13_3 < (l0_0.length : Int)) = false:=decide_eq_false c31
               clear c31
               have H':=Aside0.mk H
               clear H
               have hcz84_0 : wr.cell? ⟨gb154,0,none⟩ = some (.slice A0_0 l0_0.length c0_0):=(blk_cell BK154.out 0).trans rfl
               have hcz84_1 : wr.cell? ⟨gb154,1,none⟩ = some (.int .i64 a0_1):=(blk_cell BK154.out 1).trans rfl
               have hfz84_0:=blk_frozen BK154.out 0
               have hfz84_1:=blk_frozen BK154.out 1
               go_wp2
               (try simp only [← hl10_16])
               go_roundg k3
               case measure=>have:=HK1.out;have:=HJ16.out;have:=HK3.out;omega
               case rel=>exact ⟨(x9_16),(x12_3),(wrap64 (x11_1 + 1)),(by first|rfl|(simp;done)|(simp [*];done)),H',⟨by have:=HK1.out;have:=HJ16.out;have:=HK3.out;omega⟩,⟨by (try simp only [hl10_16]);(with_reducible repeat (first|apply Kd.R_alloc|apply Kd.R_drewN|apply Kd.R_drew));exact HO_9.out⟩,⟨by (try simp only [hl10_16]);(with_reducible repeat (first|apply Kd.R_alloc|apply Kd.R_drewN|apply Kd.R_drew));exact Kd.R_mono HO_12.out (fun _ hk=>trivial)⟩,⟨by (try simp only [hl10_16]);(with_reducible repeat (first|refine blk_drewN ?_ _|refine blk_drew ?_|refine blk_alloc ?_ _));exact BK154.out⟩,⟨by repeat (first|(with_reducible first|exact HB.out|apply below_alloc|apply pw_below_drewN|apply below_drew1|refine below_set ?_ GE154.out)|exact HB.out)⟩⟩
           ·rw [if_neg c27] at H
            exact absurd H (by simp)
          ·rw [if_neg c26] at H
           exact absurd H (by simp)
      ·rw [if_neg c16] at H
       exact absurd H (by simp)
   ·rw [if_neg c7] at H
    exact absurd H (by simp)
  ·rw [if_neg c6] at H
   exact absurd H (by simp)
 ·rw [if_neg c5] at H
  exact absurd H (by simp)
end Go.Proofs.YtlakdfbfkbndiaaDoor.Q
namespace Go.Proofs.YtlakdfbfkbndiaaDoor.Q
open Go.RowKit Go.Proofs.YtlakdfbfkbndiaaDoor.Re Go.Proofs.YtlakdfbfkbndiaaDoorW.PrintWords Go.Proofs.YtlakdfbfkbndiaaDoorW.PrintLast Go.Proofs.YtlakdfbfkbndiaaDoorW.PrintMore
theorem info85' : (Tryd.prog.info? 85).map (fun i => (i.zero, i.size, i.bytes)) = some (some (.agg #[.int .i64 0, .int .i64 0, .int .i64 0]), 3, 24) := by kernel_rfl
def toE (e : Re.Way) : S85 := ⟨e.1, e.2.1, e.2.2⟩
structure Mach (B bm : Nat) (v : Value) (N : Int) (es : List S85) (w : World) : Prop where
  lo : B ≤ bm
  obj : w.heap[bm]? = some (.cells #[v, .int .i64 N] 59 (0, 0))
  row : Kd.R k85 85 w B (fun _ => True) v es
  sz : B ≤ w.heap.size
theorem Mach.move {B bm : Nat} {v : Value} {N : Int} {es : List S85} {w w1 : World} (h : Mach B bm v N es w) (hb : Below w.heap.size w w1) : Mach B bm v N es w1 :=
  ⟨h.lo, (hb.block _ (Array.getElem?_eq_some_iff.mp h.obj).1).trans h.obj, Kd.R_below h.row hb, Nat.le_trans h.sz hb.size⟩
def Else (bm : Nat) (w w1 : World) : Prop := ∀ k o, k ≠ bm → w.heap[k]? = some o → (∀ c, o ≠ .cells c 85 (0, 0)) → w1.heap[k]? = some o
theorem Else.refl (bm : Nat) (w : World) : Else bm w w := fun _ _ _ h _ => h
theorem Else.trans {bm : Nat} {w w1 w2 : World} (h : Else bm w w1) (g : Else bm w1 w2) : Else bm w w2 := fun k o hk ho hn => g k o hk (h k o hk ho hn) hn
theorem Else.below {bm : Nat} {w w1 : World} (h : Below w.heap.size w w1) : Else bm w w1 := fun k o _ ho _ => (h.block k (Array.getElem?_eq_some_iff.mp ho).1).trans ho
theorem way_ne {w : World} {B k : Nat} {v : Value} {es : List S85} {o : Obj} (h : Kd.R k85 85 w B (fun _ => True) v es) (hb : w.heap[k]? = some o) (ho : ∀ c, o ≠ .cells c 85 (0, 0)) : some k ≠ v.ownBlock := fun e => by
  obtain ⟨inner, hw⟩ := Kd.R_own h
  obtain ⟨c, hc⟩ := own_typed hw k e.symm
  rw [hb] at hc
  exact ho c (Option.some.inj hc)
set_option maxRecDepth 100000 in
theorem l2way_calls (B bm : Nat) (v : Value) (N a b c : Int) (es : List S85) (w : World) (hM : Mach B bm v N es w) (hl : es.length ≤ 1000000) :
    Calls Tryd.prog 73 #[.pointer (some ⟨bm, 0, none⟩), .int .i64 a, .int .i64 b, .int .i64 c] w fun e w' => e = .returned (.tuple #[]) ∧ ∃ v', Mach B bm v' N (es ++ [⟨a, b, c⟩]) w' ∧ Below B w w' ∧ Else bm w w' := by
  have HM := Aside0.mk hM
  have hc0 : w.cell? ⟨bm, 0, none⟩ = some v := by simp [World.cell?, hM.obj]
  have hc1 : w.cell? ⟨bm, 1, none⟩ = some (.int .i64 N) := by simp [World.cell?, hM.obj]
  have hz0 : w.frozen? ⟨bm, 0, none⟩ = false := by simp [World.frozen?, hM.obj]
  have HL := Aside0.mk hl
  obtain ⟨A5, c5, hv, _, _⟩ := Kd.R_reads hM.row
  clear hM hl
  go_enter Tryd.func73, Tryd.ntmps73
  clear hv
  go_wp2_with (first | ((with_reducible refine gate_builtin (b := .append) (xs := #[.tmp 12, .tmp 17]) rfl ?_); at_builtin; refine Kd.R_append k85 (w0 := w) B rfl (.tmp 12) (.tmp 17) 57 85 (.agg #[.int .i64 0, .int .i64 0, .int .i64 0]) 24 rfl Tryd.underlying57 info85' rfl (by decide) (by omega) _ es ⟨a, b, c⟩ [.int .i64 a, .int .i64 b, .int .i64 c] (fun _ => True) (fun _ => False) rfl rfl ?aP (fun _ hk => hk.elim) (fun _ _ => trivial) ?aO ?aB ?aS ?aL ?_; (case aP => exact k85_mkM _ _ _ ⟨a, b, c⟩); (case aO => exact HM.out.row); (case aB => exact Below.refl _ _); (case aS => exact HM.out.sz); (case aL => have := HL.out; omega); intro v9 w9 ho hb hg hat; obtain ⟨A9, c9, hv9, _, _⟩ := Kd.R_reads ho; subst hv9; have hob9 := (hg.block bm (Array.getElem?_eq_some_iff.mp HM.out.obj).1 (Kd.R_ne HM.out.row HM.out.obj (by decide))).trans HM.out.obj; have hc9 : w9.cell? ⟨bm, 0, none⟩ = some v := (by simp [World.cell?, hob9]); have hz9 : w9.frozen? ⟨bm, 0, none⟩ = false := (by simp [World.frozen?, hob9]); have HO := Aside0.mk ho; have HB := Aside0.mk hb; have HG := Aside0.mk hg; have HOb := Aside0.mk hob9; clear ho hb hg hat hob9))
  have HM2 : Mach B bm (.slice A9 (es.length + 1) c9) N (es ++ [⟨a, b, c⟩]) (w9.setCell ⟨bm, 0, none⟩ (.slice A9 (es.length + 1) c9)) := {
    lo := HM.out.lo
    obj := by simp [World.setCell, Array.getElem?_modify, HOb.out]
    row := by
      have h := Kd.R_set HO.out HOb.out (by decide) 0 (.slice A9 (es.length + 1) c9)
      rw [List.length_append] at h
      exact h
    sz := by
      have h1 := HB.out.size
      have h2 := HM.out.sz
      simp [World.setCell]
      omega }
  have HB2 : Below B w (w9.setCell ⟨bm, 0, none⟩ (.slice A9 (es.length + 1) c9)) := HB.out.setCell HM.out.lo _
  have HE2 : Else bm w (w9.setCell ⟨bm, 0, none⟩ (.slice A9 (es.length + 1) c9)) := fun k o hk ho hn => by
    rw [Below.heap_setCell _ _ _ _ hk, HG.out.block k (Array.getElem?_eq_some_iff.mp ho).1 (way_ne HM.out.row ho hn)]
    exact ho
  go_end0
  exact ⟨rfl, _, HM2, HB2, HE2⟩
theorem bld_same (P Q : Pat) (h1 : P.kd = Q.kd) (h2 : P.ks = Q.ks) : ∀ f, bld P f = bld Q f
  | 0 => rfl
  | f + 1 => by
    funext n a c n0
    simp only [bld]
    rw [bld_same P Q h1 h2 f, h1, h2]
end Go.Proofs.YtlakdfbfkbndiaaDoor.Q
namespace Go.Proofs.YtlakdfbfkbndiaaDoor.Q
open Go.RowKit Go.Proofs.YtlakdfbfkbndiaaDoor.Re Go.Proofs.YtlakdfbfkbndiaaDoorW.PrintWords Go.Proofs.YtlakdfbfkbndiaaDoorW.PrintLast Go.Proofs.YtlakdfbfkbndiaaDoorW.PrintMore
section
variable {l : List S49} {A0 : Option Addr} {c0 : Nat} {w0 : World}
def BuildsAt (l : List S49) (A0 : Option Addr) (c0 : Nat) (w0 : World) (f n : Nat) : Prop :=
  ∀ (a c n0 bm : Nat) (v : Value) (es : List S85) (w : World), a < n0 → c < n0 → Below w0.heap.size w0 w → Mach w0.heap.size bm v n0 es w → es.length + (bld (patOf l ⟨#[]⟩) f n a c n0).1.length ≤ 1000000 → (bld (patOf l ⟨#[]⟩) f n a c n0).2 ≤ 1000000 →
    Calls Tryd.prog 56 #[.pointer (some ⟨bm, 0, none⟩), .slice A0 l.length c0, .int .i64 n, .int .i64 a, .int .i64 c] w fun e w' => e = .returned (.tuple #[]) ∧
      ∃ v', Mach w0.heap.size bm v' ((bld (patOf l ⟨#[]⟩) f n a c n0).2 : Nat) (es ++ (bld (patOf l ⟨#[]⟩) f n a c n0).1.map toE) w' ∧ Below w0.heap.size w w' ∧ Else bm w w'
structure Bw (B bm : Nat) (w0 w : World) (Ln : Nat) (x : S49) (A3 : Option Addr) (c3 : Nat) (wr : World) : Prop where
  b0 : Below B w0 wr
  bw : Below B w wr
  el : Else bm w wr
  loc : wr.heap[Ln]? = some (.cells #[.int .i64 x.f0, .bool x.f1, .string x.f2, .slice A3 x.f3.length c3] 49 (0, 0))
  ne : Ln ≠ bm
theorem Bw.step {B bm : Nat} {w0 w : World} {Ln : Nat} {x : S49} {A3 : Option Addr} {c3 : Nat} {wr w1 : World} (h : Bw B bm w0 w Ln x A3 c3 wr) (hb : Below B wr w1) (he : Else bm wr w1) : Bw B bm w0 w Ln x A3 c3 w1 :=
  ⟨h.b0.trans hb, h.bw.trans hb, h.el.trans he, he _ _ h.ne h.loc (by simp), h.ne⟩
theorem Mach.count {B bm : Nat} {v : Value} {N : Int} {es : List S85} {w : World} (h : Mach B bm v N es w) (M : Int) : Mach B bm v M es (w.setCell ⟨bm, 1, none⟩ (.int .i64 M)) ∧ Below B w (w.setCell ⟨bm, 1, none⟩ (.int .i64 M)) ∧ Else bm w (w.setCell ⟨bm, 1, none⟩ (.int .i64 M)) := by
  refine ⟨⟨h.lo, by simp [World.setCell, Array.getElem?_modify, h.obj], Kd.R_set h.row h.obj (by decide) 1 _, by have := h.sz; simp [World.setCell]; omega⟩, (Below.refl _ _).setCell h.lo _, fun k o hk ho _ => ?_⟩
  rw [Below.heap_setCell _ _ _ _ hk]; exact ho
end
end Go.Proofs.YtlakdfbfkbndiaaDoor.Q
