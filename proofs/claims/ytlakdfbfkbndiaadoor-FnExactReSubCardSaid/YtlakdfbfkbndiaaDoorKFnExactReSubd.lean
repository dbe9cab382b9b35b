/- What the row of FnExactReSub rests on, and the row: for every input that can be read the call returns true and the input reads as it did; condition: what the row lists of the library reads as the program lays it. -/
import Derived.Test.YtlakdfbfkbndiaaDoorKFnExactReSubc
set_option linter.unusedVariables false
set_option linter.unusedSimpArgs false
namespace Go.Proofs.YtlakdfbfkbndiaaDoor.Q
open Go.RowKit Go.Proofs.YtlakdfbfkbndiaaDoorW.PrintWords Go.Proofs.YtlakdfbfkbndiaaDoorW.PrintLast Go.Proofs.YtlakdfbfkbndiaaDoorW.PrintMore
attribute [local go_sem] max2_int min2_int max_two min_two max_three min_three max_four min_four   -- for this text's walks alone
set_option linter.unusedVariables false
set_option linter.unusedSimpArgs false
set_option maxHeartbeats 8000000 in
set_option maxRecDepth 100000 in
theorem spec_l2ends.calls (k : Nat) (A0_0 : Option Addr) (c0_0 : Nat) (l0_0 : List (S85)) (a0_1 : Int) (A1 : Option Addr) (c1 : Nat) (l1 : List (S49)) (a2 : ByteArray) (a3 : Int) (r : List Int) (w : World) (hr0_0 : Kd.C k85 w A0_0 l0_0.length l0_0) (hc0_0 : l0_0.length ≤ c0_0) (hr1 : Kd.C k49 w A1 l1.length l1) (hc1 : l1.length ≤ c1) (h : spec_l2ends.f k l0_0 a0_1 l1 a2 a3 = some r) :
  Calls Tryd.prog 39 #[.agg #[.slice A0_0 l0_0.length c0_0,.int .i64 a0_1],.slice A1 l1.length c1,.string a2,.int .i64 a3] w fun e w'=>∃ v0_ : Value,e = .returned (v0_) ∧ Kd.R (Kd.int .i64) 3 w' w.heap.size (fun _=>True) v0_ r ∧ Below w.heap.size w w':=by
 have hu59:=Tryd.underlying59
 have hu85:=Tryd.underlying85
 have hu49:=Tryd.underlying49
 have HR0_0:=Aside0.mk hr0_0
 have HC0_0:=Aside0.mk hc0_0
 clear hr0_0 hc0_0
 have HR1:=Aside0.mk hr1
 have HC1:=Aside0.mk hc1
 clear hr1 hc1
 have HB:=Aside0.mk (Below.refl w.heap.size w)
 have H : (if 0 ≤ a0_1 then (if (a0_1 : Int).toNat ≤ 281474976710656 then ((some (List.replicate (a0_1 : Int).toNat false : List Bool)).bind fun y152=>(if 0 < (y152.length : Int) then (spec_l2ends.l0 k l1 a2 ([] : List Int) (y152.set (0 : Int).toNat true) a3 l0_0 a0_1) else (none))) else (none)) else (none)) = some r:=h
 clear h
 by_cases c5 : 0 ≤ a0_1
 ·rw [if_pos c5] at H
  have c5b0:=eq_true c5
  have c5b1 : decide (0 ≤ a0_1) = true:=decide_eq_true c5
  clear c5
  by_cases c6 : (a0_1 : Int).toNat ≤ 281474976710656
  ·rw [if_pos c6] at H
   have c6b0:=eq_true c6
   have c6b1 : decide ((a0_1 : Int).toNat ≤ 281474976710656) = true:=decide_eq_true c6
   clear c6
   obtain ⟨y152,hy152⟩ : ∃ y_ : List Bool,y_ = (List.replicate (a0_1 : Int).toNat false):=⟨_,rfl⟩
   replace H : (if 0 < (y152.length : Int) then (spec_l2ends.l0 k l1 a2 ([] : List Int) (y152.set (0 : Int).toNat true) a3 l0_0 a0_1) else (none)) = some r:=by first|(rw [hy152];with_reducible exact H)|(have H2_:=(Option.bind_some _ _).symm.trans H;rw [hy152];with_reducible exact H2_)|(have H2_:=(Option.bind_some _ _).symm.trans H;with_reducible exact H2_)|with_reducible exact H|(rw [hy152];exact H)|exact H
   have Ny152:=Aside0.mk hy152
   clear hy152
   by_cases c7 : 0 < (y152.length : Int)
   ·rw [if_pos c7] at H
    have c7b0 : decide (0 < (y152.length : Int)) = true:=decide_eq_true c7
    have c7b1 : decide (0 < y152.length) = true:=decide_eq_true (by omega)
    clear c7
    obtain ⟨y155,hy155⟩ : ∃ y_ : List Bool,y_ = (y152.set (0 : Int).toNat true):=⟨_,rfl⟩
    replace H : (spec_l2ends.l0 k l1 a2 ([] : List Int) y155 a3 l0_0 a0_1) = some r:=by first|(rw [hy155];with_reducible exact H)|(have H2_:=(Option.bind_some _ _).symm.trans H;rw [hy155];with_reducible exact H2_)|(have H2_:=(Option.bind_some _ _).symm.trans H;with_reducible exact H2_)|with_reducible exact H|(rw [hy155];exact H)|exact H
    have Ny155:=Aside0.mk hy155
    clear hy155
    have H':=Aside0.mk H
    clear H
    go_enter Tryd.func39,Tryd.ntmps39
    go_wp2_with (first|((with_reducible refine gate_dst (N:=4) rfl ?_);refine box_event ?hg (N:=4) ?hd (cs:=#[.slice A0_0 l0_0.length c0_0,.int .i64 a0_1]) (t:=59) ?hr ?_;(case hd=>rfl);(case hg=>rfl);(case hr=>first|(go_simp;done)|(go_simp;rfl));intro gb151 hg w9 hbox hb;have n0_:=Aside0.mk (below_step (by repeat (first|(with_reducible first|exact HB.out|apply below_alloc|apply pw_below_drewN|apply below_drew1)|exact HB.out)) hb);have n1_:=Aside0.mk (hbox);have n2_:=Aside0.mk ((by rw [hg];exact (below_size (by repeat (first|(with_reducible first|exact HB.out|apply below_alloc|apply pw_below_drewN|apply below_drew1)|exact HB.out))) : w.heap.size ≤ gb151));have n3_:=Aside0.mk ((by rw [hg];exact (below_size (by repeat (first|(with_reducible first|exact HB.out|apply below_alloc|apply pw_below_drewN|apply below_drew1)|exact HB.out))) : w.heap.size ≤ gb151));clear HB;have HB:=n0_;have BK151:=n1_;have GW151:=n2_;have GE151:=n3_;clear n0_ n1_ n2_ n3_;clear hb hbox hg;have hcz10_0 : w9.cell? ⟨gb151,0,none⟩ = some (.slice A0_0 l0_0.length c0_0):=(blk_cell BK151.out 0).trans rfl;have hcz10_1 : w9.cell? ⟨gb151,1,none⟩ = some (.int .i64 a0_1):=(blk_cell BK151.out 1).trans rfl;have hfz10_0:=blk_frozen BK151.out 0;have hfz10_1:=blk_frozen BK151.out 1)|((with_reducible refine gate_dst (N:=17) rfl ?_);refine Kd.R_make Kd.bool _ 4 rfl (N:=17) rfl 51 _ _ rfl a0_1 rfl rfl Tryd.underlying51 (.bool false) 1 info4 rfl (by decide) (by omega) false (ok:=fun _=>True) (okp:=fun _=>True) rfl (fun _ hk=>hk) trivial (of_decide_eq_true (by first|(with_reducible assumption)|assumption)) (Nat.le_trans (Nat.mul_le_mul_right _ (of_decide_eq_true (by first|(with_reducible assumption)|assumption) : a0_1.toNat ≤ 281474976710656)) (by omega)) (Below.refl _ _) (Nat.le_refl _) ?_;intro v153 w11 ho12 hb hg_ hnew_;clear hg_ hnew_;(first|rw [← Ny152.out] at ho12|(simp only [Int.reduceToNat] at ho12;rw [← Ny152.out] at ho12));have n0_:=Aside0.mk (Kd.R_lower ho12 (below_size (by repeat (first|(with_reducible first|exact HB.out|apply below_alloc|apply pw_below_drewN|apply below_drew1|refine below_set ?_ GE151.out)|exact HB.out))));have n1_:=Aside0.mk (blk_below (g:=gb151) (o:=.cells #[.slice A0_0 l0_0.length c0_0,.int .i64 a0_1] 59 (0,0)) (by (with_reducible repeat (first|refine blk_drewN ?_ _|refine blk_drew ?_|refine blk_alloc ?_ _));exact BK151.out) hb);have n2_:=Aside0.mk (below_step (by repeat (first|(with_reducible first|exact HB.out|apply below_alloc|apply pw_below_drewN|apply below_drew1|refine below_set ?_ GE151.out)|exact HB.out)) hb);clear BK151;clear HB;have HO154:=n0_;have BK151:=n1_;have HB:=n2_;clear n0_ n1_ n2_;clear hb ho12;have p8 : 0 ≤ (0 : Int):=(by omega);have q8 : (0 : Int) < ((y152.length : Int) : Int):=of_decide_eq_true (by first|(with_reducible assumption)|assumption);have qi8 : (0 < y152.length) = True:=eq_true (by omega);obtain ⟨go8,co8,eo8,gb8,gl8,cl8,HG8⟩:=Kd.R_form HO154.out (by omega);(first|cases eo8|(injection eo8 with ea_ en_ ec_;(first|subst ea_|(injection ea_ with ea_;subst ea_));subst ec_;clear en_));have GB8:=Aside0.mk gb8;have GG8:=Aside0.mk HG8;clear gb8 gl8 HG8;obtain ⟨hx8_0,hf8_0⟩:=Kd.R_celln false HO154.out (0 : Int) p8 q8;(try rw [show ((0 : Int)).toNat = 0 from rfl] at hx8_0);(try simp only [Nat.reduceMul,Nat.zero_mul,Nat.zero_add,Nat.reduceAdd] at hx8_0);(try rw [show ((0 : Int)).toNat = 0 from rfl] at hf8_0);(try simp only [Nat.reduceMul,Nat.zero_mul,Nat.zero_add,Nat.reduceAdd] at hf8_0);replace p8:=eq_true p8;replace q8:=eq_true q8;obtain ⟨hy13_,hz13_⟩:=Kd.R_celln false HO154.out (0 : Int) (by omega) (of_decide_eq_true (by first|(with_reducible assumption)|assumption));(try simp only [Int.reduceToNat,Int.toNat_zero,Int.toNat_ofNat,Nat.reduceMul,Nat.zero_mul,Nat.zero_add] at hy13_ hz13_);(try rw [show ((0 : Int)).toNat = 0 from rfl] at hy13_);(try rw [show ((0 : Int)).toNat = 0 from rfl] at hz13_);have HP13:=Kd.R_putg HO154.out (0 : Int) true)|((with_reducible refine gate_store (t:=4) (p:=19) rfl ?_);refine store_event (t:=4) (p:=19) (v:=?vo_w14) (w1:=(w11.setCell ⟨go8,(0 : Int).toNat,none⟩ (.bool true))) ?hg ?ho ?hn ?hr ?_;(case ho=>rfl);(case hg=>rfl);(case hn=>rfl);(case hr=>first|(go_simp;done)|(go_simp;rfl));intro w14 hw;have hg : w11.grownBy w14 (some go8):=(by rw [hw];exact HP13.2);have hp_ : Kd.R Kd.bool 4 w14 w.heap.size (fun _=>True) (.slice (some ⟨go8,0,none⟩) y152.length co8) y155:=(by rw [hw,Ny155.out];exact HP13.1);clear HP13;have n0_:=Aside0.mk (blk_grown (g:=gb151) (o:=.cells #[.slice A0_0 l0_0.length c0_0,.int .i64 a0_1] 59 (0,0)) (by (with_reducible repeat (first|refine blk_drewN ?_ _|refine blk_drew ?_|refine blk_alloc ?_ _));exact BK151.out) hg (Kd.R_ne HO154.out BK151.out (by decide)));have n1_:=Aside0.mk (hp_);have n2_:=Aside0.mk ((by rw [hw];exact below_set (HB.out) GB8.out : Below w.heap.size w w14));clear BK151;clear HO154;clear HB;have BK151:=n0_;have HO154:=n1_;have HB:=n2_;clear n0_ n1_ n2_;clear hg hw hp_))
    go_loopg [9,10,11] k (fun kq v9 v10 v11 w'=>∃ (x9_1 : List Int) (x10_1 : List Bool) (x11_1 : Int),v11 = .int .i64 x11_1 ∧ Aside0 (spec_l2ends.l0 kq l1 a2 x9_1 x10_1 x11_1 l0_0 a0_1 = some r) ∧ Aside0 (kq ≤ k) ∧ Aside0 (Kd.R (Kd.int .i64) 3 w' w.heap.size (fun _=>True) v9 x9_1) ∧ Aside0 (Kd.R Kd.bool 4 w' w.heap.size (fun _=>True) v10 x10_1) ∧ Aside0 (w'.heap[gb151]? = some (.cells #[(.slice A0_0 l0_0.length c0_0),.int .i64 a0_1] 59 (0,0))) ∧ Aside0 (Below w.heap.size w w'))
    case atStart=>exact ⟨(([] : List Int)),(y155),(a3),(by first|rfl|(simp;done)|(simp [*];done)),H',⟨Nat.le_refl _⟩,⟨by first|exact Kd.R_nil _ _ _ _ _|exact Kd.N_nil _ _ _ _ _|exact Kd.V_nil _ _ _ _ _|exact Kd.Q_nil _ _ _ _ _|exact Kd.S_nil _ _ _ _ _⟩,⟨by (with_reducible repeat (first|apply Kd.R_alloc|apply Kd.R_drewN|apply Kd.R_drew));exact HO154.out⟩,⟨by (with_reducible repeat (first|refine blk_drewN ?_ _|refine blk_drew ?_|refine blk_alloc ?_ _));exact BK151.out⟩,⟨by repeat (first|(with_reducible first|exact HB.out|apply below_alloc|apply pw_below_drewN|apply below_drew1|refine below_set ?_ GE151.out)|exact HB.out)⟩⟩
    case round =>
     clear H'
     try clear c1
     try clear p2
     try clear c3
     try clear c5
     try clear c5b0
     try clear c5b1
     try clear c6
     try clear c6b0
     try clear c6b1
     try clear c7
     try clear c7b0
     try clear c7b1
     try clear p8
     try clear q8
     try clear hx8
     try clear qi8
     try clear hf8
     try clear hcz10_0
     try clear hcz10_1
     try clear hfz10_0
     try clear hfz10_1
     try clear hx8_0
     try clear p8
     try clear q8
     obtain ⟨x9_1,x10_1,x11_1,rfl,HA,HK1,HO_9,HO_10,BK151,HB⟩:=hrel
     cases gk with
     | zero=>exact absurd HA.out (by simp [spec_l2ends.l0])
     | succ k1 =>
      have H:=HA.out
      clear HA
      simp only [spec_l2ends.l0] at H
      replace H:=Option.bind_eq_some_iff.mp H
      obtain ⟨t156,A150,H⟩:=H
      replace H : (if 1 < (x10_1.length : Int) then (if rdOf false t156 1 = true then (if x9_1.length < 17592186044416 then (spec_l2ends.j1 k1 l1 a2 (x9_1 ++ [x11_1]) t156 x11_1 l0_0 a0_1) else (none)) else (spec_l2ends.j1 k1 l1 a2 x9_1 t156 x11_1 l0_0 a0_1)) else (none)) = some r:=H
      have A15:=Aside0.mk A150
      clear A150
      by_cases c16 : 1 < (x10_1.length : Int)
      ·rw [if_pos c16] at H
       have c16b0 : decide (1 < (x10_1.length : Int)) = true:=decide_eq_true c16
       have c16b1 : decide (1 < x10_1.length) = true:=decide_eq_true (by omega)
       clear c16
       have HC17:=Aside0.mk H
       clear H
       have hcz18_0 : wr.cell? ⟨gb151,0,none⟩ = some (.slice A0_0 l0_0.length c0_0):=(blk_cell BK151.out 0).trans rfl
       have hcz18_1 : wr.cell? ⟨gb151,1,none⟩ = some (.int .i64 a0_1):=(blk_cell BK151.out 1).trans rfl
       have hfz18_0:=blk_frozen BK151.out 0
       have hfz18_1:=blk_frozen BK151.out 1
       obtain ⟨Ao19,co19,eo19⟩:=Kd.R_slice HO_10.out
       subst eo19
       go_upto_if 31 with (first|((with_reducible refine gate_callee (f:=57) rfl ?_);refine goesL_ (some 28) rfl rfl Tryd.func57 (by kernel_rfl) rfl #[.agg #[.slice A0_0 l0_0.length c0_0,.int .i64 a0_1],.slice A1 l1.length c1,.string a2,.int .i64 x11_1,.slice Ao19 x10_1.length co19] rfl (by (try simp only [List.map_toArray,List.map_cons,List.map_nil]);first|done|rfl|(simp only [List.length_drop,List.length_take];rfl)) ?_;(with_reducible refine (spec_l2close.calls k1 _ _ l0_0 a0_1 _ _ l1 a2 x11_1 (fun k_=>some k_ = (.slice Ao19 x10_1.length co19 : Value).ownBlock) (.slice Ao19 x10_1.length co19) x10_1 t156 w _ ?side1 ?side2 ?side3 ?side4 ?side5 ?side6 A15.out).mono ?_);(case side1=>repeat (first|(with_reducible first|exact HB.out|apply below_alloc|apply pw_below_drewN|apply below_drew1|refine below_set ?_ GE151.out)|exact HB.out));(case side2=>exact Kd.C_kept_came k85_heap HR0_0.out (by repeat (first|(with_reducible first|exact HB.out|apply below_alloc|apply pw_below_drewN|apply below_drew1|refine below_set ?_ GE151.out)|exact HB.out)) (fun k_ hs_=>(fun e_=>Kd.R_base HO_10.out k_ e_.symm) hs_));(case side3=>exact HC0_0.out);(case side4=>exact Kd.C_kept_came k49_heap HR1.out (by repeat (first|(with_reducible first|exact HB.out|apply below_alloc|apply pw_below_drewN|apply below_drew1|refine below_set ?_ GE151.out)|exact HB.out)) (fun k_ hs_=>(fun e_=>Kd.R_base HO_10.out k_ e_.symm) hs_));(case side5=>exact HC1.out);(case side6=>exact Kd.R_tight rfl HO_10.out);rintro e w20 ⟨rfl,hy0,hb,hkp⟩;refine ⟨_,rfl,?_⟩;have n0_:=Aside0.mk (Kd.R_mono (ok':=fun k_=>True) (Kd.R_keptB ((Kd.R_apart' HO_9.out (Kd.R_typed HO_10.out) (by decide))) hkp (fun k_ hk_ hs_=>(hk_.2) hs_)) (fun k_ hk_=>trivial));have n1_:=Aside0.mk (Kd.R_reok rfl hy0 (fun k_ e_=>HO_10.out.1 k_ e_));have n2_:=Aside0.mk (blk_kept (by (with_reducible repeat (first|refine blk_drewN ?_ _|refine blk_drew ?_|refine blk_alloc ?_ _));exact BK151.out) hkp (fun hs_=>(fun e_=>(Kd.R_ne HO_10.out BK151.out (by decide)) e_) hs_));have n3_:=Aside0.mk (hb);clear HO_9;clear HO_10;clear BK151;clear HB;have HO_9:=n0_;have HO_10:=n1_;have BK151:=n2_;have HB:=n3_;clear n0_ n1_ n2_ n3_;(try clear hb);(try clear hkp);(try clear hy0);have p157 : 0 ≤ (1 : Int):=(by omega);have q157 : 1 < (t156.length : Int):=(by have h_ : (1 : Int) < ((x10_1.length : Int) : Int):=of_decide_eq_true (by first|(with_reducible assumption)|assumption);have e_:=(Kd.R_reads' HO_10.out).1;omega);have ql157 : ((1 : Int) < ((x10_1.length : Int) : Int)) = True:=eq_true (of_decide_eq_true (by first|(with_reducible assumption)|assumption));(try have qn157 : (1 < x10_1.length) = True:=eq_true (by have h_ : (1 : Int) < ((x10_1.length : Int) : Int):=of_decide_eq_true (by first|(with_reducible assumption)|assumption);omega));obtain ⟨ad157,e157,hx157_0⟩:=Kd.at_bool (Kd.R_reads' HO_10.out).2.2 1 p157 q157;cases e157;(try simp only [show (1 : Int).toNat = 1 from rfl,Nat.reduceMul,Nat.reduceEqDiff,Go.Addr.add,↓reduceIte] at hx157_0);have qi157 : (1 < t156.length) = True:=eq_true (by omega);(try rw [show ((1 : Int)).toNat = 1 from rfl] at hx157_0);replace p157:=eq_true p157;replace q157:=eq_true q157))
       (try simp only [Act.put,List.setIfInBounds_toArray,List.set_cons_zero,List.set_cons_succ])
       go_cut [9] (fun v9 wc=>∃ (kq : Nat) (x9_16 : List Int),Aside0 (spec_l2ends.j1 kq l1 a2 x9_16 t156 x11_1 l0_0 a0_1 = some r) ∧ Aside0 (kq ≤ k1) ∧ Aside0 (Kd.R (Kd.int .i64) 3 wc w.heap.size (fun _=>True) v9 x9_16) ∧ Aside0 (Kd.R Kd.bool 4 wc w.heap.size (fun _=>True) (.slice (some ad157) x10_1.length co19) t156) ∧ Aside0 (wc.heap[gb151]? = some (.cells #[(.slice A0_0 l0_0.length c0_0),.int .i64 a0_1] 59 (0,0))) ∧ Aside0 (Below w.heap.size w wc))
       case first =>
        have H:=HC17.out
        clear HC17
        obtain ⟨bq21,hbq21⟩ : ∃ b_ : Bool,b_ = (rdOf false t156 1):=⟨_,rfl⟩
        replace H : (if bq21 = true then (if x9_1.length < 17592186044416 then (spec_l2ends.j1 k1 l1 a2 (x9_1 ++ [x11_1]) t156 x11_1 l0_0 a0_1) else (none)) else (spec_l2ends.j1 k1 l1 a2 x9_1 t156 x11_1 l0_0 a0_1)) = some r:=by rw [← hbq21] at H;exact H
        have Nbq21:=Aside0.mk hbq21
        clear hbq21
        (try rw [← Nbq21.out])
        by_cases c22 : bq21 = true
        ·subst c22
         have H1 : (if x9_1.length < 17592186044416 then (spec_l2ends.j1 k1 l1 a2 (x9_1 ++ [x11_1]) t156 x11_1 l0_0 a0_1) else (none)) = some r:=by rw [if_pos rfl] at H;exact H
         clear H
         have H:=H1
         clear H1
         by_cases c23 : x9_1.length < 17592186044416
         ·rw [if_pos c23] at H
          have LMc23:=Aside0.mk c23
          clear c23
          obtain ⟨y158,hy158⟩ : ∃ y_ : List Int,y_ = (x9_1 ++ [x11_1]):=⟨_,rfl⟩
          replace H : (spec_l2ends.j1 k1 l1 a2 y158 t156 x11_1 l0_0 a0_1) = some r:=by first|(rw [hy158];with_reducible exact H)|(have H2_:=(Option.bind_some _ _).symm.trans H;rw [hy158];with_reducible exact H2_)|(have H2_:=(Option.bind_some _ _).symm.trans H;with_reducible exact H2_)|with_reducible exact H|(rw [hy158];exact H)|exact H
          have Ny158:=Aside0.mk hy158
          clear hy158
          have H':=Aside0.mk H
          clear H
          go_wp2_with (first|((with_reducible refine gate_builtin (b:=.append) (xs:=#[.tmp 32,.tmp 34]) rfl ?_);at_builtin;refine Kd.R_append (Kd.int .i64) (w0:=w) w.heap.size rfl (.tmp 32) (.tmp 34) 31 3 (.int .i64 0) 8 rfl Tryd.underlying31 info3 rfl (by decide) (by omega) u9 x9_1 x11_1 [.int .i64 x11_1] (fun _=>True) (fun _=>False) rfl rfl ?aP (fun _ hk=>hk.elim) ?aF ?aO ?aB ?aS ?aL ?_;(case aP=>exact rfl);(case aB=>exact (by repeat (first|(with_reducible first|exact HB.out|apply below_alloc|apply pw_below_drewN|apply below_drew1|refine below_set ?_ GE151.out)|exact HB.out)));(case aF=>exact (fun _ _=>trivial));(case aO=>exact (by (with_reducible repeat (first|apply Kd.R_alloc|apply Kd.R_drewN|apply Kd.R_drew));exact HO_9.out));(case aS=>exact (below_size (by repeat (first|(with_reducible first|exact HB.out|apply below_alloc|apply pw_below_drewN|apply below_drew1|refine below_set ?_ GE151.out)|exact HB.out))));(case aL=>have:=LMc23.out;omega);intro v159 w24 ho hb hg hat;rw [← Ny158.out] at ho;have n0_:=Aside0.mk (Kd.R_over' (by (with_reducible repeat (first|apply Kd.R_alloc|apply Kd.R_drewN|apply Kd.R_drew));exact HO_10.out) (Kd.R_typed (by (with_reducible repeat (first|apply Kd.R_alloc|apply Kd.R_drewN|apply Kd.R_drew));exact HO_9.out)) (by decide) hg);have n1_:=Aside0.mk (blk_grown (g:=gb151) (o:=.cells #[.slice A0_0 l0_0.length c0_0,.int .i64 a0_1] 59 (0,0)) (by (with_reducible repeat (first|refine blk_drewN ?_ _|refine blk_drew ?_|refine blk_alloc ?_ _));exact BK151.out) hg (Kd.R_ne HO_9.out BK151.out (by decide)));have n2_:=Aside0.mk (hb);have n3_:=Aside0.mk (ho);clear HO_10;clear BK151;clear HB;clear HO_9;have HO_10:=n0_;have BK151:=n1_;have HB:=n2_;have HO160:=n3_;clear n0_ n1_ n2_ n3_;clear ho hb hg hat))
          go_meet
          case rel=>exact ⟨_,(y158),H',⟨by have:=HK1.out;first|omega|exact Nat.le_refl _⟩,⟨by (with_reducible repeat (first|apply Kd.R_alloc|apply Kd.R_drewN|apply Kd.R_drew));exact HO160.out⟩,⟨by (with_reducible repeat (first|apply Kd.R_alloc|apply Kd.R_drewN|apply Kd.R_drew));exact HO_10.out⟩,⟨by (with_reducible repeat (first|refine blk_drewN ?_ _|refine blk_drew ?_|refine blk_alloc ?_ _));exact BK151.out⟩,⟨by repeat (first|(with_reducible first|exact HB.out|apply below_alloc|apply pw_below_drewN|apply below_drew1|refine below_set ?_ GE151.out)|exact HB.out)⟩⟩
         ·rw [if_neg c23] at H
          exact absurd H (by simp)
        ·replace c22:=Bool.eq_false_iff.mpr c22
         subst c22
         have H1 : (spec_l2ends.j1 k1 l1 a2 x9_1 t156 x11_1 l0_0 a0_1) = some r:=by rw [if_neg (show ¬ (false = true) by decide)] at H;exact H
         clear H
         have H:=H1
         clear H1
         have H':=Aside0.mk H
         clear H
         go_wp2
         go_meet
         case rel=>exact ⟨_,(x9_1),H',⟨by have:=HK1.out;first|omega|exact Nat.le_refl _⟩,⟨by (with_reducible repeat (first|apply Kd.R_alloc|apply Kd.R_drewN|apply Kd.R_drew));exact HO_9.out⟩,⟨by (with_reducible repeat (first|apply Kd.R_alloc|apply Kd.R_drewN|apply Kd.R_drew));exact HO_10.out⟩,⟨by (with_reducible repeat (first|refine blk_drewN ?_ _|refine blk_drew ?_|refine blk_alloc ?_ _));exact BK151.out⟩,⟨by repeat (first|(with_reducible first|exact HB.out|apply below_alloc|apply pw_below_drewN|apply below_drew1|refine below_set ?_ GE151.out)|exact HB.out)⟩⟩
       case rest =>
        clear HC17
        try clear c1
        try clear p1
        try clear q1
        try clear hx1
        try clear qi1
        try clear c2
        try clear p2
        try clear q2
        try clear c3
        try clear c5
        try clear c5b0
        try clear c5b1
        try clear c6
        try clear c6b0
        try clear c6b1
        try clear c7
        try clear c7b0
        try clear c7b1
        try clear p8
        try clear q8
        try clear hx8
        try clear qi8
        try clear hf8
        try clear p15
        try clear q15
        try clear hx15
        try clear qi15
        try clear c16
        try clear c16b0
        try clear c16b1
        try clear q21
        try clear c22
        try clear c23
        try clear hcz10_0
        try clear hcz10_1
        try clear hcz18_0
        try clear hcz18_1
        try clear hfz10_0
        try clear hfz10_1
        try clear hfz18_0
        try clear hfz18_1
        try clear hx157_0
        try clear hx8_0
        try clear p157
        try clear p2
        try clear p8
        try clear q157
        try clear q8
        obtain ⟨kq,x9_16,HA,HJ16,HO_9,HO_10,BK151,HB⟩:=hcut
        have hl10_16:=(Kd.R_reads' HO_10.out).1
        rw [hl10_16] at HO_10
        (try simp only [hl10_16])
        (try simp only [hl10_16] at BK151)
        (try simp only [hl10_16] at HO_9)
        cases kq with
        | zero=>exact absurd HA.out (by simp [spec_l2ends.j1])
        | succ kj16 =>
         have H:=HA.out
         clear HA
         simp only [spec_l2ends.j1] at H
         by_cases c25 : x11_1 = (a2.size : Int)
         ·rw [if_pos c25] at H
          have c25b0 : (x11_1 == (a2.size : Int)) = true:=beq_iff_eq.mpr c25
          have c25b1 : (x11_1 != (a2.size : Int)) = false:=bne_eq_false_iff_eq.mpr c25
          clear c25
          obtain rfl:=Option.some.inj H
          go_wp2
          go_ret
          exact ⟨_,by first|rfl|(simp [errW_none,errW_some] <;> rfl)|(simp [*,errW_none,errW_some] <;> rfl),by (with_reducible repeat (first|apply Kd.R_alloc|apply Kd.R_drewN|apply Kd.R_drew));exact HO_9.out,by repeat (first|(with_reducible first|exact HB.out|apply below_alloc|apply pw_below_drewN|apply below_drew1|refine below_set ?_ GE151.out)|exact HB.out)⟩
         ·rw [if_neg c25] at H
          have c25b0 : (x11_1 == (a2.size : Int)) = false:=beq_eq_false_iff_ne.mpr c25
          have c25b1 : (x11_1 != (a2.size : Int)) = true:=bne_iff_ne.mpr c25
          by_cases c26 : 0 ≤ a0_1
          ·rw [if_pos c26] at H
           have c26b0:=eq_true c26
           have c26b1 : decide (0 ≤ a0_1) = true:=decide_eq_true c26
           clear c26
           by_cases c27 : (a0_1 : Int).toNat ≤ 281474976710656
           ·rw [if_pos c27] at H
            have c27b0:=eq_true c27
            have c27b1 : decide ((a0_1 : Int).toNat ≤ 281474976710656) = true:=decide_eq_true c27
            clear c27
            obtain ⟨y161,hy161⟩ : ∃ y_ : List Bool,y_ = (List.replicate (a0_1 : Int).toNat false):=⟨_,rfl⟩
            replace H : (spec_l2ends.l1 kj16 l1 a2 x9_16 t156 x11_1 y161 0 l0_0 a0_1) = some r:=by first|(rw [hy161];with_reducible exact H)|(have H2_:=(Option.bind_some _ _).symm.trans H;rw [hy161];with_reducible exact H2_)|(have H2_:=(Option.bind_some _ _).symm.trans H;with_reducible exact H2_)|with_reducible exact H|(rw [hy161];exact H)|exact H
            have Ny161:=Aside0.mk hy161
            clear hy161
            have H':=Aside0.mk H
            clear H
            have hcz28_0 : wc.cell? ⟨gb151,0,none⟩ = some (.slice A0_0 l0_0.length c0_0):=(blk_cell BK151.out 0).trans rfl
            have hcz28_1 : wc.cell? ⟨gb151,1,none⟩ = some (.int .i64 a0_1):=(blk_cell BK151.out 1).trans rfl
            have hfz28_0:=blk_frozen BK151.out 0
            have hfz28_1:=blk_frozen BK151.out 1
            go_wp2_with (first|((with_reducible refine gate_dst (N:=43) rfl ?_);refine Kd.R_make Kd.bool _ 4 rfl (N:=43) rfl 51 _ _ rfl a0_1 rfl rfl Tryd.underlying51 (.bool false) 1 info4 rfl (by decide) (by omega) false (ok:=fun _=>True) (okp:=fun _=>True) rfl (fun _ hk=>hk) trivial (of_decide_eq_true (by first|(with_reducible assumption)|assumption)) (Nat.le_trans (Nat.mul_le_mul_right _ (of_decide_eq_true (by first|(with_reducible assumption)|assumption) : a0_1.toNat ≤ 281474976710656)) (by omega)) (Below.refl _ _) (Nat.le_refl _) ?_;intro v162 w29 ho30 hb hg_ hnew_;clear hg_ hnew_;(first|rw [← Ny161.out] at ho30|(simp only [Int.reduceToNat] at ho30;rw [← Ny161.out] at ho30));have n0_:=Aside0.mk (Kd.R_below (by (with_reducible repeat (first|apply Kd.R_alloc|apply Kd.R_drewN|apply Kd.R_drew));exact HO_9.out) hb);have n1_:=Aside0.mk (Kd.R_elder' (by (with_reducible repeat (first|apply Kd.R_alloc|apply Kd.R_drewN|apply Kd.R_drew));exact HO_10.out) (Kd.R_base ho30) hb);have n2_:=Aside0.mk (Kd.R_lower (Kd.R_new' ho30 (Kd.R_lt (by (with_reducible repeat (first|apply Kd.R_alloc|apply Kd.R_drewN|apply Kd.R_drew));exact HO_10.out))) (below_size (by repeat (first|(with_reducible first|exact HB.out|apply below_alloc|apply pw_below_drewN|apply below_drew1|refine below_set ?_ GE151.out)|exact HB.out))));have n3_:=Aside0.mk (blk_below (g:=gb151) (o:=.cells #[.slice A0_0 l0_0.length c0_0,.int .i64 a0_1] 59 (0,0)) (by (with_reducible repeat (first|refine blk_drewN ?_ _|refine blk_drew ?_|refine blk_alloc ?_ _));exact BK151.out) hb);have n4_:=Aside0.mk (below_step (by repeat (first|(with_reducible first|exact HB.out|apply below_alloc|apply pw_below_drewN|apply below_drew1|refine below_set ?_ GE151.out)|exact HB.out)) hb);clear HO_9;clear HO_10;clear BK151;clear HB;have HO_9:=n0_;have HO_10:=n1_;have HO163:=n2_;have BK151:=n3_;have HB:=n4_;clear n0_ n1_ n2_ n3_ n4_;clear hb ho30))
            go_loopg [13] kj16 (fun kq v13 w'=>∃ (x12_3 : List Bool) (x13_3 : Int),v13 = .int .i64 x13_3 ∧ Aside0 (spec_l2ends.l1 kq l1 a2 x9_16 t156 x11_1 x12_3 x13_3 l0_0 a0_1 = some r) ∧ Aside0 (kq ≤ kj16) ∧ Aside0 (Kd.R (Kd.int .i64) 3 w' w.heap.size (fun _=>True) u9 x9_16) ∧ Aside0 (Kd.R Kd.bool 4 w' w.heap.size (fun k_=>some k_ ≠ (v162 : Value).ownBlock) (.slice (some ad157) t156.length co19) t156) ∧ Aside0 (Kd.R Kd.bool 4 w' w.heap.size (fun k_=>some k_ ≠ ((.slice (some ad157) t156.length co19) : Value).ownBlock) v162 x12_3) ∧ Aside0 (w'.heap[gb151]? = some (.cells #[(.slice A0_0 l0_0.length c0_0),.int .i64 a0_1] 59 (0,0))) ∧ Aside0 (Below w.heap.size w w'))
            case atStart=>exact ⟨(y161),(0),(by first|rfl|(simp;done)|(simp [*];done)),H',⟨Nat.le_refl _⟩,⟨by (try simp only [hl10_16]);(with_reducible repeat (first|apply Kd.R_alloc|apply Kd.R_drewN|apply Kd.R_drew));exact HO_9.out⟩,⟨by (try simp only [hl10_16]);(with_reducible repeat (first|apply Kd.R_alloc|apply Kd.R_drewN|apply Kd.R_drew));exact Kd.R_mono HO_10.out (fun _ hk=>hk.2)⟩,⟨by (try simp only [hl10_16]);(with_reducible repeat (first|apply Kd.R_alloc|apply Kd.R_drewN|apply Kd.R_drew));exact Kd.R_mono HO163.out (fun _ hk=>hk.2)⟩,⟨by (try simp only [hl10_16]);(with_reducible repeat (first|refine blk_drewN ?_ _|refine blk_drew ?_|refine blk_alloc ?_ _));exact BK151.out⟩,⟨by repeat (first|(with_reducible first|exact HB.out|apply below_alloc|apply pw_below_drewN|apply below_drew1|refine below_set ?_ GE151.out)|exact HB.out)⟩⟩
            case round =>
             clear H'
             try clear c1
             try clear p1
             try clear q1
             try clear hx1
             try clear qi1
             try clear c2
             try clear p2
             try clear q2
             try clear c3
             try clear c5
             try clear c5b0
             try clear c5b1
             try clear c6
             try clear c6b0
             try clear c6b1
             try clear c7
             try clear c7b0
             try clear c7b1
             try clear p8
             try clear q8
             try clear hx8
             try clear qi8
             try clear hf8
             try clear p15
             try clear q15
             try clear hx15
             try clear qi15
             try clear c16
             try clear c16b0
             try clear c16b1
             try clear q21
             try clear c22
             try clear c23
             try clear c25
             try clear c25b0
             try clear c25b1
             try clear c26
             try clear c26b0
             try clear c26b1
             try clear c27
             try clear c27b0
             try clear c27b1
             try clear hcz10_0
             try clear hcz10_1
             try clear hcz18_0
             try clear hcz18_1
             try clear hcz28_0
             try clear hcz28_1
             try clear hfz10_0
             try clear hfz10_1
             try clear hfz18_0
             try clear hfz18_1
             try clear hfz28_0
             try clear hfz28_1
             try clear hx157_0
             try clear hx8_0
             try clear p1
             try clear p15
             try clear p157
             try clear p2
             try clear p8
             try clear q1
             try clear q15
             try clear q157
             try clear q2
             try clear q21
             try clear q8
             obtain ⟨x12_3,x13_3,rfl,HA,HK3,HO_9,HO_10,HO_12,BK151,HB⟩:=hrel
             cases gk with
             | zero=>exact absurd HA.out (by simp [spec_l2ends.l1])
             | succ k3 =>
              have H:=HA.out
              clear HA
              simp only [spec_l2ends.l1] at H
              by_cases c31 : x13_3 < (l0_0.length : Int)
              ·rw [if_pos c31] at H
               have c31b0 : decide (x13_3 < (l0_0.length : Int)) = true:=decide_eq_true c31
               clear c31
               by_cases c32 : 0 ≤ x13_3
               ·rw [if_pos c32] at H
                have c32b0 : decide (0 ≤ x13_3) = true:=decide_eq_true c32
                clear c32
                by_cases c33 : 0 ≤ ((rd_T85 l0_0 x13_3).f0)
                ·rw [if_pos c33] at H
                 have c33b0 : decide (0 ≤ ((rd_T85 l0_0 x13_3).f0)) = true:=decide_eq_true c33
                 clear c33
                 by_cases c34 : ((rd_T85 l0_0 x13_3).f0) < (t156.length : Int)
                 ·rw [if_pos c34] at H
                  have c34b0 : decide (((rd_T85 l0_0 x13_3).f0) < (t156.length : Int)) = true:=decide_eq_true c34
                  clear c34
                  obtain ⟨bq35,hbq35⟩ : ∃ b_ : Bool,b_ = (rdOf false t156 ((rd_T85 l0_0 x13_3).f0)):=⟨_,rfl⟩
                  replace H : (if bq35 = true then (if ((rd_T85 l0_0 x13_3).f2) ≥ 0 then (if 0 ≤ ((rd_T85 l0_0 x13_3).f2) then (if ((rd_T85 l0_0 x13_3).f2) < (l1.length : Int) then (if ((rd_T49 l1 ((rd_T85 l0_0 x13_3).f2)).f0) = 0 then (if 0 ≤ x11_1 then (if x11_1 < (a2.size : Int) then ((spec_l2in.f k3 ((rd_T49 l1 ((rd_T85 l0_0 x13_3).f2)).f0) ((rd_T49 l1 ((rd_T85 l0_0 x13_3).f2)).f1) ((rd_T49 l1 ((rd_T85 l0_0 x13_3).f2)).f2) ((rd_T49 l1 ((rd_T85 l0_0 x13_3).f2)).f3) (bt a2 x11_1)).bind fun t169=>(if t169 = true then (if 0 ≤ ((rd_T85 l0_0 x13_3).f1) then (if ((rd_T85 l0_0 x13_3).f1) < (x12_3.length : Int) then (spec_l2ends.l1 k3 l1 a2 x9_16 t156 x11_1 (x12_3.set (((rd_T85 l0_0 x13_3).f1) : Int).toNat true) (wrap64 (x13_3 + 1)) l0_0 a0_1) else (none)) else (none)) else (spec_l2ends.l1 k3 l1 a2 x9_16 t156 x11_1 x12_3 (wrap64 (x13_3 + 1)) l0_0 a0_1))) else (none)) else (none)) else (spec_l2ends.l1 k3 l1 a2 x9_16 t156 x11_1 x12_3 (wrap64 (x13_3 + 1)) l0_0 a0_1)) else (none)) else (none)) else (spec_l2ends.l1 k3 l1 a2 x9_16 t156 x11_1 x12_3 (wrap64 (x13_3 + 1)) l0_0 a0_1)) else (spec_l2ends.l1 k3 l1 a2 x9_16 t156 x11_1 x12_3 (wrap64 (x13_3 + 1)) l0_0 a0_1)) = some r:=by rw [← hbq35] at H;exact H
                  have Nbq35:=Aside0.mk hbq35
                  clear hbq35
                  by_cases c36 : bq35 = true
                  ·subst c36
                   have H1 : (if ((rd_T85 l0_0 x13_3).f2) ≥ 0 then (if 0 ≤ ((rd_T85 l0_0 x13_3).f2) then (if ((rd_T85 l0_0 x13_3).f2) < (l1.length : Int) then (if ((rd_T49 l1 ((rd_T85 l0_0 x13_3).f2)).f0) = 0 then (if 0 ≤ x11_1 then (if x11_1 < (a2.size : Int) then ((spec_l2in.f k3 ((rd_T49 l1 ((rd_T85 l0_0 x13_3).f2)).f0) ((rd_T49 l1 ((rd_T85 l0_0 x13_3).f2)).f1) ((rd_T49 l1 ((rd_T85 l0_0 x13_3).f2)).f2) ((rd_T49 l1 ((rd_T85 l0_0 x13_3).f2)).f3) (bt a2 x11_1)).bind fun t169=>(if t169 = true then (if 0 ≤ ((rd_T85 l0_0 x13_3).f1) then (if ((rd_T85 l0_0 x13_3).f1) < (x12_3.length : Int) then (spec_l2ends.l1 k3 l1 a2 x9_16 t156 x11_1 (x12_3.set (((rd_T85 l0_0 x13_3).f1) : Int).toNat true) (wrap64 (x13_3 + 1)) l0_0 a0_1) else (none)) else (none)) else (spec_l2ends.l1 k3 l1 a2 x9_16 t156 x11_1 x12_3 (wrap64 (x13_3 + 1)) l0_0 a0_1))) else (none)) else (none)) else (spec_l2ends.l1 k3 l1 a2 x9_16 t156 x11_1 x12_3 (wrap64 (x13_3 + 1)) l0_0 a0_1)) else (none)) else (none)) else (spec_l2ends.l1 k3 l1 a2 x9_16 t156 x11_1 x12_3 (wrap64 (x13_3 + 1)) l0_0 a0_1)) = some r:=by rw [if_pos rfl] at H;exact H
                   clear H
                   have H:=H1
                   clear H1
                   by_cases c37 : ((rd_T85 l0_0 x13_3).f2) ≥ 0
                   ·rw [if_pos c37] at H
                    have c37b0 : decide (0 ≤ ((rd_T85 l0_0 x13_3).f2)) = true:=decide_eq_true c37
                    clear c37
                    by_cases c38 : 0 ≤ ((rd_T85 l0_0 x13_3).f2)
                    ·rw [if_pos c38] at H
                     have c38b0 : decide (0 ≤ ((rd_T85 l0_0 x13_3).f2)) = true:=decide_eq_true c38
                     clear c38
                     by_cases c39 : ((rd_T85 l0_0 x13_3).f2) < (l1.length : Int)
                     ·rw [if_pos c39] at H
                      have c39b0 : decide (((rd_T85 l0_0 x13_3).f2) < (l1.length : Int)) = true:=decide_eq_true c39
                      clear c39
                      by_cases c40 : ((rd_T49 l1 ((rd_T85 l0_0 x13_3).f2)).f0) = 0
                      ·rw [if_pos c40] at H
                       have c40b0 : (((rd_T49 l1 ((rd_T85 l0_0 x13_3).f2)).f0) == 0) = true:=beq_iff_eq.mpr c40
                       have c40b1 : (((rd_T49 l1 ((rd_T85 l0_0 x13_3).f2)).f0) != 0) = false:=bne_eq_false_iff_eq.mpr c40
                       clear c40
                       by_cases c41 : 0 ≤ x11_1
                       ·rw [if_pos c41] at H
                        have c41b0 : decide (0 ≤ x11_1) = true:=decide_eq_true c41
                        clear c41
                        by_cases c42 : x11_1 < (a2.size : Int)
                        ·rw [if_pos c42] at H
                         have c42b0 : decide (x11_1 < (a2.size : Int)) = true:=decide_eq_true c42
                         clear c42
                         replace H:=Option.bind_eq_some_iff.mp H
                         obtain ⟨t169,A440,H⟩:=H
                         replace H : (if t169 = true then (if 0 ≤ ((rd_T85 l0_0 x13_3).f1) then (if ((rd_T85 l0_0 x13_3).f1) < (x12_3.length : Int) then (spec_l2ends.l1 k3 l1 a2 x9_16 t156 x11_1 (x12_3.set (((rd_T85 l0_0 x13_3).f1) : Int).toNat true) (wrap64 (x13_3 + 1)) l0_0 a0_1) else (none)) else (none)) else (spec_l2ends.l1 k3 l1 a2 x9_16 t156 x11_1 x12_3 (wrap64 (x13_3 + 1)) l0_0 a0_1)) = some r:=H
                         have A44:=Aside0.mk A440
                         clear A440
                         by_cases c45 : t169 = true
                         ·subst c45
                          have H1 : (if 0 ≤ ((rd_T85 l0_0 x13_3).f1) then (if ((rd_T85 l0_0 x13_3).f1) < (x12_3.length : Int) then (spec_l2ends.l1 k3 l1 a2 x9_16 t156 x11_1 (x12_3.set (((rd_T85 l0_0 x13_3).f1) : Int).toNat true) (wrap64 (x13_3 + 1)) l0_0 a0_1) else (none)) else (none)) = some r:=by rw [if_pos rfl] at H;exact H
                          clear H
                          have H:=H1
                          clear H1
                          by_cases c46 : 0 ≤ ((rd_T85 l0_0 x13_3).f1)
                          ·rw [if_pos c46] at H
                           have c46b0 : decide (0 ≤ ((rd_T85 l0_0 x13_3).f1)) = true:=decide_eq_true c46
                           clear c46
                           by_cases c47 : ((rd_T85 l0_0 x13_3).f1) < (x12_3.length : Int)
                           ·rw [if_pos c47] at H
                            have c47b0 : decide (((rd_T85 l0_0 x13_3).f1) < (x12_3.length : Int)) = true:=decide_eq_true c47
                            clear c47
                            obtain ⟨y170,hy170⟩ : ∃ y_ : List Bool,y_ = (x12_3.set (((rd_T85 l0_0 x13_3).f1) : Int).toNat true):=⟨_,rfl⟩
                            replace H : (spec_l2ends.l1 k3 l1 a2 x9_16 t156 x11_1 y170 (wrap64 (x13_3 + 1)) l0_0 a0_1) = some r:=by first|(rw [hy170];with_reducible exact H)|(have H2_:=(Option.bind_some _ _).symm.trans H;rw [hy170];with_reducible exact H2_)|(have H2_:=(Option.bind_some _ _).symm.trans H;with_reducible exact H2_)|with_reducible exact H|(rw [hy170];exact H)|exact H
                            have Ny170:=Aside0.mk hy170
                            clear hy170
                            have H':=Aside0.mk H
                            clear H
                            have hcz49_0 : wr.cell? ⟨gb151,0,none⟩ = some (.slice A0_0 l0_0.length c0_0):=(blk_cell BK151.out 0).trans rfl
                            have hcz49_1 : wr.cell? ⟨gb151,1,none⟩ = some (.int .i64 a0_1):=(blk_cell BK151.out 1).trans rfl
                            have hfz49_0:=blk_frozen BK151.out 0
                            have hfz49_1:=blk_frozen BK151.out 1
                            have p164 : 0 ≤ (x13_3 : Int):=of_decide_eq_true (by first|(with_reducible assumption)|assumption)
                            have q164 : x13_3 < (l0_0.length : Int):=of_decide_eq_true (by first|(with_reducible assumption)|assumption)
                            obtain ⟨ad164,e164,hx164_0,hx164_1,hx164_2⟩:=at_T85 HR0_0.out x13_3 p164 q164
                            cases e164
                            replace hx164_0:=(HB.out.cell (World.block_lt_of_cell? w _ hx164_0)).trans hx164_0
                            replace hx164_1:=(HB.out.cell (World.block_lt_of_cell? w _ hx164_1)).trans hx164_1
                            replace hx164_2:=(HB.out.cell (World.block_lt_of_cell? w _ hx164_2)).trans hx164_2
                            replace p164:=eq_true p164
                            replace q164:=eq_true q164
                            try go_wp2_with (first|((with_reducible refine gate_dst (N:=14) rfl ?_);refine box_event ?hg (N:=14) ?hd (cs:=#[.int .i64 0,.int .i64 0,.int .i64 0]) (t:=85) ?hr ?_;(case hd=>rfl);(case hg=>rfl);(case hr=>first|(go_simp;done)|(go_simp;rfl));intro gb165 hg w50 hbox hb;have n0_:=Aside0.mk (Kd.R_below (by (with_reducible repeat (first|apply Kd.R_alloc|apply Kd.R_drewN|apply Kd.R_drew));exact HO_9.out) hb);have n1_:=Aside0.mk (Kd.R_below (by (with_reducible repeat (first|apply Kd.R_alloc|apply Kd.R_drewN|apply Kd.R_drew));exact HO_10.out) hb);have n2_:=Aside0.mk (Kd.R_below (by (with_reducible repeat (first|apply Kd.R_alloc|apply Kd.R_drewN|apply Kd.R_drew));exact HO_12.out) hb);have n3_:=Aside0.mk (blk_below (g:=gb151) (o:=.cells #[.slice (some ad164) l0_0.length c0_0,.int .i64 a0_1] 59 (0,0)) (by (with_reducible repeat (first|refine blk_drewN ?_ _|refine blk_drew ?_|refine blk_alloc ?_ _));exact BK151.out) hb);have n4_:=Aside0.mk (below_step (by repeat (first|(with_reducible first|exact HB.out|apply below_alloc|apply pw_below_drewN|apply below_drew1|refine below_set ?_ GE151.out)|exact HB.out)) hb);have n5_:=Aside0.mk (hbox);have n6_:=Aside0.mk ((by rw [hg];exact (below_size (by repeat (first|(with_reducible first|exact HB.out|apply below_alloc|apply pw_below_drewN|apply below_drew1|refine below_set ?_ GE151.out)|exact HB.out))) : w.heap.size ≤ gb165));have n7_:=Aside0.mk ((by rw [hg];exact (below_size (by repeat (first|(with_reducible first|exact HB.out|apply below_alloc|apply pw_below_drewN|apply below_drew1|refine below_set ?_ GE151.out)|exact HB.out))) : w.heap.size ≤ gb165));have n8_:=Aside0.mk ((by rw [hg];exact Nat.ne_of_lt (blk_lt (g:=gb151) (o:=.cells #[.slice (some ad164) l0_0.length c0_0,.int .i64 a0_1] 59 (0,0)) (by (with_reducible repeat (first|refine blk_drewN ?_ _|refine blk_drew ?_|refine blk_alloc ?_ _));exact BK151.out)) : gb151 ≠ gb165));have n9_:=Aside0.mk ((by rw [hg];exact Nat.ne_of_gt (blk_lt (g:=gb151) (o:=.cells #[.slice (some ad164) l0_0.length c0_0,.int .i64 a0_1] 59 (0,0)) (by (with_reducible repeat (first|refine blk_drewN ?_ _|refine blk_drew ?_|refine blk_alloc ?_ _));exact BK151.out)) : gb165 ≠ gb151));clear HO_9;clear HO_10;clear HO_12;clear BK151;clear HB;have HO_9:=n0_;have HO_10:=n1_;have HO_12:=n2_;have BK151:=n3_;have HB:=n4_;have BK165:=n5_;have GW165:=n6_;have GE165:=n7_;have NB151_165:=n8_;have NB165_151:=n9_;clear n0_ n1_ n2_ n3_ n4_ n5_ n6_ n7_ n8_ n9_;clear hb hbox hg;have hnb51:=NB165_151.out;have hnc51:=NB151_165.out;have hcz52_0 : w50.cell? ⟨gb165,0,none⟩ = some (.int .i64 0):=(blk_cell BK165.out 0).trans rfl;have hcz52_1 : w50.cell? ⟨gb165,1,none⟩ = some (.int .i64 0):=(blk_cell BK165.out 1).trans rfl;have hcz52_2 : w50.cell? ⟨gb165,2,none⟩ = some (.int .i64 0):=(blk_cell BK165.out 2).trans rfl;have hfz52_0:=blk_frozen BK165.out 0;have hfz52_1:=blk_frozen BK165.out 1;have hfz52_2:=blk_frozen BK165.out 2))
                            have n0_ : Aside0 (Kd.R (Kd.int .i64) 3 (((w50.setCell ⟨gb165,0,none⟩ (.int .i64 ((rd_T85 l0_0 x13_3).f0))).setCell ⟨gb165,1,none⟩ (.int .i64 ((rd_T85 l0_0 x13_3).f1))).setCell ⟨gb165,2,none⟩ (.int .i64 ((rd_T85 l0_0 x13_3).f2))) w.heap.size (fun _=>True) u9 x9_16):=⟨by (with_reducible repeat (first|apply Kd.R_alloc|apply Kd.R_drewN|apply Kd.R_drew));exact Kd.R_mono (Kd.R_far (p:=⟨gb165,2,none⟩) (Kd.R_far (p:=⟨gb165,1,none⟩) (Kd.R_far (p:=⟨gb165,0,none⟩) (Kd.R_types HO_9.out BK165.out (by decide)) (fun _ hk=>hk.2) (.int .i64 ((rd_T85 l0_0 x13_3).f0))) (fun _ hk=>hk.2) (.int .i64 ((rd_T85 l0_0 x13_3).f1))) (fun _ hk=>hk.2) (.int .i64 ((rd_T85 l0_0 x13_3).f2))) (fun _ hk=>trivial)⟩
                            have n1_ : Aside0 (Kd.R Kd.bool 4 (((w50.setCell ⟨gb165,0,none⟩ (.int .i64 ((rd_T85 l0_0 x13_3).f0))).setCell ⟨gb165,1,none⟩ (.int .i64 ((rd_T85 l0_0 x13_3).f1))).setCell ⟨gb165,2,none⟩ (.int .i64 ((rd_T85 l0_0 x13_3).f2))) w.heap.size (fun k_=>some k_ ≠ (v162 : Value).ownBlock) (.slice (some ad157) t156.length co19) t156):=⟨by (with_reducible repeat (first|apply Kd.R_alloc|apply Kd.R_drewN|apply Kd.R_drew));exact Kd.R_mono (Kd.R_far (p:=⟨gb165,2,none⟩) (Kd.R_far (p:=⟨gb165,1,none⟩) (Kd.R_far (p:=⟨gb165,0,none⟩) (Kd.R_types HO_10.out BK165.out (by decide)) (fun _ hk=>hk.2) (.int .i64 ((rd_T85 l0_0 x13_3).f0))) (fun _ hk=>hk.2) (.int .i64 ((rd_T85 l0_0 x13_3).f1))) (fun _ hk=>hk.2) (.int .i64 ((rd_T85 l0_0 x13_3).f2))) (fun _ hk=>hk.1)⟩
                            have n2_ : Aside0 (Kd.R Kd.bool 4 (((w50.setCell ⟨gb165,0,none⟩ (.int .i64 ((rd_T85 l0_0 x13_3).f0))).setCell ⟨gb165,1,none⟩ (.int .i64 ((rd_T85 l0_0 x13_3).f1))).setCell ⟨gb165,2,none⟩ (.int .i64 ((rd_T85 l0_0 x13_3).f2))) w.heap.size (fun k_=>some k_ ≠ (.slice (some ad157) t156.length co19 : Value).ownBlock) v162 x12_3):=⟨by (with_reducible repeat (first|apply Kd.R_alloc|apply Kd.R_drewN|apply Kd.R_drew));exact Kd.R_mono (Kd.R_far (p:=⟨gb165,2,none⟩) (Kd.R_far (p:=⟨gb165,1,none⟩) (Kd.R_far (p:=⟨gb165,0,none⟩) (Kd.R_types HO_12.out BK165.out (by decide)) (fun _ hk=>hk.2) (.int .i64 ((rd_T85 l0_0 x13_3).f0))) (fun _ hk=>hk.2) (.int .i64 ((rd_T85 l0_0 x13_3).f1))) (fun _ hk=>hk.2) (.int .i64 ((rd_T85 l0_0 x13_3).f2))) (fun _ hk=>hk.1)⟩
                            have n3_ : Aside0 ((((w50.setCell ⟨gb165,0,none⟩ (.int .i64 ((rd_T85 l0_0 x13_3).f0))).setCell ⟨gb165,1,none⟩ (.int .i64 ((rd_T85 l0_0 x13_3).f1))).setCell ⟨gb165,2,none⟩ (.int .i64 ((rd_T85 l0_0 x13_3).f2))).heap[gb151]? = some (.cells #[.slice (some ad164) l0_0.length c0_0,.int .i64 a0_1] 59 (0,0))):=⟨by (with_reducible repeat (first|refine blk_drewN ?_ _|refine blk_drew ?_|refine blk_alloc ?_ _));refine blk_far ?_ NB151_165.out _;(with_reducible repeat (first|refine blk_drewN ?_ _|refine blk_drew ?_|refine blk_alloc ?_ _));refine blk_far ?_ NB151_165.out _;(with_reducible repeat (first|refine blk_drewN ?_ _|refine blk_drew ?_|refine blk_alloc ?_ _));refine blk_far ?_ NB151_165.out _;(with_reducible repeat (first|refine blk_drewN ?_ _|refine blk_drew ?_|refine blk_alloc ?_ _));exact BK151.out⟩
                            have n4_ : Aside0 ((((w50.setCell ⟨gb165,0,none⟩ (.int .i64 ((rd_T85 l0_0 x13_3).f0))).setCell ⟨gb165,1,none⟩ (.int .i64 ((rd_T85 l0_0 x13_3).f1))).setCell ⟨gb165,2,none⟩ (.int .i64 ((rd_T85 l0_0 x13_3).f2))).heap[gb165]? = some (.cells #[.int .i64 ((rd_T85 l0_0 x13_3).f0),.int .i64 ((rd_T85 l0_0 x13_3).f1),.int .i64 ((rd_T85 l0_0 x13_3).f2)] 85 (0,0))):=⟨by (with_reducible repeat (first|refine blk_drewN ?_ _|refine blk_drew ?_|refine blk_alloc ?_ _));refine blk_put (cs:=#[.int .i64 ((rd_T85 l0_0 x13_3).f0),.int .i64 ((rd_T85 l0_0 x13_3).f1),.int .i64 0]) ?_ 2 _ rfl;(with_reducible repeat (first|refine blk_drewN ?_ _|refine blk_drew ?_|refine blk_alloc ?_ _));refine blk_put (cs:=#[.int .i64 ((rd_T85 l0_0 x13_3).f0),.int .i64 0,.int .i64 0]) ?_ 1 _ rfl;(with_reducible repeat (first|refine blk_drewN ?_ _|refine blk_drew ?_|refine blk_alloc ?_ _));refine blk_put (cs:=#[.int .i64 0,.int .i64 0,.int .i64 0]) ?_ 0 _ rfl;(with_reducible repeat (first|refine blk_drewN ?_ _|refine blk_drew ?_|refine blk_alloc ?_ _));exact BK165.out⟩
                            have n5_ : Aside0 (Below w.heap.size w (((w50.setCell ⟨gb165,0,none⟩ (.int .i64 ((rd_T85 l0_0 x13_3).f0))).setCell ⟨gb165,1,none⟩ (.int .i64 ((rd_T85 l0_0 x13_3).f1))).setCell ⟨gb165,2,none⟩ (.int .i64 ((rd_T85 l0_0 x13_3).f2)))):=⟨by repeat (first|(with_reducible first|exact HB.out|apply below_alloc|apply pw_below_drewN|apply below_drew1|refine below_set ?_ GE151.out|refine below_set ?_ GE165.out)|exact HB.out)⟩
                            (try clear HO_9)
                            (try clear HO_10)
                            (try clear HO_12)
                            (try clear BK151)
                            (try clear BK165)
                            (try clear HB)
                            generalize (((w50.setCell ⟨gb165,0,none⟩ (.int .i64 ((rd_T85 l0_0 x13_3).f0))).setCell ⟨gb165,1,none⟩ (.int .i64 ((rd_T85 l0_0 x13_3).f1))).setCell ⟨gb165,2,none⟩ (.int .i64 ((rd_T85 l0_0 x13_3).f2))) = w53 at n0_ n1_ n2_ n3_ n4_ n5_ ⊢
                            have HO_9:=n0_
                            have HO_10:=n1_
                            have HO_12:=n2_
                            have BK151:=n3_
                            have BK165:=n4_
                            have HB:=n5_
                            clear n0_ n1_ n2_ n3_ n4_ n5_
                            have n0_:=Aside0.mk (Kd.R_drew HO_9.out)
                            have n1_:=Aside0.mk (Kd.R_drew HO_10.out)
                            have n2_:=Aside0.mk (Kd.R_drew HO_12.out)
                            have n3_:=Aside0.mk (blk_drew BK151.out)
                            have n4_:=Aside0.mk (blk_drew BK165.out)
                            have n5_:=Aside0.mk (below_drew1 HB.out)
                            clear HO_9
                            clear HO_10
                            clear HO_12
                            clear BK151
                            clear BK165
                            clear HB
                            have HO_9:=n0_
                            have HO_10:=n1_
                            have HO_12:=n2_
                            have BK151:=n3_
                            have BK165:=n4_
                            have HB:=n5_
                            clear n0_ n1_ n2_ n3_ n4_ n5_
                            have p166 : 0 ≤ (((rd_T85 l0_0 x13_3).f0) : Int):=of_decide_eq_true (by first|(with_reducible assumption)|assumption)
                            have q166 : ((rd_T85 l0_0 x13_3).f0) < (t156.length : Int):=of_decide_eq_true (by first|(with_reducible assumption)|assumption)
                            obtain ⟨ad166,e166,hx166_0⟩:=Kd.at_bool (Kd.R_reads' HO_10.out).2.2 ((rd_T85 l0_0 x13_3).f0) p166 q166
                            (try rw [← Nbq35.out] at hx166_0)
                            obtain rfl : ad157 = ad166:=(by injection e166)
                            replace p166:=eq_true p166
                            replace q166:=eq_true q166
                            have p167 : 0 ≤ (((rd_T85 l0_0 x13_3).f2) : Int):=of_decide_eq_true (by first|(with_reducible assumption)|assumption)
                            have q167 : ((rd_T85 l0_0 x13_3).f2) < (l1.length : Int):=of_decide_eq_true (by first|(with_reducible assumption)|assumption)
                            obtain ⟨ad167,A167_3,c167_3,e167,hx167_0,hx167_1,hx167_2,hx167_3,hl167_3,hi167_3⟩:=at_T49 HR1.out ((rd_T85 l0_0 x13_3).f2) p167 q167
                            have hw167_3:=hx167_3
                            have hw167_2:=hx167_2
                            have hw167_1:=hx167_1
                            have hw167_0:=hx167_0
                            (try rw [← Nbq35.out] at hx167_1)
                            cases e167
                            replace hx167_0:=(HB.out.cell (World.block_lt_of_cell? w _ hx167_0)).trans hx167_0
                            replace hx167_1:=(HB.out.cell (World.block_lt_of_cell? w _ hx167_1)).trans hx167_1
                            replace hx167_2:=(HB.out.cell (World.block_lt_of_cell? w _ hx167_2)).trans hx167_2
                            replace hx167_3:=(HB.out.cell (World.block_lt_of_cell? w _ hx167_3)).trans hx167_3
                            have HR167_3:=Aside0.mk hi167_3
                            have HC167_3:=Aside0.mk hl167_3
                            clear hi167_3 hl167_3
                            replace p167:=eq_true p167
                            replace q167:=eq_true q167
                            have p168 : 0 ≤ (((rd_T85 l0_0 x13_3).f2) : Int):=of_decide_eq_true (by first|(with_reducible assumption)|assumption)
                            have q168 : ((rd_T85 l0_0 x13_3).f2) < (l1.length : Int):=of_decide_eq_true (by first|(with_reducible assumption)|assumption)
                            obtain ⟨ad168,A168_3,c168_3,e168,hx168_0,hx168_1,hx168_2,hx168_3,hl168_3,hi168_3⟩:=at_T49 HR1.out ((rd_T85 l0_0 x13_3).f2) p168 q168
                            have hw168_3:=hx168_3
                            have hw168_2:=hx168_2
                            have hw168_1:=hx168_1
                            have hw168_0:=hx168_0
                            (try rw [← Nbq35.out] at hx168_1)
                            obtain rfl : ad167 = ad168:=(by injection e168)
                            replace hx168_0:=(HB.out.cell (World.block_lt_of_cell? w _ hx168_0)).trans hx168_0
                            replace hx168_1:=(HB.out.cell (World.block_lt_of_cell? w _ hx168_1)).trans hx168_1
                            replace hx168_2:=(HB.out.cell (World.block_lt_of_cell? w _ hx168_2)).trans hx168_2
                            replace hx168_3:=(HB.out.cell (World.block_lt_of_cell? w _ hx168_3)).trans hx168_3
                            have HR168_3:=Aside0.mk hi168_3
                            have HC168_3:=Aside0.mk hl168_3
                            clear hi168_3 hl168_3
                            replace p168:=eq_true p168
                            replace q168:=eq_true q168
                            have ea_:=Option.some.inj (hx167_3.symm.trans hx168_3)
                            injection ea_ with ea_ en_ ec_
                            subst ea_
                            subst ec_
                            clear en_
                            have p43 : 0 ≤ (x11_1 : Int):=of_decide_eq_true (by first|(with_reducible assumption)|assumption)
                            have q43 : x11_1 < (a2.size : Int):=of_decide_eq_true (by first|(with_reducible assumption)|assumption)
                            have hx43:=bt_at a2 x11_1
                            replace p43:=eq_true p43
                            replace q43:=eq_true q43
                            refine start_ (n:=30) (S:=fun w'=>w'.cell? ⟨gb165,0,none⟩ = some (.int .i64 ((rd_T85 l0_0 x13_3).f0)) ∧ w'.cell? ⟨gb165,1,none⟩ = some (.int .i64 ((rd_T85 l0_0 x13_3).f1)) ∧ w'.cell? ⟨gb165,2,none⟩ = some (.int .i64 ((rd_T85 l0_0 x13_3).f2)) ∧ w'.cell? (ad157.add (((rd_T85 l0_0 x13_3).f0)).toNat) = some (.bool true) ∧ w'.cell? (ad167.add ((((rd_T85 l0_0 x13_3).f2)).toNat * 4)) = some (.int .i64 ((rd_T49 l1 ((rd_T85 l0_0 x13_3).f2)).f0)) ∧ w'.cell? ⟨(ad167.add ((((rd_T85 l0_0 x13_3).f2)).toNat * 4)).block,(ad167.add ((((rd_T85 l0_0 x13_3).f2)).toNat * 4)).off + 1,none⟩ = some (.bool ((rd_T49 l1 ((rd_T85 l0_0 x13_3).f2)).f1)) ∧ w'.cell? ⟨(ad167.add ((((rd_T85 l0_0 x13_3).f2)).toNat * 4)).block,(ad167.add ((((rd_T85 l0_0 x13_3).f2)).toNat * 4)).off + 2,none⟩ = some (.string ((rd_T49 l1 ((rd_T85 l0_0 x13_3).f2)).f2)) ∧ w'.cell? ⟨(ad167.add ((((rd_T85 l0_0 x13_3).f2)).toNat * 4)).block,(ad167.add ((((rd_T85 l0_0 x13_3).f2)).toNat * 4)).off + 3,none⟩ = some (.slice A167_3 ((rd_T49 l1 ((rd_T85 l0_0 x13_3).f2)).f3).length c167_3) ∧ w'.cell? (ad167.add ((((rd_T85 l0_0 x13_3).f2)).toNat * 4)) = some (.int .i64 ((rd_T49 l1 ((rd_T85 l0_0 x13_3).f2)).f0)) ∧ w'.cell? ⟨(ad167.add ((((rd_T85 l0_0 x13_3).f2)).toNat * 4)).block,(ad167.add ((((rd_T85 l0_0 x13_3).f2)).toNat * 4)).off + 1,none⟩ = some (.bool ((rd_T49 l1 ((rd_T85 l0_0 x13_3).f2)).f1)) ∧ w'.cell? ⟨(ad167.add ((((rd_T85 l0_0 x13_3).f2)).toNat * 4)).block,(ad167.add ((((rd_T85 l0_0 x13_3).f2)).toNat * 4)).off + 2,none⟩ = some (.string ((rd_T49 l1 ((rd_T85 l0_0 x13_3).f2)).f2)) ∧ w'.cell? ⟨(ad167.add ((((rd_T85 l0_0 x13_3).f2)).toNat * 4)).block,(ad167.add ((((rd_T85 l0_0 x13_3).f2)).toNat * 4)).off + 3,none⟩ = some (.slice A167_3 ((rd_T49 l1 ((rd_T85 l0_0 x13_3).f2)).f3).length c167_3)) (ds:=[]) #[false,false,false,false,false,false,false,false,false,false,false,false,false,false,false,false,false,false,false,false,false,false,false,false,false,false,false,false,false,false] (by kernel_rfl) rfl rfl ⟨(blk_cell BK165.out 0).trans rfl,(blk_cell BK165.out 1).trans rfl,(blk_cell BK165.out 2).trans rfl,hx166_0,((HB.out.cell (World.block_lt_of_cell? w _ hw167_0)).trans hw167_0),((HB.out.cell (World.block_lt_of_cell? w _ hw167_1)).trans hw167_1),((HB.out.cell (World.block_lt_of_cell? w _ hw167_2)).trans hw167_2),((HB.out.cell (World.block_lt_of_cell? w _ hw167_3)).trans hw167_3),((HB.out.cell (World.block_lt_of_cell? w _ hw168_0)).trans hw168_0),((HB.out.cell (World.block_lt_of_cell? w _ hw168_1)).trans hw168_1),((HB.out.cell (World.block_lt_of_cell? w _ hw168_2)).trans hw168_2),((HB.out.cell (World.block_lt_of_cell? w _ hw168_3)).trans hw168_3)⟩ (fun hHeld=>?_);refine with_tabW spec_l2ends.tab16 spec_l2ends.bits16 (fun HT_ HW_=>?_)
                            generalize w53.drew = w54 at HO_9 HO_10 HO_12 BK151 BK165 HB HR167_3 HR168_3 hx166_0 hx167_0 hx167_1 hx167_2 hx167_3 hx168_0 hx168_1 hx168_2 hx168_3 hHeld ⊢
                            refine pure_ (i:=0) (N:=some 56) (v:=?_) (a':=?_) #[true,false,false,false,false,false,false,false,false,false,false,false,false,false,false,false,false,false,false,false,false,false,false,false,false,false,false,false,false,false] rfl rfl (any_of HT_.out (by kernel_rfl)) (fun _ _ _ h=>h) (Or.inl ⟨by rfl,?_⟩) ?_ ?_
                            rotate_left
                            ·intro w'
                             go_simp
                             first|with_reducible rfl|(rw [if_neg (by simp only [ByteArray.size_append,ByteArray.size_extract,eq_iff_iff,iff_true,iff_false] at *;omega)];try with_reducible rfl)
                            rotate_left
                            ·simp only [Act.put,List.setIfInBounds_toArray,List.set_cons_zero,List.set_cons_succ,i64_w,i32_w]
                             rfl
                            refine pure_ (i:=1) (N:=some 57) (v:=?_) (a':=?_) #[true,true,false,false,false,false,false,false,false,false,false,false,false,false,false,false,false,false,false,false,false,false,false,false,false,false,false,false,false,false] rfl rfl (any_of HT_.out (by kernel_rfl)) (fun _ _ _ h=>h) (Or.inl ⟨by rfl,?_⟩) ?_ ?_
                            rotate_left
                            ·intro w'
                             go_simp
                             first|with_reducible rfl|(rw [if_neg (by simp only [ByteArray.size_append,ByteArray.size_extract,eq_iff_iff,iff_true,iff_false] at *;omega)];try with_reducible rfl)
                            rotate_left
                            ·simp only [Act.put,List.setIfInBounds_toArray,List.set_cons_zero,List.set_cons_succ,i64_w,i32_w]
                             rfl
                            refine take_ (i:=2) (N:=some 58) (v:=?_) (a':=?_) #[true,true,true,false,false,false,false,false,false,false,false,false,false,false,false,false,false,false,false,false,false,false,false,false,false,false,false,false,false,false] rfl rfl (take_ofW HT_.out HW_.out (by kernel_rfl)) (fun _ _ _ h=>h) (Or.inl ⟨by rfl,?_⟩) hHeld ?_ ?_
                            rotate_left
                            ·rintro w' ⟨s0,s1,s2,s3,s4,s5,s6,s7,s8,s9,s10,s11⟩
                             go_simp
                             first|with_reducible rfl|(rw [if_neg (by simp only [ByteArray.size_append,ByteArray.size_extract,eq_iff_iff,iff_true,iff_false] at *;omega)];try with_reducible rfl)
                            rotate_left
                            ·simp only [Act.put,List.setIfInBounds_toArray,List.set_cons_zero,List.set_cons_succ,i64_w,i32_w]
                             rfl
                            refine pure_ (i:=3) (N:=some 59) (v:=?_) (a':=?_) #[true,true,true,true,false,false,false,false,false,false,false,false,false,false,false,false,false,false,false,false,false,false,false,false,false,false,false,false,false,false] rfl rfl (any_of HT_.out (by kernel_rfl)) (fun _ _ _ h=>h) (Or.inl ⟨by rfl,?_⟩) ?_ ?_
                            rotate_left
                            ·intro w'
                             go_simp
                             first|with_reducible rfl|(rw [if_neg (by simp only [ByteArray.size_append,ByteArray.size_extract,eq_iff_iff,iff_true,iff_false] at *;omega)];try with_reducible rfl)
                            rotate_left
                            ·simp only [Act.put,List.setIfInBounds_toArray,List.set_cons_zero,List.set_cons_succ,i64_w,i32_w]
                             rfl
                            refine take_ (i:=4) (N:=some 60) (v:=?_) (a':=?_) #[true,true,true,true,true,false,false,false,false,false,false,false,false,false,false,false,false,false,false,false,false,false,false,false,false,false,false,false,false,false] rfl rfl (take_ofW HT_.out HW_.out (by kernel_rfl)) (fun _ _ _ h=>h) (Or.inl ⟨by rfl,?_⟩) hHeld ?_ ?_
                            rotate_left
                            ·rintro w' ⟨s0,s1,s2,s3,s4,s5,s6,s7,s8,s9,s10,s11⟩
                             go_simp
                             first|with_reducible rfl|(rw [if_neg (by simp only [ByteArray.size_append,ByteArray.size_extract,eq_iff_iff,iff_true,iff_false] at *;omega)];try with_reducible rfl)
                            rotate_left
                            ·simp only [Act.put,List.setIfInBounds_toArray,List.set_cons_zero,List.set_cons_succ,i64_w,i32_w]
                             rfl
                            refine pure_ (i:=5) (N:=some 61) (v:=?_) (a':=?_) #[true,true,true,true,true,true,false,false,false,false,false,false,false,false,false,false,false,false,false,false,false,false,false,false,false,false,false,false,false,false] rfl rfl (any_of HT_.out (by kernel_rfl)) (fun _ _ _ h=>h) (Or.inl ⟨by rfl,?_⟩) ?_ ?_
                            rotate_left
                            ·intro w'
                             go_simp
                             first|with_reducible rfl|(rw [if_neg (by simp only [ByteArray.size_append,ByteArray.size_extract,eq_iff_iff,iff_true,iff_false] at *;omega)];try with_reducible rfl)
                            rotate_left
                            ·simp only [Act.put,List.setIfInBounds_toArray,List.set_cons_zero,List.set_cons_succ,i64_w,i32_w]
                             rfl
                            refine pure_ (i:=6) (N:=some 62) (v:=?_) (a':=?_) #[true,true,true,true,true,true,true,false,false,false,false,false,false,false,false,false,false,false,false,false,false,false,false,false,false,false,false,false,false,false] rfl rfl (any_of HT_.out (by kernel_rfl)) (fun _ _ _ h=>h) (Or.inl ⟨by rfl,?_⟩) ?_ ?_
                            rotate_left
                            ·intro w'
                             go_simp
                             first|with_reducible rfl|(rw [if_neg (by simp only [ByteArray.size_append,ByteArray.size_extract,eq_iff_iff,iff_true,iff_false] at *;omega)];try with_reducible rfl)
                            rotate_left
                            ·simp only [Act.put,List.setIfInBounds_toArray,List.set_cons_zero,List.set_cons_succ,i64_w,i32_w]
                             rfl
                            refine take_ (i:=7) (N:=some 63) (v:=?_) (a':=?_) #[true,true,true,true,true,true,true,true,false,false,false,false,false,false,false,false,false,false,false,false,false,false,false,false,false,false,false,false,false,false] rfl rfl (take_ofW HT_.out HW_.out (by kernel_rfl)) (fun _ _ _ h=>h) (Or.inl ⟨by rfl,?_⟩) hHeld ?_ ?_
                            rotate_left
                            ·rintro w' ⟨s0,s1,s2,s3,s4,s5,s6,s7,s8,s9,s10,s11⟩
                             go_simp
                             first|with_reducible rfl|(rw [if_neg (by simp only [ByteArray.size_append,ByteArray.size_extract,eq_iff_iff,iff_true,iff_false] at *;omega)];try with_reducible rfl)
                            rotate_left
                            ·simp only [Act.put,List.setIfInBounds_toArray,List.set_cons_zero,List.set_cons_succ,i64_w,i32_w]
                             rfl
                            refine pure_ (i:=8) (N:=some 64) (v:=?_) (a':=?_) #[true,true,true,true,true,true,true,true,true,false,false,false,false,false,false,false,false,false,false,false,false,false,false,false,false,false,false,false,false,false] rfl rfl (any_of HT_.out (by kernel_rfl)) (fun _ _ _ h=>h) (Or.inl ⟨by rfl,?_⟩) ?_ ?_
                            rotate_left
                            ·intro w'
                             go_simp
                             first|with_reducible rfl|(rw [if_neg (by simp only [ByteArray.size_append,ByteArray.size_extract,eq_iff_iff,iff_true,iff_false] at *;omega)];try with_reducible rfl)
                            rotate_left
                            ·simp only [Act.put,List.setIfInBounds_toArray,List.set_cons_zero,List.set_cons_succ,i64_w,i32_w]
                             rfl
                            refine pure_ (i:=9) (N:=some 65) (v:=?_) (a':=?_) #[true,true,true,true,true,true,true,true,true,true,false,false,false,false,false,false,false,false,false,false,false,false,false,false,false,false,false,false,false,false] rfl rfl (any_of HT_.out (by kernel_rfl)) (fun _ _ _ h=>h) (Or.inl ⟨by rfl,?_⟩) ?_ ?_
                            rotate_left
                            ·intro w'
                             go_simp
                             first|with_reducible rfl|(rw [if_neg (by simp only [ByteArray.size_append,ByteArray.size_extract,eq_iff_iff,iff_true,iff_false] at *;omega)];try with_reducible rfl)
                            rotate_left
                            ·simp only [Act.put,List.setIfInBounds_toArray,List.set_cons_zero,List.set_cons_succ,i64_w,i32_w]
                             rfl
                            refine pure_ (i:=10) (N:=some 66) (v:=?_) (a':=?_) #[true,true,true,true,true,true,true,true,true,true,true,false,false,false,false,false,false,false,false,false,false,false,false,false,false,false,false,false,false,false] rfl rfl (any_of HT_.out (by kernel_rfl)) (fun _ _ _ h=>h) (Or.inl ⟨by rfl,?_⟩) ?_ ?_
                            rotate_left
                            ·intro w'
                             go_simp
                             first|with_reducible rfl|(rw [if_neg (by simp only [ByteArray.size_append,ByteArray.size_extract,eq_iff_iff,iff_true,iff_false] at *;omega)];try with_reducible rfl)
                            rotate_left
                            ·simp only [Act.put,List.setIfInBounds_toArray,List.set_cons_zero,List.set_cons_succ,i64_w,i32_w]
                             rfl
                            refine pure_ (i:=11) (N:=some 67) (v:=?_) (a':=?_) #[true,true,true,true,true,true,true,true,true,true,true,true,false,false,false,false,false,false,false,false,false,false,false,false,false,false,false,false,false,false] rfl rfl (any_of HT_.out (by kernel_rfl)) (fun _ _ _ h=>h) (Or.inl ⟨by rfl,?_⟩) ?_ ?_
                            rotate_left
                            ·intro w'
                             go_simp
                             first|with_reducible rfl|(rw [if_neg (by simp only [ByteArray.size_append,ByteArray.size_extract,eq_iff_iff,iff_true,iff_false] at *;omega)];try with_reducible rfl)
                            rotate_left
                            ·simp only [Act.put,List.setIfInBounds_toArray,List.set_cons_zero,List.set_cons_succ,i64_w,i32_w]
                             rfl
                            refine pure_ (i:=12) (N:=some 68) (v:=?_) (a':=?_) #[true,true,true,true,true,true,true,true,true,true,true,true,true,false,false,false,false,false,false,false,false,false,false,false,false,false,false,false,false,false] rfl rfl (any_of HT_.out (by kernel_rfl)) (fun _ _ _ h=>h) (Or.inl ⟨by rfl,?_⟩) ?_ ?_
                            rotate_left
                            ·intro w'
                             go_simp
                             first|with_reducible rfl|(rw [if_neg (by simp only [ByteArray.size_append,ByteArray.size_extract,eq_iff_iff,iff_true,iff_false] at *;omega)];try with_reducible rfl)
                            rotate_left
                            ·simp only [Act.put,List.setIfInBounds_toArray,List.set_cons_zero,List.set_cons_succ,i64_w,i32_w]
                             rfl
                            refine take_ (i:=13) (N:=some 69) (v:=?_) (a':=?_) #[true,true,true,true,true,true,true,true,true,true,true,true,true,true,false,false,false,false,false,false,false,false,false,false,false,false,false,false,false,false] rfl rfl (take_ofW HT_.out HW_.out (by kernel_rfl)) (fun _ _ _ h=>h) (Or.inl ⟨by rfl,?_⟩) hHeld ?_ ?_
                            rotate_left
                            ·rintro w' ⟨s0,s1,s2,s3,s4,s5,s6,s7,s8,s9,s10,s11⟩
                             go_simp
                             first|with_reducible rfl|(rw [if_neg (by simp only [ByteArray.size_append,ByteArray.size_extract,eq_iff_iff,iff_true,iff_false] at *;omega)];try with_reducible rfl)
                            rotate_left
                            ·simp only [Act.put,List.setIfInBounds_toArray,List.set_cons_zero,List.set_cons_succ,i64_w,i32_w]
                             rfl
                            refine pure_ (i:=14) (N:=some 70) (v:=?_) (a':=?_) #[true,true,true,true,true,true,true,true,true,true,true,true,true,true,true,false,false,false,false,false,false,false,false,false,false,false,false,false,false,false] rfl rfl (any_of HT_.out (by kernel_rfl)) (fun _ _ _ h=>h) (Or.inl ⟨by rfl,?_⟩) ?_ ?_
                            rotate_left
                            ·intro w'
                             go_simp
                             first|with_reducible rfl|(rw [if_neg (by simp only [ByteArray.size_append,ByteArray.size_extract,eq_iff_iff,iff_true,iff_false] at *;omega)];try with_reducible rfl)
                            rotate_left
                            ·simp only [Act.put,List.setIfInBounds_toArray,List.set_cons_zero,List.set_cons_succ,i64_w,i32_w]
                             rfl
                            refine pure_ (i:=15) (N:=some 71) (v:=?_) (a':=?_) #[true,true,true,true,true,true,true,true,true,true,true,true,true,true,true,true,false,false,false,false,false,false,false,false,false,false,false,false,false,false] rfl rfl (any_of HT_.out (by kernel_rfl)) (fun _ _ _ h=>h) (Or.inl ⟨by rfl,?_⟩) ?_ ?_
                            rotate_left
                            ·intro w'
                             go_simp
                             first|with_reducible rfl|(rw [if_neg (by simp only [ByteArray.size_append,ByteArray.size_extract,eq_iff_iff,iff_true,iff_false] at *;omega)];try with_reducible rfl)
                            rotate_left
                            ·simp only [Act.put,List.setIfInBounds_toArray,List.set_cons_zero,List.set_cons_succ,i64_w,i32_w]
                             rfl
                            refine take_ (i:=16) (N:=some 72) (v:=?_) (a':=?_) #[true,true,true,true,true,true,true,true,true,true,true,true,true,true,true,true,true,false,false,false,false,false,false,false,false,false,false,false,false,false] rfl rfl (take_ofW HT_.out HW_.out (by kernel_rfl)) (fun _ _ _ h=>h) (Or.inl ⟨by rfl,?_⟩) hHeld ?_ ?_
                            rotate_left
                            ·rintro w' ⟨s0,s1,s2,s3,s4,s5,s6,s7,s8,s9,s10,s11⟩
                             go_simp
                             first|with_reducible rfl|(rw [if_neg (by simp only [ByteArray.size_append,ByteArray.size_extract,eq_iff_iff,iff_true,iff_false] at *;omega)];try with_reducible rfl)
                            rotate_left
                            ·simp only [Act.put,List.setIfInBounds_toArray,List.set_cons_zero,List.set_cons_succ,i64_w,i32_w]
                             rfl
                            refine pure_ (i:=17) (N:=some 73) (v:=?_) (a':=?_) #[true,true,true,true,true,true,true,true,true,true,true,true,true,true,true,true,true,true,false,false,false,false,false,false,false,false,false,false,false,false] rfl rfl (any_of HT_.out (by kernel_rfl)) (fun _ _ _ h=>h) (Or.inl ⟨by rfl,?_⟩) ?_ ?_
                            rotate_left
                            ·intro w'
                             go_simp
                             first|with_reducible rfl|(rw [if_neg (by simp only [ByteArray.size_append,ByteArray.size_extract,eq_iff_iff,iff_true,iff_false] at *;omega)];try with_reducible rfl)
                            rotate_left
                            ·simp only [Act.put,List.setIfInBounds_toArray,List.set_cons_zero,List.set_cons_succ,i64_w,i32_w]
                             rfl
                            refine pure_ (i:=18) (N:=some 74) (v:=?_) (a':=?_) #[true,true,true,true,true,true,true,true,true,true,true,true,true,true,true,true,true,true,true,false,false,false,false,false,false,false,false,false,false,false] rfl rfl (any_of HT_.out (by kernel_rfl)) (fun _ _ _ h=>h) (Or.inl ⟨by rfl,?_⟩) ?_ ?_
                            rotate_left
                            ·intro w'
                             go_simp
                             first|with_reducible rfl|(rw [if_neg (by simp only [ByteArray.size_append,ByteArray.size_extract,eq_iff_iff,iff_true,iff_false] at *;omega)];try with_reducible rfl)
                            rotate_left
                            ·simp only [Act.put,List.setIfInBounds_toArray,List.set_cons_zero,List.set_cons_succ,i64_w,i32_w]
                             rfl
                            refine pure_ (i:=19) (N:=some 75) (v:=?_) (a':=?_) #[true,true,true,true,true,true,true,true,true,true,true,true,true,true,true,true,true,true,true,true,false,false,false,false,false,false,false,false,false,false] rfl rfl (any_of HT_.out (by kernel_rfl)) (fun _ _ _ h=>h) (Or.inl ⟨by rfl,?_⟩) ?_ ?_
                            rotate_left
                            ·intro w'
                             go_simp
                             first|with_reducible rfl|(rw [if_neg (by simp only [ByteArray.size_append,ByteArray.size_extract,eq_iff_iff,iff_true,iff_false] at *;omega)];try with_reducible rfl)
                            rotate_left
                            ·simp only [Act.put,List.setIfInBounds_toArray,List.set_cons_zero,List.set_cons_succ,i64_w,i32_w]
                             rfl
                            refine pure_ (i:=20) (N:=some 76) (v:=?_) (a':=?_) #[true,true,true,true,true,true,true,true,true,true,true,true,true,true,true,true,true,true,true,true,true,false,false,false,false,false,false,false,false,false] rfl rfl (any_of HT_.out (by kernel_rfl)) (fun _ _ _ h=>h) (Or.inl ⟨by rfl,?_⟩) ?_ ?_
                            rotate_left
                            ·intro w'
                             go_simp
                             first|with_reducible rfl|(rw [if_neg (by simp only [ByteArray.size_append,ByteArray.size_extract,eq_iff_iff,iff_true,iff_false] at *;omega)];try with_reducible rfl)
                            rotate_left
                            ·simp only [Act.put,List.setIfInBounds_toArray,List.set_cons_zero,List.set_cons_succ,i64_w,i32_w]
                             rfl
                            refine pure_ (i:=21) (N:=some 77) (v:=?_) (a':=?_) #[true,true,true,true,true,true,true,true,true,true,true,true,true,true,true,true,true,true,true,true,true,true,false,false,false,false,false,false,false,false] rfl rfl (any_of HT_.out (by kernel_rfl)) (fun _ _ _ h=>h) (Or.inl ⟨by rfl,?_⟩) ?_ ?_
                            rotate_left
                            ·intro w'
                             go_simp
                             first|with_reducible rfl|(rw [if_neg (by simp only [ByteArray.size_append,ByteArray.size_extract,eq_iff_iff,iff_true,iff_false] at *;omega)];try with_reducible rfl)
                            rotate_left
                            ·simp only [Act.put,List.setIfInBounds_toArray,List.set_cons_zero,List.set_cons_succ,i64_w,i32_w]
                             rfl
                            refine pure_ (i:=25) (N:=some 81) (v:=?_) (a':=?_) #[true,true,true,true,true,true,true,true,true,true,true,true,true,true,true,true,true,true,true,true,true,true,false,false,false,true,false,false,false,false] rfl rfl (any_of HT_.out (by kernel_rfl)) (fun _ _ _ h=>h) (Or.inl ⟨by rfl,?_⟩) ?_ ?_
                            rotate_left
                            ·intro w'
                             go_simp
                             first|with_reducible rfl|(rw [if_neg (by simp only [ByteArray.size_append,ByteArray.size_extract,eq_iff_iff,iff_true,iff_false] at *;omega)];try with_reducible rfl)
                            rotate_left
                            ·simp only [Act.put,List.setIfInBounds_toArray,List.set_cons_zero,List.set_cons_succ,i64_w,i32_w]
                             rfl
                            refine pure_ (i:=26) (N:=some 82) (v:=?_) (a':=?_) #[true,true,true,true,true,true,true,true,true,true,true,true,true,true,true,true,true,true,true,true,true,true,false,false,false,true,true,false,false,false] rfl rfl (any_of HT_.out (by kernel_rfl)) (fun _ _ _ h=>h) (Or.inl ⟨by rfl,?_⟩) ?_ ?_
                            rotate_left
                            ·intro w'
                             go_simp
                             first|with_reducible rfl|(rw [if_neg (by simp only [ByteArray.size_append,ByteArray.size_extract,eq_iff_iff,iff_true,iff_false] at *;omega)];try with_reducible rfl)
                            rotate_left
                            ·simp only [Act.put,List.setIfInBounds_toArray,List.set_cons_zero,List.set_cons_succ,i64_w,i32_w]
                             rfl
                            refine take_ (i:=22) (N:=some 78) (v:=?_) (a':=?_) #[true,true,true,true,true,true,true,true,true,true,true,true,true,true,true,true,true,true,true,true,true,true,true,false,false,true,true,false,false,false] rfl rfl (take_ofW HT_.out HW_.out (by kernel_rfl)) (fun _ _ _ h=>h) (Or.inl ⟨by rfl,?_⟩) hHeld ?_ ?_
                            rotate_left
                            ·rintro w' ⟨s0,s1,s2,s3,s4,s5,s6,s7,s8,s9,s10,s11⟩
                             go_simp
                             first|with_reducible rfl|(rw [if_neg (by simp only [ByteArray.size_append,ByteArray.size_extract,eq_iff_iff,iff_true,iff_false] at *;omega)];try with_reducible rfl)
                            rotate_left
                            ·simp only [Act.put,List.setIfInBounds_toArray,List.set_cons_zero,List.set_cons_succ,i64_w,i32_w]
                             rfl
                            refine pure_ (i:=23) (N:=some 79) (v:=?_) (a':=?_) #[true,true,true,true,true,true,true,true,true,true,true,true,true,true,true,true,true,true,true,true,true,true,true,true,false,true,true,false,false,false] rfl rfl (any_of HT_.out (by kernel_rfl)) (fun _ _ _ h=>h) (Or.inl ⟨by rfl,?_⟩) ?_ ?_
                            rotate_left
                            ·intro w'
                             go_simp
                             first|with_reducible rfl|(rw [if_neg (by simp only [ByteArray.size_append,ByteArray.size_extract,eq_iff_iff,iff_true,iff_false] at *;omega)];try with_reducible rfl)
                            rotate_left
                            ·simp only [Act.put,List.setIfInBounds_toArray,List.set_cons_zero,List.set_cons_succ,i64_w,i32_w]
                             rfl
                            refine take_ (i:=24) (N:=some 80) (v:=?_) (a':=?_) #[true,true,true,true,true,true,true,true,true,true,true,true,true,true,true,true,true,true,true,true,true,true,true,true,true,true,true,false,false,false] rfl rfl (take_ofW HT_.out HW_.out (by kernel_rfl)) (fun _ _ _ h=>h) (Or.inl ⟨by rfl,?_⟩) hHeld ?_ ?_
                            rotate_left
                            ·rintro w' ⟨s0,s1,s2,s3,s4,s5,s6,s7,s8,s9,s10,s11⟩
                             go_simp
                             first|with_reducible rfl|(rw [if_neg (by simp only [ByteArray.size_append,ByteArray.size_extract,eq_iff_iff,iff_true,iff_false] at *;omega)];try with_reducible rfl)
                            rotate_left
                            ·simp only [Act.put,List.setIfInBounds_toArray,List.set_cons_zero,List.set_cons_succ,i64_w,i32_w]
                             rfl
                            refine take_ (i:=27) (N:=some 83) (v:=?_) (a':=?_) #[true,true,true,true,true,true,true,true,true,true,true,true,true,true,true,true,true,true,true,true,true,true,true,true,true,true,true,true,false,false] rfl rfl (take_ofW HT_.out HW_.out (by kernel_rfl)) (fun _ _ _ h=>h) (Or.inl ⟨by rfl,?_⟩) hHeld ?_ ?_
                            rotate_left
                            ·rintro w' ⟨s0,s1,s2,s3,s4,s5,s6,s7,s8,s9,s10,s11⟩
                             go_simp
                             first|with_reducible rfl|(rw [if_neg (by simp only [ByteArray.size_append,ByteArray.size_extract,eq_iff_iff,iff_true,iff_false] at *;omega)];try with_reducible rfl)
                            rotate_left
                            ·simp only [Act.put,List.setIfInBounds_toArray,List.set_cons_zero,List.set_cons_succ,i64_w,i32_w]
                             rfl
                            refine one_ (i:=28) (N:=some 84) #[true,true,true,true,true,true,true,true,true,true,true,true,true,true,true,true,true,true,true,true,true,true,true,true,true,true,true,true,true,false] rfl rfl (one_of HT_.out (by kernel_rfl)) (by decide) (fun K hK=>?_)
                            refine goes_ Tryd.func58 (by kernel_rfl) rfl #[.agg #[.int .i64 ((rd_T49 l1 ((rd_T85 l0_0 x13_3).f2)).f0),.bool ((rd_T49 l1 ((rd_T85 l0_0 x13_3).f2)).f1),.string ((rd_T49 l1 ((rd_T85 l0_0 x13_3).f2)).f2),.slice A167_3 ((rd_T49 l1 ((rd_T85 l0_0 x13_3).f2)).f3).length c167_3],.int .u8 (bt a2 x11_1)] (by rfl) rfl rfl (by (try simp only [List.map_toArray,List.map_cons,List.map_nil]);first|done|rfl|(simp only [List.length_drop,List.length_take];rfl)) ?_
                            with_reducible refine (spec_l2in.calls k3 ((rd_T49 l1 ((rd_T85 l0_0 x13_3).f2)).f0) ((rd_T49 l1 ((rd_T85 l0_0 x13_3).f2)).f1) ((rd_T49 l1 ((rd_T85 l0_0 x13_3).f2)).f2) _ _ ((rd_T49 l1 ((rd_T85 l0_0 x13_3).f2)).f3) (bt a2 x11_1) true _ ?side1 ?side2 A44.out).mono ?_
                            (case side1=>repeat (first|exact (Kd.C_below HR168_3.out HB.out)|(with_reducible refine Kd.C_alloc ?_ _)|(with_reducible refine Kd.C_drewN ?_ _)|(with_reducible refine Kd.C_drew ?_)))
                            (case side2=>exact HC168_3.out)
                            rintro e w55 ⟨rfl,hb⟩
                            have HS3_:=(hb.cell (World.block_lt_of_cell? _ _ (hHeld.2.2.2.1))).trans (hHeld.2.2.2.1)
                            refine ⟨_,rfl,?_⟩
                            have n0_:=Aside0.mk (Kd.R_below (by (with_reducible repeat (first|apply Kd.R_alloc|apply Kd.R_drewN|apply Kd.R_drew));exact HO_9.out) hb)
                            have n1_:=Aside0.mk (Kd.R_below (by (with_reducible repeat (first|apply Kd.R_alloc|apply Kd.R_drewN|apply Kd.R_drew));exact HO_10.out) hb)
                            have n2_:=Aside0.mk (Kd.R_below (by (with_reducible repeat (first|apply Kd.R_alloc|apply Kd.R_drewN|apply Kd.R_drew));exact HO_12.out) hb)
                            have n3_:=Aside0.mk (blk_below (g:=gb151) (o:=.cells #[.slice (some ad164) l0_0.length c0_0,.int .i64 a0_1] 59 (0,0)) (by (with_reducible repeat (first|refine blk_drewN ?_ _|refine blk_drew ?_|refine blk_alloc ?_ _));exact BK151.out) hb)
                            have n4_:=Aside0.mk (blk_below (g:=gb165) (o:=.cells #[.int .i64 ((rd_T85 l0_0 x13_3).f0),.int .i64 ((rd_T85 l0_0 x13_3).f1),.int .i64 ((rd_T85 l0_0 x13_3).f2)] 85 (0,0)) (by (with_reducible repeat (first|refine blk_drewN ?_ _|refine blk_drew ?_|refine blk_alloc ?_ _));exact BK165.out) hb)
                            have n5_:=Aside0.mk (below_step (by repeat (first|(with_reducible first|exact HB.out|apply below_alloc|apply pw_below_drewN|apply below_drew1|refine below_set ?_ GE151.out|refine below_set ?_ GE165.out)|exact HB.out)) hb)
                            clear HO_9
                            clear HO_10
                            clear HO_12
                            clear BK151
                            clear BK165
                            clear HB
                            have HO_9:=n0_
                            have HO_10:=n1_
                            have HO_12:=n2_
                            have BK151:=n3_
                            have BK165:=n4_
                            have HB:=n5_
                            clear n0_ n1_ n2_ n3_ n4_ n5_
                            (try clear hb)
                            (try clear hb2)
                            (try clear hk)
                            (try clear hi)
                            refine hK.out _ _ ⟨(blk_cell BK165.out 0).trans rfl,(blk_cell BK165.out 1).trans rfl,(blk_cell BK165.out 2).trans rfl,HS3_,((HB.out.cell (World.block_lt_of_cell? w _ hw167_0)).trans hw167_0),((HB.out.cell (World.block_lt_of_cell? w _ hw167_1)).trans hw167_1),((HB.out.cell (World.block_lt_of_cell? w _ hw167_2)).trans hw167_2),((HB.out.cell (World.block_lt_of_cell? w _ hw167_3)).trans hw167_3),((HB.out.cell (World.block_lt_of_cell? w _ hw168_0)).trans hw168_0),((HB.out.cell (World.block_lt_of_cell? w _ hw168_1)).trans hw168_1),((HB.out.cell (World.block_lt_of_cell? w _ hw168_2)).trans hw168_2),((HB.out.cell (World.block_lt_of_cell? w _ hw168_3)).trans hw168_3)⟩ (fun hHeld=>?_)
                            clear hK K
                            refine norm_ (a':=?_) ?_ ?_
                            rotate_left
                            ·show Act.put _ (some 84) _ = _
                             simp only [Act.put,List.setIfInBounds_toArray,List.set_cons_zero,List.set_cons_succ,i64_w,i32_w]
                             rfl
                            refine pure_ (i:=29) (N:=some 85) (v:=?_) (a':=?_) #[true,true,true,true,true,true,true,true,true,true,true,true,true,true,true,true,true,true,true,true,true,true,true,true,true,true,true,true,true,true] rfl rfl (any_of HT_.out (by kernel_rfl)) (fun _ _ _ h=>h) (Or.inl ⟨by rfl,?_⟩) ?_ ?_
                            rotate_left
                            ·intro w'
                             go_simp
                             first|with_reducible rfl|(rw [if_neg (by simp only [ByteArray.size_append,ByteArray.size_extract,eq_iff_iff,iff_true,iff_false] at *;omega)];try with_reducible rfl)
                            rotate_left
                            ·simp only [Act.put,List.setIfInBounds_toArray,List.set_cons_zero,List.set_cons_succ,i64_w,i32_w]
                             rfl
                            refine done_ (done_of HT_.out (by kernel_rfl)) ?_
                            have hcz56_0 : w55.cell? ⟨gb165,0,none⟩ = some (.int .i64 ((rd_T85 l0_0 x13_3).f0)):=(blk_cell BK165.out 0).trans rfl
                            have hcz56_1 : w55.cell? ⟨gb165,1,none⟩ = some (.int .i64 ((rd_T85 l0_0 x13_3).f1)):=(blk_cell BK165.out 1).trans rfl
                            have hcz56_2 : w55.cell? ⟨gb165,2,none⟩ = some (.int .i64 ((rd_T85 l0_0 x13_3).f2)):=(blk_cell BK165.out 2).trans rfl
                            have hfz56_0:=blk_frozen BK165.out 0
                            have hfz56_1:=blk_frozen BK165.out 1
                            have hfz56_2:=blk_frozen BK165.out 2
                            have p48 : 0 ≤ (((rd_T85 l0_0 x13_3).f1) : Int):=of_decide_eq_true (by first|(with_reducible assumption)|assumption)
                            have q48 : (((rd_T85 l0_0 x13_3).f1) : Int) < ((x12_3.length : Int) : Int):=of_decide_eq_true (by first|(with_reducible assumption)|assumption)
                            obtain ⟨go48,co48,eo48,gb48,gl48,cl48,HG48⟩:=Kd.R_form HO_12.out (by omega)
                            (first|cases eo48|(injection eo48 with ea_ en_ ec_;(first|subst ea_|(injection ea_ with ea_;subst ea_));subst ec_;clear en_))
                            have GB48:=Aside0.mk gb48
                            have GG48:=Aside0.mk HG48
                            clear gb48 gl48 HG48
                            obtain ⟨hx48_0,hf48_0⟩:=Kd.R_celln false HO_12.out (((rd_T85 l0_0 x13_3).f1) : Int) p48 q48
                            replace p48:=eq_true p48
                            replace q48:=eq_true q48
                            obtain ⟨hy57_,hz57_⟩:=Kd.R_celln false HO_12.out (((rd_T85 l0_0 x13_3).f1) : Int) (of_decide_eq_true (by first|(with_reducible assumption)|assumption)) (of_decide_eq_true (by first|(with_reducible assumption)|assumption))
                            have HP57:=Kd.R_putg HO_12.out (((rd_T85 l0_0 x13_3).f1) : Int) true
                            try go_wp2_with (first|((with_reducible refine gate_store (t:=4) (p:=89) rfl ?_);refine store_event (t:=4) (p:=89) (v:=?vo_w58) (w1:=(w55.setCell ⟨go48,(((rd_T85 l0_0 x13_3).f1) : Int).toNat,none⟩ (.bool true))) ?hg ?ho ?hn ?hr ?_;(case ho=>rfl);(case hg=>rfl);(case hn=>rfl);(case hr=>first|(go_simp;done)|(go_simp;rfl));intro w58 hw;have hg : w55.grownBy w58 (some go48):=(by rw [hw];exact HP57.2);have hp_ : Kd.R Kd.bool 4 w58 w.heap.size (fun k_=>some k_ ≠ (.slice (some ad157) t156.length co19 : Value).ownBlock) (.slice (some ⟨go48,0,none⟩) x12_3.length co48) y170:=(by rw [hw,Ny170.out];exact HP57.1);clear HP57;have n0_:=Aside0.mk (Kd.R_over' (v:=(.slice (some ⟨go48,0,none⟩) x12_3.length co48)) (by (with_reducible repeat (first|apply Kd.R_alloc|apply Kd.R_drewN|apply Kd.R_drew));exact HO_9.out) (Kd.R_typed HO_12.out) (by decide) hg);have n1_:=Aside0.mk (Kd.R_after (v:=(.slice (some ⟨go48,0,none⟩) x12_3.length co48)) (v1:=(.slice (some ⟨go48,0,none⟩) x12_3.length co48)) (ok:=(fun _=>True)) (by (with_reducible repeat (first|apply Kd.R_alloc|apply Kd.R_drewN|apply Kd.R_drew));exact Kd.R_mono HO_10.out (fun _ hk=>⟨trivial,hk⟩)) hg (.inl rfl));have n2_:=Aside0.mk (hp_);have n3_:=Aside0.mk (blk_grown (g:=gb151) (o:=.cells #[.slice (some ad164) l0_0.length c0_0,.int .i64 a0_1] 59 (0,0)) (by (with_reducible repeat (first|refine blk_drewN ?_ _|refine blk_drew ?_|refine blk_alloc ?_ _));exact BK151.out) hg (Kd.R_ne HO_12.out BK151.out (by decide)));have n4_:=Aside0.mk (blk_grown (g:=gb165) (o:=.cells #[.int .i64 ((rd_T85 l0_0 x13_3).f0),.int .i64 ((rd_T85 l0_0 x13_3).f1),.int .i64 ((rd_T85 l0_0 x13_3).f2)] 85 (0,0)) (by (with_reducible repeat (first|refine blk_drewN ?_ _|refine blk_drew ?_|refine blk_alloc ?_ _));exact BK165.out) hg (Kd.R_ne HO_12.out BK165.out (by decide)));have n5_:=Aside0.mk ((by rw [hw];exact below_set (HB.out) GB48.out : Below w.heap.size w w58));clear HO_9;clear HO_10;clear HO_12;clear BK151;clear BK165;clear HB;have HO_9:=n0_;have HO_10:=n1_;have HO_12:=n2_;have BK151:=n3_;have BK165:=n4_;have HB:=n5_;clear n0_ n1_ n2_ n3_ n4_ n5_;clear hg hw hp_))
                            go_roundg k3
                            case measure=>have:=HK1.out;have:=HJ16.out;have:=HK3.out;omega
                            case rel=>exact ⟨(y170),(wrap64 (x13_3 + 1)),(by first|rfl|(simp;done)|(simp [*];done)),H',⟨by have:=HK1.out;have:=HJ16.out;have:=HK3.out;omega⟩,⟨by (try simp only [hl10_16]);(with_reducible repeat (first|apply Kd.R_alloc|apply Kd.R_drewN|apply Kd.R_drew));exact HO_9.out⟩,⟨by (try simp only [hl10_16]);(with_reducible repeat (first|apply Kd.R_alloc|apply Kd.R_drewN|apply Kd.R_drew));exact Kd.R_mono HO_10.out (fun _ hk=>hk.2)⟩,⟨by (try simp only [hl10_16]);(with_reducible repeat (first|apply Kd.R_alloc|apply Kd.R_drewN|apply Kd.R_drew));exact HO_12.out⟩,⟨by (try simp only [hl10_16]);(with_reducible repeat (first|refine blk_drewN ?_ _|refine blk_drew ?_|refine blk_alloc ?_ _));exact BK151.out⟩,⟨by repeat (first|(with_reducible first|exact HB.out|apply below_alloc|apply pw_below_drewN|apply below_drew1|refine below_set ?_ GE151.out|refine below_set ?_ GE165.out)|exact HB.out)⟩⟩
                           ·rw [if_neg c47] at H
                            exact absurd H (by simp)
                          ·rw [if_neg c46] at H
                           exact absurd H (by simp)
                         ·replace c45:=Bool.eq_false_iff.mpr c45
                          subst c45
                          have H1 : (spec_l2ends.l1 k3 l1 a2 x9_16 t156 x11_1 x12_3 (wrap64 (x13_3 + 1)) l0_0 a0_1) = some r:=by rw [if_neg (show ¬ (false = true) by decide)] at H;exact H
                          clear H
                          have H:=H1
                          clear H1
                          have H':=Aside0.mk H
                          clear H
                          have hcz59_0 : wr.cell? ⟨gb151,0,none⟩ = some (.slice A0_0 l0_0.length c0_0):=(blk_cell BK151.out 0).trans rfl
                          have hcz59_1 : wr.cell? ⟨gb151,1,none⟩ = some (.int .i64 a0_1):=(blk_cell BK151.out 1).trans rfl
                          have hfz59_0:=blk_frozen BK151.out 0
                          have hfz59_1:=blk_frozen BK151.out 1
                          have p164 : 0 ≤ (x13_3 : Int):=of_decide_eq_true (by first|(with_reducible assumption)|assumption)
                          have q164 : x13_3 < (l0_0.length : Int):=of_decide_eq_true (by first|(with_reducible assumption)|assumption)
                          obtain ⟨ad164,e164,hx164_0,hx164_1,hx164_2⟩:=at_T85 HR0_0.out x13_3 p164 q164
                          cases e164
                          replace hx164_0:=(HB.out.cell (World.block_lt_of_cell? w _ hx164_0)).trans hx164_0
                          replace hx164_1:=(HB.out.cell (World.block_lt_of_cell? w _ hx164_1)).trans hx164_1
                          replace hx164_2:=(HB.out.cell (World.block_lt_of_cell? w _ hx164_2)).trans hx164_2
                          replace p164:=eq_true p164
                          replace q164:=eq_true q164
                          try go_wp2_with (first|((with_reducible refine gate_dst (N:=14) rfl ?_);refine box_event ?hg (N:=14) ?hd (cs:=#[.int .i64 0,.int .i64 0,.int .i64 0]) (t:=85) ?hr ?_;(case hd=>rfl);(case hg=>rfl);(case hr=>first|(go_simp;done)|(go_simp;rfl));intro gb165 hg w60 hbox hb;have n0_:=Aside0.mk (Kd.R_below (by (with_reducible repeat (first|apply Kd.R_alloc|apply Kd.R_drewN|apply Kd.R_drew));exact HO_9.out) hb);have n1_:=Aside0.mk (Kd.R_below (by (with_reducible repeat (first|apply Kd.R_alloc|apply Kd.R_drewN|apply Kd.R_drew));exact HO_10.out) hb);have n2_:=Aside0.mk (Kd.R_below (by (with_reducible repeat (first|apply Kd.R_alloc|apply Kd.R_drewN|apply Kd.R_drew));exact HO_12.out) hb);have n3_:=Aside0.mk (blk_below (g:=gb151) (o:=.cells #[.slice (some ad164) l0_0.length c0_0,.int .i64 a0_1] 59 (0,0)) (by (with_reducible repeat (first|refine blk_drewN ?_ _|refine blk_drew ?_|refine blk_alloc ?_ _));exact BK151.out) hb);have n4_:=Aside0.mk (below_step (by repeat (first|(with_reducible first|exact HB.out|apply below_alloc|apply pw_below_drewN|apply below_drew1|refine below_set ?_ GE151.out)|exact HB.out)) hb);have n5_:=Aside0.mk (hbox);have n6_:=Aside0.mk ((by rw [hg];exact (below_size (by repeat (first|(with_reducible first|exact HB.out|apply below_alloc|apply pw_below_drewN|apply below_drew1|refine below_set ?_ GE151.out)|exact HB.out))) : w.heap.size ≤ gb165));have n7_:=Aside0.mk ((by rw [hg];exact (below_size (by repeat (first|(with_reducible first|exact HB.out|apply below_alloc|apply pw_below_drewN|apply below_drew1|refine below_set ?_ GE151.out)|exact HB.out))) : w.heap.size ≤ gb165));have n8_:=Aside0.mk ((by rw [hg];exact Nat.ne_of_lt (blk_lt (g:=gb151) (o:=.cells #[.slice (some ad164) l0_0.length c0_0,.int .i64 a0_1] 59 (0,0)) (by (with_reducible repeat (first|refine blk_drewN ?_ _|refine blk_drew ?_|refine blk_alloc ?_ _));exact BK151.out)) : gb151 ≠ gb165));have n9_:=Aside0.mk ((by rw [hg];exact Nat.ne_of_gt (blk_lt (g:=gb151) (o:=.cells #[.slice (some ad164) l0_0.length c0_0,.int .i64 a0_1] 59 (0,0)) (by (with_reducible repeat (first|refine blk_drewN ?_ _|refine blk_drew ?_|refine blk_alloc ?_ _));exact BK151.out)) : gb165 ≠ gb151));clear HO_9;clear HO_10;clear HO_12;clear BK151;clear HB;have HO_9:=n0_;have HO_10:=n1_;have HO_12:=n2_;have BK151:=n3_;have HB:=n4_;have BK165:=n5_;have GW165:=n6_;have GE165:=n7_;have NB151_165:=n8_;have NB165_151:=n9_;clear n0_ n1_ n2_ n3_ n4_ n5_ n6_ n7_ n8_ n9_;clear hb hbox hg;have hnb61:=NB165_151.out;have hnc61:=NB151_165.out;have hcz62_0 : w60.cell? ⟨gb165,0,none⟩ = some (.int .i64 0):=(blk_cell BK165.out 0).trans rfl;have hcz62_1 : w60.cell? ⟨gb165,1,none⟩ = some (.int .i64 0):=(blk_cell BK165.out 1).trans rfl;have hcz62_2 : w60.cell? ⟨gb165,2,none⟩ = some (.int .i64 0):=(blk_cell BK165.out 2).trans rfl;have hfz62_0:=blk_frozen BK165.out 0;have hfz62_1:=blk_frozen BK165.out 1;have hfz62_2:=blk_frozen BK165.out 2))
                          have n0_ : Aside0 (Kd.R (Kd.int .i64) 3 (((w60.setCell ⟨gb165,0,none⟩ (.int .i64 ((rd_T85 l0_0 x13_3).f0))).setCell ⟨gb165,1,none⟩ (.int .i64 ((rd_T85 l0_0 x13_3).f1))).setCell ⟨gb165,2,none⟩ (.int .i64 ((rd_T85 l0_0 x13_3).f2))) w.heap.size (fun _=>True) u9 x9_16):=⟨by (with_reducible repeat (first|apply Kd.R_alloc|apply Kd.R_drewN|apply Kd.R_drew));exact Kd.R_mono (Kd.R_far (p:=⟨gb165,2,none⟩) (Kd.R_far (p:=⟨gb165,1,none⟩) (Kd.R_far (p:=⟨gb165,0,none⟩) (Kd.R_types HO_9.out BK165.out (by decide)) (fun _ hk=>hk.2) (.int .i64 ((rd_T85 l0_0 x13_3).f0))) (fun _ hk=>hk.2) (.int .i64 ((rd_T85 l0_0 x13_3).f1))) (fun _ hk=>hk.2) (.int .i64 ((rd_T85 l0_0 x13_3).f2))) (fun _ hk=>trivial)⟩
                          have n1_ : Aside0 (Kd.R Kd.bool 4 (((w60.setCell ⟨gb165,0,none⟩ (.int .i64 ((rd_T85 l0_0 x13_3).f0))).setCell ⟨gb165,1,none⟩ (.int .i64 ((rd_T85 l0_0 x13_3).f1))).setCell ⟨gb165,2,none⟩ (.int .i64 ((rd_T85 l0_0 x13_3).f2))) w.heap.size (fun k_=>some k_ ≠ (v162 : Value).ownBlock) (.slice (some ad157) t156.length co19) t156):=⟨by (with_reducible repeat (first|apply Kd.R_alloc|apply Kd.R_drewN|apply Kd.R_drew));exact Kd.R_mono (Kd.R_far (p:=⟨gb165,2,none⟩) (Kd.R_far (p:=⟨gb165,1,none⟩) (Kd.R_far (p:=⟨gb165,0,none⟩) (Kd.R_types HO_10.out BK165.out (by decide)) (fun _ hk=>hk.2) (.int .i64 ((rd_T85 l0_0 x13_3).f0))) (fun _ hk=>hk.2) (.int .i64 ((rd_T85 l0_0 x13_3).f1))) (fun _ hk=>hk.2) (.int .i64 ((rd_T85 l0_0 x13_3).f2))) (fun _ hk=>hk.1)⟩
                          have n2_ : Aside0 (Kd.R Kd.bool 4 (((w60.setCell ⟨gb165,0,none⟩ (.int .i64 ((rd_T85 l0_0 x13_3).f0))).setCell ⟨gb165,1,none⟩ (.int .i64 ((rd_T85 l0_0 x13_3).f1))).setCell ⟨gb165,2,none⟩ (.int .i64 ((rd_T85 l0_0 x13_3).f2))) w.heap.size (fun k_=>some k_ ≠ (.slice (some ad157) t156.length co19 : Value).ownBlock) v162 x12_3):=⟨by (with_reducible repeat (first|apply Kd.R_alloc|apply Kd.R_drewN|apply Kd.R_drew));exact Kd.R_mono (Kd.R_far (p:=⟨gb165,2,none⟩) (Kd.R_far (p:=⟨gb165,1,none⟩) (Kd.R_far (p:=⟨gb165,0,none⟩) (Kd.R_types HO_12.out BK165.out (by decide)) (fun _ hk=>hk.2) (.int .i64 ((rd_T85 l0_0 x13_3).f0))) (fun _ hk=>hk.2) (.int .i64 ((rd_T85 l0_0 x13_3).f1))) (fun _ hk=>hk.2) (.int .i64 ((rd_T85 l0_0 x13_3).f2))) (fun _ hk=>hk.1)⟩
                          have n3_ : Aside0 ((((w60.setCell ⟨gb165,0,none⟩ (.int .i64 ((rd_T85 l0_0 x13_3).f0))).setCell ⟨gb165,1,none⟩ (.int .i64 ((rd_T85 l0_0 x13_3).f1))).setCell ⟨gb165,2,none⟩ (.int .i64 ((rd_T85 l0_0 x13_3).f2))).heap[gb151]? = some (.cells #[.slice (some ad164) l0_0.length c0_0,.int .i64 a0_1] 59 (0,0))):=⟨by (with_reducible repeat (first|refine blk_drewN ?_ _|refine blk_drew ?_|refine blk_alloc ?_ _));refine blk_far ?_ NB151_165.out _;(with_reducible repeat (first|refine blk_drewN ?_ _|refine blk_drew ?_|refine blk_alloc ?_ _));refine blk_far ?_ NB151_165.out _;(with_reducible repeat (first|refine blk_drewN ?_ _|refine blk_drew ?_|refine blk_alloc ?_ _));refine blk_far ?_ NB151_165.out _;(with_reducible repeat (first|refine blk_drewN ?_ _|refine blk_drew ?_|refine blk_alloc ?_ _));exact BK151.out⟩
                          have n4_ : Aside0 ((((w60.setCell ⟨gb165,0,none⟩ (.int .i64 ((rd_T85 l0_0 x13_3).f0))).setCell ⟨gb165,1,none⟩ (.int .i64 ((rd_T85 l0_0 x13_3).f1))).setCell ⟨gb165,2,none⟩ (.int .i64 ((rd_T85 l0_0 x13_3).f2))).heap[gb165]? = some (.cells #[.int .i64 ((rd_T85 l0_0 x13_3).f0),.int .i64 ((rd_T85 l0_0 x13_3).f1),.int .i64 ((rd_T85 l0_0 x13_3).f2)] 85 (0,0))):=⟨by (with_reducible repeat (first|refine blk_drewN ?_ _|refine blk_drew ?_|refine blk_alloc ?_ _));refine blk_put (cs:=#[.int .i64 ((rd_T85 l0_0 x13_3).f0),.int .i64 ((rd_T85 l0_0 x13_3).f1),.int .i64 0]) ?_ 2 _ rfl;(with_reducible repeat (first|refine blk_drewN ?_ _|refine blk_drew ?_|refine blk_alloc ?_ _));refine blk_put (cs:=#[.int .i64 ((rd_T85 l0_0 x13_3).f0),.int .i64 0,.int .i64 0]) ?_ 1 _ rfl;(with_reducible repeat (first|refine blk_drewN ?_ _|refine blk_drew ?_|refine blk_alloc ?_ _));refine blk_put (cs:=#[.int .i64 0,.int .i64 0,.int .i64 0]) ?_ 0 _ rfl;(with_reducible repeat (first|refine blk_drewN ?_ _|refine blk_drew ?_|refine blk_alloc ?_ _));exact BK165.out⟩
                          have n5_ : Aside0 (Below w.heap.size w (((w60.setCell ⟨gb165,0,none⟩ (.int .i64 ((rd_T85 l0_0 x13_3).f0))).setCell ⟨gb165,1,none⟩ (.int .i64 ((rd_T85 l0_0 x13_3).f1))).setCell ⟨gb165,2,none⟩ (.int .i64 ((rd_T85 l0_0 x13_3).f2)))):=⟨by repeat (first|(with_reducible first|exact HB.out|apply below_alloc|apply pw_below_drewN|apply below_drew1|refine below_set ?_ GE151.out|refine below_set ?_ GE165.out)|exact HB.out)⟩
                          (try clear HO_9)
                          (try clear HO_10)
                          (try clear HO_12)
                          (try clear BK151)
                          (try clear BK165)
                          (try clear HB)
                          generalize (((w60.setCell ⟨gb165,0,none⟩ (.int .i64 ((rd_T85 l0_0 x13_3).f0))).setCell ⟨gb165,1,none⟩ (.int .i64 ((rd_T85 l0_0 x13_3).f1))).setCell ⟨gb165,2,none⟩ (.int .i64 ((rd_T85 l0_0 x13_3).f2))) = w63 at n0_ n1_ n2_ n3_ n4_ n5_ ⊢
                          have HO_9:=n0_
                          have HO_10:=n1_
                          have HO_12:=n2_
                          have BK151:=n3_
                          have BK165:=n4_
                          have HB:=n5_
                          clear n0_ n1_ n2_ n3_ n4_ n5_
                          have n0_:=Aside0.mk (Kd.R_drew HO_9.out)
                          have n1_:=Aside0.mk (Kd.R_drew HO_10.out)
                          have n2_:=Aside0.mk (Kd.R_drew HO_12.out)
                          have n3_:=Aside0.mk (blk_drew BK151.out)
                          have n4_:=Aside0.mk (blk_drew BK165.out)
                          have n5_:=Aside0.mk (below_drew1 HB.out)
                          clear HO_9
                          clear HO_10
                          clear HO_12
                          clear BK151
                          clear BK165
                          clear HB
                          have HO_9:=n0_
                          have HO_10:=n1_
                          have HO_12:=n2_
                          have BK151:=n3_
                          have BK165:=n4_
                          have HB:=n5_
                          clear n0_ n1_ n2_ n3_ n4_ n5_
                          have p166 : 0 ≤ (((rd_T85 l0_0 x13_3).f0) : Int):=of_decide_eq_true (by first|(with_reducible assumption)|assumption)
                          have q166 : ((rd_T85 l0_0 x13_3).f0) < (t156.length : Int):=of_decide_eq_true (by first|(with_reducible assumption)|assumption)
                          obtain ⟨ad166,e166,hx166_0⟩:=Kd.at_bool (Kd.R_reads' HO_10.out).2.2 ((rd_T85 l0_0 x13_3).f0) p166 q166
                          (try rw [← Nbq35.out] at hx166_0)
                          obtain rfl : ad157 = ad166:=(by injection e166)
                          replace p166:=eq_true p166
                          replace q166:=eq_true q166
                          have p167 : 0 ≤ (((rd_T85 l0_0 x13_3).f2) : Int):=of_decide_eq_true (by first|(with_reducible assumption)|assumption)
                          have q167 : ((rd_T85 l0_0 x13_3).f2) < (l1.length : Int):=of_decide_eq_true (by first|(with_reducible assumption)|assumption)
                          obtain ⟨ad167,A167_3,c167_3,e167,hx167_0,hx167_1,hx167_2,hx167_3,hl167_3,hi167_3⟩:=at_T49 HR1.out ((rd_T85 l0_0 x13_3).f2) p167 q167
                          have hw167_3:=hx167_3
                          have hw167_2:=hx167_2
                          have hw167_1:=hx167_1
                          have hw167_0:=hx167_0
                          (try rw [← Nbq35.out] at hx167_1)
                          cases e167
                          replace hx167_0:=(HB.out.cell (World.block_lt_of_cell? w _ hx167_0)).trans hx167_0
                          replace hx167_1:=(HB.out.cell (World.block_lt_of_cell? w _ hx167_1)).trans hx167_1
                          replace hx167_2:=(HB.out.cell (World.block_lt_of_cell? w _ hx167_2)).trans hx167_2
                          replace hx167_3:=(HB.out.cell (World.block_lt_of_cell? w _ hx167_3)).trans hx167_3
                          have HR167_3:=Aside0.mk hi167_3
                          have HC167_3:=Aside0.mk hl167_3
                          clear hi167_3 hl167_3
                          replace p167:=eq_true p167
                          replace q167:=eq_true q167
                          have p168 : 0 ≤ (((rd_T85 l0_0 x13_3).f2) : Int):=of_decide_eq_true (by first|(with_reducible assumption)|assumption)
                          have q168 : ((rd_T85 l0_0 x13_3).f2) < (l1.length : Int):=of_decide_eq_true (by first|(with_reducible assumption)|assumption)
                          obtain ⟨ad168,A168_3,c168_3,e168,hx168_0,hx168_1,hx168_2,hx168_3,hl168_3,hi168_3⟩:=at_T49 HR1.out ((rd_T85 l0_0 x13_3).f2) p168 q168
                          have hw168_3:=hx168_3
                          have hw168_2:=hx168_2
                          have hw168_1:=hx168_1
                          have hw168_0:=hx168_0
                          (try rw [← Nbq35.out] at hx168_1)
                          obtain rfl : ad167 = ad168:=(by injection e168)
                          replace hx168_0:=(HB.out.cell (World.block_lt_of_cell? w _ hx168_0)).trans hx168_0
                          replace hx168_1:=(HB.out.cell (World.block_lt_of_cell? w _ hx168_1)).trans hx168_1
                          replace hx168_2:=(HB.out.cell (World.block_lt_of_cell? w _ hx168_2)).trans hx168_2
                          replace hx168_3:=(HB.out.cell (World.block_lt_of_cell? w _ hx168_3)).trans hx168_3
                          have HR168_3:=Aside0.mk hi168_3
                          have HC168_3:=Aside0.mk hl168_3
                          clear hi168_3 hl168_3
                          replace p168:=eq_true p168
                          replace q168:=eq_true q168
                          have ea_:=Option.some.inj (hx167_3.symm.trans hx168_3)
                          injection ea_ with ea_ en_ ec_
                          subst ea_
                          subst ec_
                          clear en_
                          have p43 : 0 ≤ (x11_1 : Int):=of_decide_eq_true (by first|(with_reducible assumption)|assumption)
                          have q43 : x11_1 < (a2.size : Int):=of_decide_eq_true (by first|(with_reducible assumption)|assumption)
                          have hx43:=bt_at a2 x11_1
                          replace p43:=eq_true p43
                          replace q43:=eq_true q43
                          refine start_ (n:=30) (S:=fun w'=>w'.cell? ⟨gb165,0,none⟩ = some (.int .i64 ((rd_T85 l0_0 x13_3).f0)) ∧ w'.cell? ⟨gb165,1,none⟩ = some (.int .i64 ((rd_T85 l0_0 x13_3).f1)) ∧ w'.cell? ⟨gb165,2,none⟩ = some (.int .i64 ((rd_T85 l0_0 x13_3).f2)) ∧ w'.cell? (ad157.add (((rd_T85 l0_0 x13_3).f0)).toNat) = some (.bool true) ∧ w'.cell? (ad167.add ((((rd_T85 l0_0 x13_3).f2)).toNat * 4)) = some (.int .i64 ((rd_T49 l1 ((rd_T85 l0_0 x13_3).f2)).f0)) ∧ w'.cell? ⟨(ad167.add ((((rd_T85 l0_0 x13_3).f2)).toNat * 4)).block,(ad167.add ((((rd_T85 l0_0 x13_3).f2)).toNat * 4)).off + 1,none⟩ = some (.bool ((rd_T49 l1 ((rd_T85 l0_0 x13_3).f2)).f1)) ∧ w'.cell? ⟨(ad167.add ((((rd_T85 l0_0 x13_3).f2)).toNat * 4)).block,(ad167.add ((((rd_T85 l0_0 x13_3).f2)).toNat * 4)).off + 2,none⟩ = some (.string ((rd_T49 l1 ((rd_T85 l0_0 x13_3).f2)).f2)) ∧ w'.cell? ⟨(ad167.add ((((rd_T85 l0_0 x13_3).f2)).toNat * 4)).block,(ad167.add ((((rd_T85 l0_0 x13_3).f2)).toNat * 4)).off + 3,none⟩ = some (.slice A167_3 ((rd_T49 l1 ((rd_T85 l0_0 x13_3).f2)).f3).length c167_3) ∧ w'.cell? (ad167.add ((((rd_T85 l0_0 x13_3).f2)).toNat * 4)) = some (.int .i64 ((rd_T49 l1 ((rd_T85 l0_0 x13_3).f2)).f0)) ∧ w'.cell? ⟨(ad167.add ((((rd_T85 l0_0 x13_3).f2)).toNat * 4)).block,(ad167.add ((((rd_T85 l0_0 x13_3).f2)).toNat * 4)).off + 1,none⟩ = some (.bool ((rd_T49 l1 ((rd_T85 l0_0 x13_3).f2)).f1)) ∧ w'.cell? ⟨(ad167.add ((((rd_T85 l0_0 x13_3).f2)).toNat * 4)).block,(ad167.add ((((rd_T85 l0_0 x13_3).f2)).toNat * 4)).off + 2,none⟩ = some (.string ((rd_T49 l1 ((rd_T85 l0_0 x13_3).f2)).f2)) ∧ w'.cell? ⟨(ad167.add ((((rd_T85 l0_0 x13_3).f2)).toNat * 4)).block,(ad167.add ((((rd_T85 l0_0 x13_3).f2)).toNat * 4)).off + 3,none⟩ = some (.slice A167_3 ((rd_T49 l1 ((rd_T85 l0_0 x13_3).f2)).f3).length c167_3)) (ds:=[]) #[false,false,false,false,false,false,false,false,false,false,false,false,false,false,false,false,false,false,false,false,false,false,false,false,false,false,false,false,false,false] (by kernel_rfl) rfl rfl ⟨(blk_cell BK165.out 0).trans rfl,(blk_cell BK165.out 1).trans rfl,(blk_cell BK165.out 2).trans rfl,hx166_0,((HB.out.cell (World.block_lt_of_cell? w _ hw167_0)).trans hw167_0),((HB.out.cell (World.block_lt_of_cell? w _ hw167_1)).trans hw167_1),((HB.out.cell (World.block_lt_of_cell? w _ hw167_2)).trans hw167_2),((HB.out.cell (World.block_lt_of_cell? w _ hw167_3)).trans hw167_3),((HB.out.cell (World.block_lt_of_cell? w _ hw168_0)).trans hw168_0),((HB.out.cell (World.block_lt_of_cell? w _ hw168_1)).trans hw168_1),((HB.out.cell (World.block_lt_of_cell? w _ hw168_2)).trans hw168_2),((HB.out.cell (World.block_lt_of_cell? w _ hw168_3)).trans hw168_3)⟩ (fun hHeld=>?_);refine with_tabW spec_l2ends.tab16 spec_l2ends.bits16 (fun HT_ HW_=>?_)
                          generalize w63.drew = w64 at HO_9 HO_10 HO_12 BK151 BK165 HB HR167_3 HR168_3 hx166_0 hx167_0 hx167_1 hx167_2 hx167_3 hx168_0 hx168_1 hx168_2 hx168_3 hHeld ⊢
                          refine pure_ (i:=0) (N:=some 56) (v:=?_) (a':=?_) #[true,false,false,false,false,false,false,false,false,false,false,false,false,false,false,false,false,false,false,false,false,false,false,false,false,false,false,false,false,false] rfl rfl (any_of HT_.out (by kernel_rfl)) (fun _ _ _ h=>h) (Or.inl ⟨by rfl,?_⟩) ?_ ?_
                          rotate_left
                          ·intro w'
                           go_simp
                           first|with_reducible rfl|(rw [if_neg (by simp only [ByteArray.size_append,ByteArray.size_extract,eq_iff_iff,iff_true,iff_false] at *;omega)];try with_reducible rfl)
                          rotate_left
                          ·simp only [Act.put,List.setIfInBounds_toArray,List.set_cons_zero,List.set_cons_succ,i64_w,i32_w]
                           rfl
                          refine pure_ (i:=1) (N:=some 57) (v:=?_) (a':=?_) #[true,true,false,false,false,false,false,false,false,false,false,false,false,false,false,false,false,false,false,false,false,false,false,false,false,false,false,false,false,false] rfl rfl (any_of HT_.out (by kernel_rfl)) (fun _ _ _ h=>h) (Or.inl ⟨by rfl,?_⟩) ?_ ?_
                          rotate_left
                          ·intro w'
                           go_simp
                           first|with_reducible rfl|(rw [if_neg (by simp only [ByteArray.size_append,ByteArray.size_extract,eq_iff_iff,iff_true,iff_false] at *;omega)];try with_reducible rfl)
                          rotate_left
                          ·simp only [Act.put,List.setIfInBounds_toArray,List.set_cons_zero,List.set_cons_succ,i64_w,i32_w]
                           rfl
                          refine take_ (i:=2) (N:=some 58) (v:=?_) (a':=?_) #[true,true,true,false,false,false,false,false,false,false,false,false,false,false,false,false,false,false,false,false,false,false,false,false,false,false,false,false,false,false] rfl rfl (take_ofW HT_.out HW_.out (by kernel_rfl)) (fun _ _ _ h=>h) (Or.inl ⟨by rfl,?_⟩) hHeld ?_ ?_
                          rotate_left
                          ·rintro w' ⟨s0,s1,s2,s3,s4,s5,s6,s7,s8,s9,s10,s11⟩
                           go_simp
                           first|with_reducible rfl|(rw [if_neg (by simp only [ByteArray.size_append,ByteArray.size_extract,eq_iff_iff,iff_true,iff_false] at *;omega)];try with_reducible rfl)
                          rotate_left
                          ·simp only [Act.put,List.setIfInBounds_toArray,List.set_cons_zero,List.set_cons_succ,i64_w,i32_w]
                           rfl
                          refine pure_ (i:=3) (N:=some 59) (v:=?_) (a':=?_) #[true,true,true,true,false,false,false,false,false,false,false,false,false,false,false,false,false,false,false,false,false,false,false,false,false,false,false,false,false,false] rfl rfl (any_of HT_.out (by kernel_rfl)) (fun _ _ _ h=>h) (Or.inl ⟨by rfl,?_⟩) ?_ ?_
                          rotate_left
                          ·intro w'
                           go_simp
                           first|with_reducible rfl|(rw [if_neg (by simp only [ByteArray.size_append,ByteArray.size_extract,eq_iff_iff,iff_true,iff_false] at *;omega)];try with_reducible rfl)
                          rotate_left
                          ·simp only [Act.put,List.setIfInBounds_toArray,List.set_cons_zero,List.set_cons_succ,i64_w,i32_w]
                           rfl
                          refine take_ (i:=4) (N:=some 60) (v:=?_) (a':=?_) #[true,true,true,true,true,false,false,false,false,false,false,false,false,false,false,false,false,false,false,false,false,false,false,false,false,false,false,false,false,false] rfl rfl (take_ofW HT_.out HW_.out (by kernel_rfl)) (fun _ _ _ h=>h) (Or.inl ⟨by rfl,?_⟩) hHeld ?_ ?_
                          rotate_left
                          ·rintro w' ⟨s0,s1,s2,s3,s4,s5,s6,s7,s8,s9,s10,s11⟩
                           go_simp
                           first|with_reducible rfl|(rw [if_neg (by simp only [ByteArray.size_append,ByteArray.size_extract,eq_iff_iff,iff_true,iff_false] at *;omega)];try with_reducible rfl)
                          rotate_left
                          ·simp only [Act.put,List.setIfInBounds_toArray,List.set_cons_zero,List.set_cons_succ,i64_w,i32_w]
                           rfl
                          refine pure_ (i:=5) (N:=some 61) (v:=?_) (a':=?_) #[true,true,true,true,true,true,false,false,false,false,false,false,false,false,false,false,false,false,false,false,false,false,false,false,false,false,false,false,false,false] rfl rfl (any_of HT_.out (by kernel_rfl)) (fun _ _ _ h=>h) (Or.inl ⟨by rfl,?_⟩) ?_ ?_
                          rotate_left
                          ·intro w'
                           go_simp
                           first|with_reducible rfl|(rw [if_neg (by simp only [ByteArray.size_append,ByteArray.size_extract,eq_iff_iff,iff_true,iff_false] at *;omega)];try with_reducible rfl)
                          rotate_left
                          ·simp only [Act.put,List.setIfInBounds_toArray,List.set_cons_zero,List.set_cons_succ,i64_w,i32_w]
                           rfl
                          refine pure_ (i:=6) (N:=some 62) (v:=?_) (a':=?_) #[true,true,true,true,true,true,true,false,false,false,false,false,false,false,false,false,false,false,false,false,false,false,false,false,false,false,false,false,false,false] rfl rfl (any_of HT_.out (by kernel_rfl)) (fun _ _ _ h=>h) (Or.inl ⟨by rfl,?_⟩) ?_ ?_
                          rotate_left
                          ·intro w'
                           go_simp
                           first|with_reducible rfl|(rw [if_neg (by simp only [ByteArray.size_append,ByteArray.size_extract,eq_iff_iff,iff_true,iff_false] at *;omega)];try with_reducible rfl)
                          rotate_left
                          ·simp only [Act.put,List.setIfInBounds_toArray,List.set_cons_zero,List.set_cons_succ,i64_w,i32_w]
                           rfl
                          refine take_ (i:=7) (N:=some 63) (v:=?_) (a':=?_) #[true,true,true,true,true,true,true,true,false,false,false,false,false,false,false,false,false,false,false,false,false,false,false,false,false,false,false,false,false,false] rfl rfl (take_ofW HT_.out HW_.out (by kernel_rfl)) (fun _ _ _ h=>h) (Or.inl ⟨by rfl,?_⟩) hHeld ?_ ?_
                          rotate_left
                          ·rintro w' ⟨s0,s1,s2,s3,s4,s5,s6,s7,s8,s9,s10,s11⟩
                           go_simp
                           first|with_reducible rfl|(rw [if_neg (by simp only [ByteArray.size_append,ByteArray.size_extract,eq_iff_iff,iff_true,iff_false] at *;omega)];try with_reducible rfl)
                          rotate_left
                          ·simp only [Act.put,List.setIfInBounds_toArray,List.set_cons_zero,List.set_cons_succ,i64_w,i32_w]
                           rfl
                          refine pure_ (i:=8) (N:=some 64) (v:=?_) (a':=?_) #[true,true,true,true,true,true,true,true,true,false,false,false,false,false,false,false,false,false,false,false,false,false,false,false,false,false,false,false,false,false] rfl rfl (any_of HT_.out (by kernel_rfl)) (fun _ _ _ h=>h) (Or.inl ⟨by rfl,?_⟩) ?_ ?_
                          rotate_left
                          ·intro w'
                           go_simp
                           first|with_reducible rfl|(rw [if_neg (by simp only [ByteArray.size_append,ByteArray.size_extract,eq_iff_iff,iff_true,iff_false] at *;omega)];try with_reducible rfl)
                          rotate_left
                          ·simp only [Act.put,List.setIfInBounds_toArray,List.set_cons_zero,List.set_cons_succ,i64_w,i32_w]
                           rfl
                          refine pure_ (i:=9) (N:=some 65) (v:=?_) (a':=?_) #[true,true,true,true,true,true,true,true,true,true,false,false,false,false,false,false,false,false,false,false,false,false,false,false,false,false,false,false,false,false] rfl rfl (any_of HT_.out (by kernel_rfl)) (fun _ _ _ h=>h) (Or.inl ⟨by rfl,?_⟩) ?_ ?_
                          rotate_left
                          ·intro w'
                           go_simp
                           first|with_reducible rfl|(rw [if_neg (by simp only [ByteArray.size_append,ByteArray.size_extract,eq_iff_iff,iff_true,iff_false] at *;omega)];try with_reducible rfl)
                          rotate_left
                          ·simp only [Act.put,List.setIfInBounds_toArray,List.set_cons_zero,List.set_cons_succ,i64_w,i32_w]
                           rfl
                          refine pure_ (i:=10) (N:=some 66) (v:=?_) (a':=?_) #[true,true,true,true,true,true,true,true,true,true,true,false,false,false,false,false,false,false,false,false,false,false,false,false,false,false,false,false,false,false] rfl rfl (any_of HT_.out (by kernel_rfl)) (fun _ _ _ h=>h) (Or.inl ⟨by rfl,?_⟩) ?_ ?_
                          rotate_left
                          ·intro w'
                           go_simp
                           first|with_reducible rfl|(rw [if_neg (by simp only [ByteArray.size_append,ByteArray.size_extract,eq_iff_iff,iff_true,iff_false] at *;omega)];try with_reducible rfl)
                          rotate_left
                          ·simp only [Act.put,List.setIfInBounds_toArray,List.set_cons_zero,List.set_cons_succ,i64_w,i32_w]
                           rfl
                          refine pure_ (i:=11) (N:=some 67) (v:=?_) (a':=?_) #[true,true,true,true,true,true,true,true,true,true,true,true,false,false,false,false,false,false,false,false,false,false,false,false,false,false,false,false,false,false] rfl rfl (any_of HT_.out (by kernel_rfl)) (fun _ _ _ h=>h) (Or.inl ⟨by rfl,?_⟩) ?_ ?_
                          rotate_left
                          ·intro w'
                           go_simp
                           first|with_reducible rfl|(rw [if_neg (by simp only [ByteArray.size_append,ByteArray.size_extract,eq_iff_iff,iff_true,iff_false] at *;omega)];try with_reducible rfl)
                          rotate_left
                          ·simp only [Act.put,List.setIfInBounds_toArray,List.set_cons_zero,List.set_cons_succ,i64_w,i32_w]
                           rfl
                          refine pure_ (i:=12) (N:=some 68) (v:=?_) (a':=?_) #[true,true,true,true,true,true,true,true,true,true,true,true,true,false,false,false,false,false,false,false,false,false,false,false,false,false,false,false,false,false] rfl rfl (any_of HT_.out (by kernel_rfl)) (fun _ _ _ h=>h) (Or.inl ⟨by rfl,?_⟩) ?_ ?_
                          rotate_left
                          ·intro w'
                           go_simp
                           first|with_reducible rfl|(rw [if_neg (by simp only [ByteArray.size_append,ByteArray.size_extract,eq_iff_iff,iff_true,iff_false] at *;omega)];try with_reducible rfl)
                          rotate_left
                          ·simp only [Act.put,List.setIfInBounds_toArray,List.set_cons_zero,List.set_cons_succ,i64_w,i32_w]
                           rfl
                          refine take_ (i:=13) (N:=some 69) (v:=?_) (a':=?_) #[true,true,true,true,true,true,true,true,true,true,true,true,true,true,false,false,false,false,false,false,false,false,false,false,false,false,false,false,false,false] rfl rfl (take_ofW HT_.out HW_.out (by kernel_rfl)) (fun _ _ _ h=>h) (Or.inl ⟨by rfl,?_⟩) hHeld ?_ ?_
                          rotate_left
                          ·rintro w' ⟨s0,s1,s2,s3,s4,s5,s6,s7,s8,s9,s10,s11⟩
                           go_simp
                           first|with_reducible rfl|(rw [if_neg (by simp only [ByteArray.size_append,ByteArray.size_extract,eq_iff_iff,iff_true,iff_false] at *;omega)];try with_reducible rfl)
                          rotate_left
                          ·simp only [Act.put,List.setIfInBounds_toArray,List.set_cons_zero,List.set_cons_succ,i64_w,i32_w]
                           rfl
                          refine pure_ (i:=14) (N:=some 70) (v:=?_) (a':=?_) #[true,true,true,true,true,true,true,true,true,true,true,true,true,true,true,false,false,false,false,false,false,false,false,false,false,false,false,false,false,false] rfl rfl (any_of HT_.out (by kernel_rfl)) (fun _ _ _ h=>h) (Or.inl ⟨by rfl,?_⟩) ?_ ?_
                          rotate_left
                          ·intro w'
                           go_simp
                           first|with_reducible rfl|(rw [if_neg (by simp only [ByteArray.size_append,ByteArray.size_extract,eq_iff_iff,iff_true,iff_false] at *;omega)];try with_reducible rfl)
                          rotate_left
                          ·simp only [Act.put,List.setIfInBounds_toArray,List.set_cons_zero,List.set_cons_succ,i64_w,i32_w]
                           rfl
                          refine pure_ (i:=15) (N:=some 71) (v:=?_) (a':=?_) #[true,true,true,true,true,true,true,true,true,true,true,true,true,true,true,true,false,false,false,false,false,false,false,false,false,false,false,false,false,false] rfl rfl (any_of HT_.out (by kernel_rfl)) (fun _ _ _ h=>h) (Or.inl ⟨by rfl,?_⟩) ?_ ?_
                          rotate_left
                          ·intro w'
                           go_simp
                           first|with_reducible rfl|(rw [if_neg (by simp only [ByteArray.size_append,ByteArray.size_extract,eq_iff_iff,iff_true,iff_false] at *;omega)];try with_reducible rfl)
                          rotate_left
                          ·simp only [Act.put,List.setIfInBounds_toArray,List.set_cons_zero,List.set_cons_succ,i64_w,i32_w]
                           rfl
                          refine take_ (i:=16) (N:=some 72) (v:=?_) (a':=?_) #[true,true,true,true,true,true,true,true,true,true,true,true,true,true,true,true,true,false,false,false,false,false,false,false,false,false,false,false,false,false] rfl rfl (take_ofW HT_.out HW_.out (by kernel_rfl)) (fun _ _ _ h=>h) (Or.inl ⟨by rfl,?_⟩) hHeld ?_ ?_
                          rotate_left
                          ·rintro w' ⟨s0,s1,s2,s3,s4,s5,s6,s7,s8,s9,s10,s11⟩
                           go_simp
                           first|with_reducible rfl|(rw [if_neg (by simp only [ByteArray.size_append,ByteArray.size_extract,eq_iff_iff,iff_true,iff_false] at *;omega)];try with_reducible rfl)
                          rotate_left
                          ·simp only [Act.put,List.setIfInBounds_toArray,List.set_cons_zero,List.set_cons_succ,i64_w,i32_w]
                           rfl
                          refine pure_ (i:=17) (N:=some 73) (v:=?_) (a':=?_) #[true,true,true,true,true,true,true,true,true,true,true,true,true,true,true,true,true,true,false,false,false,false,false,false,false,false,false,false,false,false] rfl rfl (any_of HT_.out (by kernel_rfl)) (fun _ _ _ h=>h) (Or.inl ⟨by rfl,?_⟩) ?_ ?_
                          rotate_left
                          ·intro w'
                           go_simp
                           first|with_reducible rfl|(rw [if_neg (by simp only [ByteArray.size_append,ByteArray.size_extract,eq_iff_iff,iff_true,iff_false] at *;omega)];try with_reducible rfl)
                          rotate_left
                          ·simp only [Act.put,List.setIfInBounds_toArray,List.set_cons_zero,List.set_cons_succ,i64_w,i32_w]
                           rfl
                          refine pure_ (i:=18) (N:=some 74) (v:=?_) (a':=?_) #[true,true,true,true,true,true,true,true,true,true,true,true,true,true,true,true,true,true,true,false,false,false,false,false,false,false,false,false,false,false] rfl rfl (any_of HT_.out (by kernel_rfl)) (fun _ _ _ h=>h) (Or.inl ⟨by rfl,?_⟩) ?_ ?_
                          rotate_left
                          ·intro w'
                           go_simp
                           first|with_reducible rfl|(rw [if_neg (by simp only [ByteArray.size_append,ByteArray.size_extract,eq_iff_iff,iff_true,iff_false] at *;omega)];try with_reducible rfl)
                          rotate_left
                          ·simp only [Act.put,List.setIfInBounds_toArray,List.set_cons_zero,List.set_cons_succ,i64_w,i32_w]
                           rfl
                          refine pure_ (i:=19) (N:=some 75) (v:=?_) (a':=?_) #[true,true,true,true,true,true,true,true,true,true,true,true,true,true,true,true,true,true,true,true,false,false,false,false,false,false,false,false,false,false] rfl rfl (any_of HT_.out (by kernel_rfl)) (fun _ _ _ h=>h) (Or.inl ⟨by rfl,?_⟩) ?_ ?_
                          rotate_left
                          ·intro w'
                           go_simp
                           first|with_reducible rfl|(rw [if_neg (by simp only [ByteArray.size_append,ByteArray.size_extract,eq_iff_iff,iff_true,iff_false] at *;omega)];try with_reducible rfl)
                          rotate_left
                          ·simp only [Act.put,List.setIfInBounds_toArray,List.set_cons_zero,List.set_cons_succ,i64_w,i32_w]
                           rfl
                          refine pure_ (i:=20) (N:=some 76) (v:=?_) (a':=?_) #[true,true,true,true,true,true,true,true,true,true,true,true,true,true,true,true,true,true,true,true,true,false,false,false,false,false,false,false,false,false] rfl rfl (any_of HT_.out (by kernel_rfl)) (fun _ _ _ h=>h) (Or.inl ⟨by rfl,?_⟩) ?_ ?_
                          rotate_left
                          ·intro w'
                           go_simp
                           first|with_reducible rfl|(rw [if_neg (by simp only [ByteArray.size_append,ByteArray.size_extract,eq_iff_iff,iff_true,iff_false] at *;omega)];try with_reducible rfl)
                          rotate_left
                          ·simp only [Act.put,List.setIfInBounds_toArray,List.set_cons_zero,List.set_cons_succ,i64_w,i32_w]
                           rfl
                          refine pure_ (i:=21) (N:=some 77) (v:=?_) (a':=?_) #[true,true,true,true,true,true,true,true,true,true,true,true,true,true,true,true,true,true,true,true,true,true,false,false,false,false,false,false,false,false] rfl rfl (any_of HT_.out (by kernel_rfl)) (fun _ _ _ h=>h) (Or.inl ⟨by rfl,?_⟩) ?_ ?_
                          rotate_left
                          ·intro w'
                           go_simp
                           first|with_reducible rfl|(rw [if_neg (by simp only [ByteArray.size_append,ByteArray.size_extract,eq_iff_iff,iff_true,iff_false] at *;omega)];try with_reducible rfl)
                          rotate_left
                          ·simp only [Act.put,List.setIfInBounds_toArray,List.set_cons_zero,List.set_cons_succ,i64_w,i32_w]
                           rfl
                          refine pure_ (i:=25) (N:=some 81) (v:=?_) (a':=?_) #[true,true,true,true,true,true,true,true,true,true,true,true,true,true,true,true,true,true,true,true,true,true,false,false,false,true,false,false,false,false] rfl rfl (any_of HT_.out (by kernel_rfl)) (fun _ _ _ h=>h) (Or.inl ⟨by rfl,?_⟩) ?_ ?_
                          rotate_left
                          ·intro w'
                           go_simp
                           first|with_reducible rfl|(rw [if_neg (by simp only [ByteArray.size_append,ByteArray.size_extract,eq_iff_iff,iff_true,iff_false] at *;omega)];try with_reducible rfl)
                          rotate_left
                          ·simp only [Act.put,List.setIfInBounds_toArray,List.set_cons_zero,List.set_cons_succ,i64_w,i32_w]
                           rfl
                          refine pure_ (i:=26) (N:=some 82) (v:=?_) (a':=?_) #[true,true,true,true,true,true,true,true,true,true,true,true,true,true,true,true,true,true,true,true,true,true,false,false,false,true,true,false,false,false] rfl rfl (any_of HT_.out (by kernel_rfl)) (fun _ _ _ h=>h) (Or.inl ⟨by rfl,?_⟩) ?_ ?_
                          rotate_left
                          ·intro w'
                           go_simp
                           first|with_reducible rfl|(rw [if_neg (by simp only [ByteArray.size_append,ByteArray.size_extract,eq_iff_iff,iff_true,iff_false] at *;omega)];try with_reducible rfl)
                          rotate_left
                          ·simp only [Act.put,List.setIfInBounds_toArray,List.set_cons_zero,List.set_cons_succ,i64_w,i32_w]
                           rfl
                          refine take_ (i:=22) (N:=some 78) (v:=?_) (a':=?_) #[true,true,true,true,true,true,true,true,true,true,true,true,true,true,true,true,true,true,true,true,true,true,true,false,false,true,true,false,false,false] rfl rfl (take_ofW HT_.out HW_.out (by kernel_rfl)) (fun _ _ _ h=>h) (Or.inl ⟨by rfl,?_⟩) hHeld ?_ ?_
                          rotate_left
                          ·rintro w' ⟨s0,s1,s2,s3,s4,s5,s6,s7,s8,s9,s10,s11⟩
                           go_simp
                           first|with_reducible rfl|(rw [if_neg (by simp only [ByteArray.size_append,ByteArray.size_extract,eq_iff_iff,iff_true,iff_false] at *;omega)];try with_reducible rfl)
                          rotate_left
                          ·simp only [Act.put,List.setIfInBounds_toArray,List.set_cons_zero,List.set_cons_succ,i64_w,i32_w]
                           rfl
                          refine pure_ (i:=23) (N:=some 79) (v:=?_) (a':=?_) #[true,true,true,true,true,true,true,true,true,true,true,true,true,true,true,true,true,true,true,true,true,true,true,true,false,true,true,false,false,false] rfl rfl (any_of HT_.out (by kernel_rfl)) (fun _ _ _ h=>h) (Or.inl ⟨by rfl,?_⟩) ?_ ?_
                          rotate_left
                          ·intro w'
                           go_simp
                           first|with_reducible rfl|(rw [if_neg (by simp only [ByteArray.size_append,ByteArray.size_extract,eq_iff_iff,iff_true,iff_false] at *;omega)];try with_reducible rfl)
                          rotate_left
                          ·simp only [Act.put,List.setIfInBounds_toArray,List.set_cons_zero,List.set_cons_succ,i64_w,i32_w]
                           rfl
                          refine take_ (i:=24) (N:=some 80) (v:=?_) (a':=?_) #[true,true,true,true,true,true,true,true,true,true,true,true,true,true,true,true,true,true,true,true,true,true,true,true,true,true,true,false,false,false] rfl rfl (take_ofW HT_.out HW_.out (by kernel_rfl)) (fun _ _ _ h=>h) (Or.inl ⟨by rfl,?_⟩) hHeld ?_ ?_
                          rotate_left
                          ·rintro w' ⟨s0,s1,s2,s3,s4,s5,s6,s7,s8,s9,s10,s11⟩
                           go_simp
                           first|with_reducible rfl|(rw [if_neg (by simp only [ByteArray.size_append,ByteArray.size_extract,eq_iff_iff,iff_true,iff_false] at *;omega)];try with_reducible rfl)
                          rotate_left
                          ·simp only [Act.put,List.setIfInBounds_toArray,List.set_cons_zero,List.set_cons_succ,i64_w,i32_w]
                           rfl
                          refine take_ (i:=27) (N:=some 83) (v:=?_) (a':=?_) #[true,true,true,true,true,true,true,true,true,true,true,true,true,true,true,true,true,true,true,true,true,true,true,true,true,true,true,true,false,false] rfl rfl (take_ofW HT_.out HW_.out (by kernel_rfl)) (fun _ _ _ h=>h) (Or.inl ⟨by rfl,?_⟩) hHeld ?_ ?_
                          rotate_left
                          ·rintro w' ⟨s0,s1,s2,s3,s4,s5,s6,s7,s8,s9,s10,s11⟩
                           go_simp
                           first|with_reducible rfl|(rw [if_neg (by simp only [ByteArray.size_append,ByteArray.size_extract,eq_iff_iff,iff_true,iff_false] at *;omega)];try with_reducible rfl)
                          rotate_left
                          ·simp only [Act.put,List.setIfInBounds_toArray,List.set_cons_zero,List.set_cons_succ,i64_w,i32_w]
                           rfl
                          refine one_ (i:=28) (N:=some 84) #[true,true,true,true,true,true,true,true,true,true,true,true,true,true,true,true,true,true,true,true,true,true,true,true,true,true,true,true,true,false] rfl rfl (one_of HT_.out (by kernel_rfl)) (by decide) (fun K hK=>?_)
                          refine goes_ Tryd.func58 (by kernel_rfl) rfl #[.agg #[.int .i64 ((rd_T49 l1 ((rd_T85 l0_0 x13_3).f2)).f0),.bool ((rd_T49 l1 ((rd_T85 l0_0 x13_3).f2)).f1),.string ((rd_T49 l1 ((rd_T85 l0_0 x13_3).f2)).f2),.slice A167_3 ((rd_T49 l1 ((rd_T85 l0_0 x13_3).f2)).f3).length c167_3],.int .u8 (bt a2 x11_1)] (by rfl) rfl rfl (by (try simp only [List.map_toArray,List.map_cons,List.map_nil]);first|done|rfl|(simp only [List.length_drop,List.length_take];rfl)) ?_
                          with_reducible refine (spec_l2in.calls k3 ((rd_T49 l1 ((rd_T85 l0_0 x13_3).f2)).f0) ((rd_T49 l1 ((rd_T85 l0_0 x13_3).f2)).f1) ((rd_T49 l1 ((rd_T85 l0_0 x13_3).f2)).f2) _ _ ((rd_T49 l1 ((rd_T85 l0_0 x13_3).f2)).f3) (bt a2 x11_1) false _ ?side1 ?side2 A44.out).mono ?_
                          (case side1=>repeat (first|exact (Kd.C_below HR168_3.out HB.out)|(with_reducible refine Kd.C_alloc ?_ _)|(with_reducible refine Kd.C_drewN ?_ _)|(with_reducible refine Kd.C_drew ?_)))
                          (case side2=>exact HC168_3.out)
                          rintro e w65 ⟨rfl,hb⟩
                          have HS3_:=(hb.cell (World.block_lt_of_cell? _ _ (hHeld.2.2.2.1))).trans (hHeld.2.2.2.1)
                          refine ⟨_,rfl,?_⟩
                          have n0_:=Aside0.mk (Kd.R_below (by (with_reducible repeat (first|apply Kd.R_alloc|apply Kd.R_drewN|apply Kd.R_drew));exact HO_9.out) hb)
                          have n1_:=Aside0.mk (Kd.R_below (by (with_reducible repeat (first|apply Kd.R_alloc|apply Kd.R_drewN|apply Kd.R_drew));exact HO_10.out) hb)
                          have n2_:=Aside0.mk (Kd.R_below (by (with_reducible repeat (first|apply Kd.R_alloc|apply Kd.R_drewN|apply Kd.R_drew));exact HO_12.out) hb)
                          have n3_:=Aside0.mk (blk_below (g:=gb151) (o:=.cells #[.slice (some ad164) l0_0.length c0_0,.int .i64 a0_1] 59 (0,0)) (by (with_reducible repeat (first|refine blk_drewN ?_ _|refine blk_drew ?_|refine blk_alloc ?_ _));exact BK151.out) hb)
                          have n4_:=Aside0.mk (blk_below (g:=gb165) (o:=.cells #[.int .i64 ((rd_T85 l0_0 x13_3).f0),.int .i64 ((rd_T85 l0_0 x13_3).f1),.int .i64 ((rd_T85 l0_0 x13_3).f2)] 85 (0,0)) (by (with_reducible repeat (first|refine blk_drewN ?_ _|refine blk_drew ?_|refine blk_alloc ?_ _));exact BK165.out) hb)
                          have n5_:=Aside0.mk (below_step (by repeat (first|(with_reducible first|exact HB.out|apply below_alloc|apply pw_below_drewN|apply below_drew1|refine below_set ?_ GE151.out|refine below_set ?_ GE165.out)|exact HB.out)) hb)
                          clear HO_9
                          clear HO_10
                          clear HO_12
                          clear BK151
                          clear BK165
                          clear HB
                          have HO_9:=n0_
                          have HO_10:=n1_
                          have HO_12:=n2_
                          have BK151:=n3_
                          have BK165:=n4_
                          have HB:=n5_
                          clear n0_ n1_ n2_ n3_ n4_ n5_
                          (try clear hb)
                          (try clear hb2)
                          (try clear hk)
                          (try clear hi)
                          refine hK.out _ _ ⟨(blk_cell BK165.out 0).trans rfl,(blk_cell BK165.out 1).trans rfl,(blk_cell BK165.out 2).trans rfl,HS3_,((HB.out.cell (World.block_lt_of_cell? w _ hw167_0)).trans hw167_0),((HB.out.cell (World.block_lt_of_cell? w _ hw167_1)).trans hw167_1),((HB.out.cell (World.block_lt_of_cell? w _ hw167_2)).trans hw167_2),((HB.out.cell (World.block_lt_of_cell? w _ hw167_3)).trans hw167_3),((HB.out.cell (World.block_lt_of_cell? w _ hw168_0)).trans hw168_0),((HB.out.cell (World.block_lt_of_cell? w _ hw168_1)).trans hw168_1),((HB.out.cell (World.block_lt_of_cell? w _ hw168_2)).trans hw168_2),((HB.out.cell (World.block_lt_of_cell? w _ hw168_3)).trans hw168_3)⟩ (fun hHeld=>?_)
                          clear hK K
                          refine norm_ (a':=?_) ?_ ?_
                          rotate_left
                          ·show Act.put _ (some 84) _ = _
                           simp only [Act.put,List.setIfInBounds_toArray,List.set_cons_zero,List.set_cons_succ,i64_w,i32_w]
                           rfl
                          refine pure_ (i:=29) (N:=some 85) (v:=?_) (a':=?_) #[true,true,true,true,true,true,true,true,true,true,true,true,true,true,true,true,true,true,true,true,true,true,true,true,true,true,true,true,true,true] rfl rfl (any_of HT_.out (by kernel_rfl)) (fun _ _ _ h=>h) (Or.inl ⟨by rfl,?_⟩) ?_ ?_
                          rotate_left
                          ·intro w'
                           go_simp
                           first|with_reducible rfl|(rw [if_neg (by simp only [ByteArray.size_append,ByteArray.size_extract,eq_iff_iff,iff_true,iff_false] at *;omega)];try with_reducible rfl)
                          rotate_left
                          ·simp only [Act.put,List.setIfInBounds_toArray,List.set_cons_zero,List.set_cons_succ,i64_w,i32_w]
                           rfl
                          refine done_ (done_of HT_.out (by kernel_rfl)) ?_
                          try go_wp2
                          go_roundg k3
                          case measure=>have:=HK1.out;have:=HJ16.out;have:=HK3.out;omega
                          case rel=>exact ⟨(x12_3),(wrap64 (x13_3 + 1)),(by first|rfl|(simp;done)|(simp [*];done)),H',⟨by have:=HK1.out;have:=HJ16.out;have:=HK3.out;omega⟩,⟨by (try simp only [hl10_16]);(with_reducible repeat (first|apply Kd.R_alloc|apply Kd.R_drewN|apply Kd.R_drew));exact HO_9.out⟩,⟨by (try simp only [hl10_16]);(with_reducible repeat (first|apply Kd.R_alloc|apply Kd.R_drewN|apply Kd.R_drew));exact HO_10.out⟩,⟨by (try simp only [hl10_16]);(with_reducible repeat (first|apply Kd.R_alloc|apply Kd.R_drewN|apply Kd.R_drew));exact HO_12.out⟩,⟨by (try simp only [hl10_16]);(with_reducible repeat (first|refine blk_drewN ?_ _|refine blk_drew ?_|refine blk_alloc ?_ _));exact BK151.out⟩,⟨by repeat (first|(with_reducible first|exact HB.out|apply below_alloc|apply pw_below_drewN|apply below_drew1|refine below_set ?_ GE151.out|refine below_set ?_ GE165.out)|exact HB.out)⟩⟩
                        ·rw [if_neg c42] at H
                         exact absurd H (by simp)
                       ·rw [if_neg c41] at H
                        exact absurd H (by simp)
                      ·rw [if_neg c40] at H
                       have c40b0 : (((rd_T49 l1 ((rd_T85 l0_0 x13_3).f2)).f0) == 0) = false:=beq_eq_false_iff_ne.mpr c40
                       have c40b1 : (((rd_T49 l1 ((rd_T85 l0_0 x13_3).f2)).f0) != 0) = true:=bne_iff_ne.mpr c40
                       have H':=Aside0.mk H
                       clear H
                       have hcz66_0 : wr.cell? ⟨gb151,0,none⟩ = some (.slice A0_0 l0_0.length c0_0):=(blk_cell BK151.out 0).trans rfl
                       have hcz66_1 : wr.cell? ⟨gb151,1,none⟩ = some (.int .i64 a0_1):=(blk_cell BK151.out 1).trans rfl
                       have hfz66_0:=blk_frozen BK151.out 0
                       have hfz66_1:=blk_frozen BK151.out 1
                       have p164 : 0 ≤ (x13_3 : Int):=of_decide_eq_true (by first|(with_reducible assumption)|assumption)
                       have q164 : x13_3 < (l0_0.length : Int):=of_decide_eq_true (by first|(with_reducible assumption)|assumption)
                       obtain ⟨ad164,e164,hx164_0,hx164_1,hx164_2⟩:=at_T85 HR0_0.out x13_3 p164 q164
                       cases e164
                       replace hx164_0:=(HB.out.cell (World.block_lt_of_cell? w _ hx164_0)).trans hx164_0
                       replace hx164_1:=(HB.out.cell (World.block_lt_of_cell? w _ hx164_1)).trans hx164_1
                       replace hx164_2:=(HB.out.cell (World.block_lt_of_cell? w _ hx164_2)).trans hx164_2
                       replace p164:=eq_true p164
                       replace q164:=eq_true q164
                       try go_wp2_with (first|((with_reducible refine gate_dst (N:=14) rfl ?_);refine box_event ?hg (N:=14) ?hd (cs:=#[.int .i64 0,.int .i64 0,.int .i64 0]) (t:=85) ?hr ?_;(case hd=>rfl);(case hg=>rfl);(case hr=>first|(go_simp;done)|(go_simp;rfl));intro gb165 hg w67 hbox hb;have n0_:=Aside0.mk (Kd.R_below (by (with_reducible repeat (first|apply Kd.R_alloc|apply Kd.R_drewN|apply Kd.R_drew));exact HO_9.out) hb);have n1_:=Aside0.mk (Kd.R_below (by (with_reducible repeat (first|apply Kd.R_alloc|apply Kd.R_drewN|apply Kd.R_drew));exact HO_10.out) hb);have n2_:=Aside0.mk (Kd.R_below (by (with_reducible repeat (first|apply Kd.R_alloc|apply Kd.R_drewN|apply Kd.R_drew));exact HO_12.out) hb);have n3_:=Aside0.mk (blk_below (g:=gb151) (o:=.cells #[.slice (some ad164) l0_0.length c0_0,.int .i64 a0_1] 59 (0,0)) (by (with_reducible repeat (first|refine blk_drewN ?_ _|refine blk_drew ?_|refine blk_alloc ?_ _));exact BK151.out) hb);have n4_:=Aside0.mk (below_step (by repeat (first|(with_reducible first|exact HB.out|apply below_alloc|apply pw_below_drewN|apply below_drew1|refine below_set ?_ GE151.out)|exact HB.out)) hb);have n5_:=Aside0.mk (hbox);have n6_:=Aside0.mk ((by rw [hg];exact (below_size (by repeat (first|(with_reducible first|exact HB.out|apply below_alloc|apply pw_below_drewN|apply below_drew1|refine below_set ?_ GE151.out)|exact HB.out))) : w.heap.size ≤ gb165));have n7_:=Aside0.mk ((by rw [hg];exact (below_size (by repeat (first|(with_reducible first|exact HB.out|apply below_alloc|apply pw_below_drewN|apply below_drew1|refine below_set ?_ GE151.out)|exact HB.out))) : w.heap.size ≤ gb165));have n8_:=Aside0.mk ((by rw [hg];exact Nat.ne_of_lt (blk_lt (g:=gb151) (o:=.cells #[.slice (some ad164) l0_0.length c0_0,.int .i64 a0_1] 59 (0,0)) (by (with_reducible repeat (first|refine blk_drewN ?_ _|refine blk_drew ?_|refine blk_alloc ?_ _));exact BK151.out)) : gb151 ≠ gb165));have n9_:=Aside0.mk ((by rw [hg];exact Nat.ne_of_gt (blk_lt (g:=gb151) (o:=.cells #[.slice (some ad164) l0_0.length c0_0,.int .i64 a0_1] 59 (0,0)) (by (with_reducible repeat (first|refine blk_drewN ?_ _|refine blk_drew ?_|refine blk_alloc ?_ _));exact BK151.out)) : gb165 ≠ gb151));clear HO_9;clear HO_10;clear HO_12;clear BK151;clear HB;have HO_9:=n0_;have HO_10:=n1_;have HO_12:=n2_;have BK151:=n3_;have HB:=n4_;have BK165:=n5_;have GW165:=n6_;have GE165:=n7_;have NB151_165:=n8_;have NB165_151:=n9_;clear n0_ n1_ n2_ n3_ n4_ n5_ n6_ n7_ n8_ n9_;clear hb hbox hg;have hnb68:=NB165_151.out;have hnc68:=NB151_165.out;have hcz69_0 : w67.cell? ⟨gb165,0,none⟩ = some (.int .i64 0):=(blk_cell BK165.out 0).trans rfl;have hcz69_1 : w67.cell? ⟨gb165,1,none⟩ = some (.int .i64 0):=(blk_cell BK165.out 1).trans rfl;have hcz69_2 : w67.cell? ⟨gb165,2,none⟩ = some (.int .i64 0):=(blk_cell BK165.out 2).trans rfl;have hfz69_0:=blk_frozen BK165.out 0;have hfz69_1:=blk_frozen BK165.out 1;have hfz69_2:=blk_frozen BK165.out 2))
                       have n0_ : Aside0 (Kd.R (Kd.int .i64) 3 (((w67.setCell ⟨gb165,0,none⟩ (.int .i64 ((rd_T85 l0_0 x13_3).f0))).setCell ⟨gb165,1,none⟩ (.int .i64 ((rd_T85 l0_0 x13_3).f1))).setCell ⟨gb165,2,none⟩ (.int .i64 ((rd_T85 l0_0 x13_3).f2))) w.heap.size (fun _=>True) u9 x9_16):=⟨by (with_reducible repeat (first|apply Kd.R_alloc|apply Kd.R_drewN|apply Kd.R_drew));exact Kd.R_mono (Kd.R_far (p:=⟨gb165,2,none⟩) (Kd.R_far (p:=⟨gb165,1,none⟩) (Kd.R_far (p:=⟨gb165,0,none⟩) (Kd.R_types HO_9.out BK165.out (by decide)) (fun _ hk=>hk.2) (.int .i64 ((rd_T85 l0_0 x13_3).f0))) (fun _ hk=>hk.2) (.int .i64 ((rd_T85 l0_0 x13_3).f1))) (fun _ hk=>hk.2) (.int .i64 ((rd_T85 l0_0 x13_3).f2))) (fun _ hk=>trivial)⟩
                       have n1_ : Aside0 (Kd.R Kd.bool 4 (((w67.setCell ⟨gb165,0,none⟩ (.int .i64 ((rd_T85 l0_0 x13_3).f0))).setCell ⟨gb165,1,none⟩ (.int .i64 ((rd_T85 l0_0 x13_3).f1))).setCell ⟨gb165,2,none⟩ (.int .i64 ((rd_T85 l0_0 x13_3).f2))) w.heap.size (fun k_=>some k_ ≠ (v162 : Value).ownBlock) (.slice (some ad157) t156.length co19) t156):=⟨by (with_reducible repeat (first|apply Kd.R_alloc|apply Kd.R_drewN|apply Kd.R_drew));exact Kd.R_mono (Kd.R_far (p:=⟨gb165,2,none⟩) (Kd.R_far (p:=⟨gb165,1,none⟩) (Kd.R_far (p:=⟨gb165,0,none⟩) (Kd.R_types HO_10.out BK165.out (by decide)) (fun _ hk=>hk.2) (.int .i64 ((rd_T85 l0_0 x13_3).f0))) (fun _ hk=>hk.2) (.int .i64 ((rd_T85 l0_0 x13_3).f1))) (fun _ hk=>hk.2) (.int .i64 ((rd_T85 l0_0 x13_3).f2))) (fun _ hk=>hk.1)⟩
                       have n2_ : Aside0 (Kd.R Kd.bool 4 (((w67.setCell ⟨gb165,0,none⟩ (.int .i64 ((rd_T85 l0_0 x13_3).f0))).setCell ⟨gb165,1,none⟩ (.int .i64 ((rd_T85 l0_0 x13_3).f1))).setCell ⟨gb165,2,none⟩ (.int .i64 ((rd_T85 l0_0 x13_3).f2))) w.heap.size (fun k_=>some k_ ≠ (.slice (some ad157) t156.length co19 : Value).ownBlock) v162 x12_3):=⟨by (with_reducible repeat (first|apply Kd.R_alloc|apply Kd.R_drewN|apply Kd.R_drew));exact Kd.R_mono (Kd.R_far (p:=⟨gb165,2,none⟩) (Kd.R_far (p:=⟨gb165,1,none⟩) (Kd.R_far (p:=⟨gb165,0,none⟩) (Kd.R_types HO_12.out BK165.out (by decide)) (fun _ hk=>hk.2) (.int .i64 ((rd_T85 l0_0 x13_3).f0))) (fun _ hk=>hk.2) (.int .i64 ((rd_T85 l0_0 x13_3).f1))) (fun _ hk=>hk.2) (.int .i64 ((rd_T85 l0_0 x13_3).f2))) (fun _ hk=>hk.1)⟩
                       have n3_ : Aside0 ((((w67.setCell ⟨gb165,0,none⟩ (.int .i64 ((rd_T85 l0_0 x13_3).f0))).setCell ⟨gb165,1,none⟩ (.int .i64 ((rd_T85 l0_0 x13_3).f1))).setCell ⟨gb165,2,none⟩ (.int .i64 ((rd_T85 l0_0 x13_3).f2))).heap[gb151]? = some (.cells #[.slice (some ad164) l0_0.length c0_0,.int .i64 a0_1] 59 (0,0))):=⟨by (with_reducible repeat (first|refine blk_drewN ?_ _|refine blk_drew ?_|refine blk_alloc ?_ _));refine blk_far ?_ NB151_165.out _;(with_reducible repeat (first|refine blk_drewN ?_ _|refine blk_drew ?_|refine blk_alloc ?_ _));refine blk_far ?_ NB151_165.out _;(with_reducible repeat (first|refine blk_drewN ?_ _|refine blk_drew ?_|refine blk_alloc ?_ _));refine blk_far ?_ NB151_165.out _;(with_reducible repeat (first|refine blk_drewN ?_ _|refine blk_drew ?_|refine blk_alloc ?_ _));exact BK151.out⟩
                       have n4_ : Aside0 ((((w67.setCell ⟨gb165,0,none⟩ (.int .i64 ((rd_T85 l0_0 x13_3).f0))).setCell ⟨gb165,1,none⟩ (.int .i64 ((rd_T85 l0_0 x13_3).f1))).setCell ⟨gb165,2,none⟩ (.int .i64 ((rd_T85 l0_0 x13_3).f2))).heap[gb165]? = some (.cells #[.int .i64 ((rd_T85 l0_0 x13_3).f0),.int .i64 ((rd_T85 l0_0 x13_3).f1),.int .i64 ((rd_T85 l0_0 x13_3).f2)] 85 (0,0))):=⟨by (with_reducible repeat (first|refine blk_drewN ?_ _|refine blk_drew ?_|refine blk_alloc ?_ _));refine blk_put (cs:=#[.int .i64 ((rd_T85 l0_0 x13_3).f0),.int .i64 ((rd_T85 l0_0 x13_3).f1),.int .i64 0]) ?_ 2 _ rfl;(with_reducible repeat (first|refine blk_drewN ?_ _|refine blk_drew ?_|refine blk_alloc ?_ _));refine blk_put (cs:=#[.int .i64 ((rd_T85 l0_0 x13_3).f0),.int .i64 0,.int .i64 0]) ?_ 1 _ rfl;(with_reducible repeat (first|refine blk_drewN ?_ _|refine blk_drew ?_|refine blk_alloc ?_ _));refine blk_put (cs:=#[.int .i64 0,.int .i64 0,.int .i64 0]) ?_ 0 _ rfl;(with_reducible repeat (first|refine blk_drewN ?_ _|refine blk_drew ?_|refine blk_alloc ?_ _));exact BK165.out⟩
                       have n5_ : Aside0 (Below w.heap.size w (((w67.setCell ⟨gb165,0,none⟩ (.int .i64 ((rd_T85 l0_0 x13_3).f0))).setCell ⟨gb165,1,none⟩ (.int .i64 ((rd_T85 l0_0 x13_3).f1))).setCell ⟨gb165,2,none⟩ (.int .i64 ((rd_T85 l0_0 x13_3).f2)))):=⟨by repeat (first|(with_reducible first|exact HB.out|apply below_alloc|apply pw_below_drewN|apply below_drew1|refine below_set ?_ GE151.out|refine below_set ?_ GE165.out)|exact HB.out)⟩
                       (try clear HO_9)
                       (try clear HO_10)
                       (try clear HO_12)
                       (try clear BK151)
                       (try clear BK165)
                       (try clear HB)
                       generalize (((w67.setCell ⟨gb165,0,none⟩ (.int .i64 ((rd_T85 l0_0 x13_3).f0))).setCell ⟨gb165,1,none⟩ (.int .i64 ((rd_T85 l0_0 x13_3).f1))).setCell ⟨gb165,2,none⟩ (.int .i64 ((rd_T85 l0_0 x13_3).f2))) = w70 at n0_ n1_ n2_ n3_ n4_ n5_ ⊢
                       have HO_9:=n0_
                       have HO_10:=n1_
                       have HO_12:=n2_
                       have BK151:=n3_
                       have BK165:=n4_
                       have HB:=n5_
                       clear n0_ n1_ n2_ n3_ n4_ n5_
                       have n0_:=Aside0.mk (Kd.R_drew HO_9.out)
                       have n1_:=Aside0.mk (Kd.R_drew HO_10.out)
                       have n2_:=Aside0.mk (Kd.R_drew HO_12.out)
                       have n3_:=Aside0.mk (blk_drew BK151.out)
                       have n4_:=Aside0.mk (blk_drew BK165.out)
                       have n5_:=Aside0.mk (below_drew1 HB.out)
                       clear HO_9
                       clear HO_10
                       clear HO_12
                       clear BK151
                       clear BK165
                       clear HB
                       have HO_9:=n0_
                       have HO_10:=n1_
                       have HO_12:=n2_
                       have BK151:=n3_
                       have BK165:=n4_
                       have HB:=n5_
                       clear n0_ n1_ n2_ n3_ n4_ n5_
                       have p166 : 0 ≤ (((rd_T85 l0_0 x13_3).f0) : Int):=of_decide_eq_true (by first|(with_reducible assumption)|assumption)
                       have q166 : ((rd_T85 l0_0 x13_3).f0) < (t156.length : Int):=of_decide_eq_true (by first|(with_reducible assumption)|assumption)
                       obtain ⟨ad166,e166,hx166_0⟩:=Kd.at_bool (Kd.R_reads' HO_10.out).2.2 ((rd_T85 l0_0 x13_3).f0) p166 q166
                       (try rw [← Nbq35.out] at hx166_0)
                       obtain rfl : ad157 = ad166:=(by injection e166)
                       replace p166:=eq_true p166
                       replace q166:=eq_true q166
                       have p167 : 0 ≤ (((rd_T85 l0_0 x13_3).f2) : Int):=of_decide_eq_true (by first|(with_reducible assumption)|assumption)
                       have q167 : ((rd_T85 l0_0 x13_3).f2) < (l1.length : Int):=of_decide_eq_true (by first|(with_reducible assumption)|assumption)
                       obtain ⟨ad167,A167_3,c167_3,e167,hx167_0,hx167_1,hx167_2,hx167_3,hl167_3,hi167_3⟩:=at_T49 HR1.out ((rd_T85 l0_0 x13_3).f2) p167 q167
                       have hw167_3:=hx167_3
                       have hw167_2:=hx167_2
                       have hw167_1:=hx167_1
                       have hw167_0:=hx167_0
                       (try rw [← Nbq35.out] at hx167_1)
                       cases e167
                       replace hx167_0:=(HB.out.cell (World.block_lt_of_cell? w _ hx167_0)).trans hx167_0
                       replace hx167_1:=(HB.out.cell (World.block_lt_of_cell? w _ hx167_1)).trans hx167_1
                       replace hx167_2:=(HB.out.cell (World.block_lt_of_cell? w _ hx167_2)).trans hx167_2
                       replace hx167_3:=(HB.out.cell (World.block_lt_of_cell? w _ hx167_3)).trans hx167_3
                       have HR167_3:=Aside0.mk hi167_3
                       have HC167_3:=Aside0.mk hl167_3
                       clear hi167_3 hl167_3
                       replace p167:=eq_true p167
                       replace q167:=eq_true q167
                       refine start_ (n:=30) (S:=fun w'=>w'.cell? ⟨gb165,0,none⟩ = some (.int .i64 ((rd_T85 l0_0 x13_3).f0)) ∧ w'.cell? ⟨gb165,1,none⟩ = some (.int .i64 ((rd_T85 l0_0 x13_3).f1)) ∧ w'.cell? ⟨gb165,2,none⟩ = some (.int .i64 ((rd_T85 l0_0 x13_3).f2)) ∧ w'.cell? (ad157.add (((rd_T85 l0_0 x13_3).f0)).toNat) = some (.bool true) ∧ w'.cell? (ad167.add ((((rd_T85 l0_0 x13_3).f2)).toNat * 4)) = some (.int .i64 ((rd_T49 l1 ((rd_T85 l0_0 x13_3).f2)).f0)) ∧ w'.cell? ⟨(ad167.add ((((rd_T85 l0_0 x13_3).f2)).toNat * 4)).block,(ad167.add ((((rd_T85 l0_0 x13_3).f2)).toNat * 4)).off + 1,none⟩ = some (.bool ((rd_T49 l1 ((rd_T85 l0_0 x13_3).f2)).f1)) ∧ w'.cell? ⟨(ad167.add ((((rd_T85 l0_0 x13_3).f2)).toNat * 4)).block,(ad167.add ((((rd_T85 l0_0 x13_3).f2)).toNat * 4)).off + 2,none⟩ = some (.string ((rd_T49 l1 ((rd_T85 l0_0 x13_3).f2)).f2)) ∧ w'.cell? ⟨(ad167.add ((((rd_T85 l0_0 x13_3).f2)).toNat * 4)).block,(ad167.add ((((rd_T85 l0_0 x13_3).f2)).toNat * 4)).off + 3,none⟩ = some (.slice A167_3 ((rd_T49 l1 ((rd_T85 l0_0 x13_3).f2)).f3).length c167_3)) (ds:=[]) #[false,false,false,false,false,false,false,false,false,false,false,false,false,false,false,false,false,false,false,false,false,false,false,false,false,false,false,false,false,false] (by kernel_rfl) rfl rfl ⟨(blk_cell BK165.out 0).trans rfl,(blk_cell BK165.out 1).trans rfl,(blk_cell BK165.out 2).trans rfl,hx166_0,((HB.out.cell (World.block_lt_of_cell? w _ hw167_0)).trans hw167_0),((HB.out.cell (World.block_lt_of_cell? w _ hw167_1)).trans hw167_1),((HB.out.cell (World.block_lt_of_cell? w _ hw167_2)).trans hw167_2),((HB.out.cell (World.block_lt_of_cell? w _ hw167_3)).trans hw167_3)⟩ (fun hHeld=>?_);refine with_tabW spec_l2ends.tab16 spec_l2ends.bits16 (fun HT_ HW_=>?_)
                       generalize w70.drew = w71 at HO_9 HO_10 HO_12 BK151 BK165 HB HR167_3 hx166_0 hx167_0 hx167_1 hx167_2 hx167_3 hHeld ⊢
                       refine pure_ (i:=0) (N:=some 56) (v:=?_) (a':=?_) #[true,false,false,false,false,false,false,false,false,false,false,false,false,false,false,false,false,false,false,false,false,false,false,false,false,false,false,false,false,false] rfl rfl (any_of HT_.out (by kernel_rfl)) (fun _ _ _ h=>h) (Or.inl ⟨by rfl,?_⟩) ?_ ?_
                       rotate_left
                       ·intro w'
                        go_simp
                        first|with_reducible rfl|(rw [if_neg (by simp only [ByteArray.size_append,ByteArray.size_extract,eq_iff_iff,iff_true,iff_false] at *;omega)];try with_reducible rfl)
                       rotate_left
                       ·simp only [Act.put,List.setIfInBounds_toArray,List.set_cons_zero,List.set_cons_succ,i64_w,i32_w]
                        rfl
                       refine pure_ (i:=1) (N:=some 57) (v:=?_) (a':=?_) #[true,true,false,false,false,false,false,false,false,false,false,false,false,false,false,false,false,false,false,false,false,false,false,false,false,false,false,false,false,false] rfl rfl (any_of HT_.out (by kernel_rfl)) (fun _ _ _ h=>h) (Or.inl ⟨by rfl,?_⟩) ?_ ?_
                       rotate_left
                       ·intro w'
                        go_simp
                        first|with_reducible rfl|(rw [if_neg (by simp only [ByteArray.size_append,ByteArray.size_extract,eq_iff_iff,iff_true,iff_false] at *;omega)];try with_reducible rfl)
                       rotate_left
                       ·simp only [Act.put,List.setIfInBounds_toArray,List.set_cons_zero,List.set_cons_succ,i64_w,i32_w]
                        rfl
                       refine take_ (i:=2) (N:=some 58) (v:=?_) (a':=?_) #[true,true,true,false,false,false,false,false,false,false,false,false,false,false,false,false,false,false,false,false,false,false,false,false,false,false,false,false,false,false] rfl rfl (take_ofW HT_.out HW_.out (by kernel_rfl)) (fun _ _ _ h=>h) (Or.inl ⟨by rfl,?_⟩) hHeld ?_ ?_
                       rotate_left
                       ·rintro w' ⟨s0,s1,s2,s3,s4,s5,s6,s7⟩
                        go_simp
                        first|with_reducible rfl|(rw [if_neg (by simp only [ByteArray.size_append,ByteArray.size_extract,eq_iff_iff,iff_true,iff_false] at *;omega)];try with_reducible rfl)
                       rotate_left
                       ·simp only [Act.put,List.setIfInBounds_toArray,List.set_cons_zero,List.set_cons_succ,i64_w,i32_w]
                        rfl
                       refine pure_ (i:=3) (N:=some 59) (v:=?_) (a':=?_) #[true,true,true,true,false,false,false,false,false,false,false,false,false,false,false,false,false,false,false,false,false,false,false,false,false,false,false,false,false,false] rfl rfl (any_of HT_.out (by kernel_rfl)) (fun _ _ _ h=>h) (Or.inl ⟨by rfl,?_⟩) ?_ ?_
                       rotate_left
                       ·intro w'
                        go_simp
                        first|with_reducible rfl|(rw [if_neg (by simp only [ByteArray.size_append,ByteArray.size_extract,eq_iff_iff,iff_true,iff_false] at *;omega)];try with_reducible rfl)
                       rotate_left
                       ·simp only [Act.put,List.setIfInBounds_toArray,List.set_cons_zero,List.set_cons_succ,i64_w,i32_w]
                        rfl
                       refine take_ (i:=4) (N:=some 60) (v:=?_) (a':=?_) #[true,true,true,true,true,false,false,false,false,false,false,false,false,false,false,false,false,false,false,false,false,false,false,false,false,false,false,false,false,false] rfl rfl (take_ofW HT_.out HW_.out (by kernel_rfl)) (fun _ _ _ h=>h) (Or.inl ⟨by rfl,?_⟩) hHeld ?_ ?_
                       rotate_left
                       ·rintro w' ⟨s0,s1,s2,s3,s4,s5,s6,s7⟩
                        go_simp
                        first|with_reducible rfl|(rw [if_neg (by simp only [ByteArray.size_append,ByteArray.size_extract,eq_iff_iff,iff_true,iff_false] at *;omega)];try with_reducible rfl)
                       rotate_left
                       ·simp only [Act.put,List.setIfInBounds_toArray,List.set_cons_zero,List.set_cons_succ,i64_w,i32_w]
                        rfl
                       refine pure_ (i:=5) (N:=some 61) (v:=?_) (a':=?_) #[true,true,true,true,true,true,false,false,false,false,false,false,false,false,false,false,false,false,false,false,false,false,false,false,false,false,false,false,false,false] rfl rfl (any_of HT_.out (by kernel_rfl)) (fun _ _ _ h=>h) (Or.inl ⟨by rfl,?_⟩) ?_ ?_
                       rotate_left
                       ·intro w'
                        go_simp
                        first|with_reducible rfl|(rw [if_neg (by simp only [ByteArray.size_append,ByteArray.size_extract,eq_iff_iff,iff_true,iff_false] at *;omega)];try with_reducible rfl)
                       rotate_left
                       ·simp only [Act.put,List.setIfInBounds_toArray,List.set_cons_zero,List.set_cons_succ,i64_w,i32_w]
                        rfl
                       refine pure_ (i:=6) (N:=some 62) (v:=?_) (a':=?_) #[true,true,true,true,true,true,true,false,false,false,false,false,false,false,false,false,false,false,false,false,false,false,false,false,false,false,false,false,false,false] rfl rfl (any_of HT_.out (by kernel_rfl)) (fun _ _ _ h=>h) (Or.inl ⟨by rfl,?_⟩) ?_ ?_
                       rotate_left
                       ·intro w'
                        go_simp
                        first|with_reducible rfl|(rw [if_neg (by simp only [ByteArray.size_append,ByteArray.size_extract,eq_iff_iff,iff_true,iff_false] at *;omega)];try with_reducible rfl)
                       rotate_left
                       ·simp only [Act.put,List.setIfInBounds_toArray,List.set_cons_zero,List.set_cons_succ,i64_w,i32_w]
                        rfl
                       refine take_ (i:=7) (N:=some 63) (v:=?_) (a':=?_) #[true,true,true,true,true,true,true,true,false,false,false,false,false,false,false,false,false,false,false,false,false,false,false,false,false,false,false,false,false,false] rfl rfl (take_ofW HT_.out HW_.out (by kernel_rfl)) (fun _ _ _ h=>h) (Or.inl ⟨by rfl,?_⟩) hHeld ?_ ?_
                       rotate_left
                       ·rintro w' ⟨s0,s1,s2,s3,s4,s5,s6,s7⟩
                        go_simp
                        first|with_reducible rfl|(rw [if_neg (by simp only [ByteArray.size_append,ByteArray.size_extract,eq_iff_iff,iff_true,iff_false] at *;omega)];try with_reducible rfl)
                       rotate_left
                       ·simp only [Act.put,List.setIfInBounds_toArray,List.set_cons_zero,List.set_cons_succ,i64_w,i32_w]
                        rfl
                       refine pure_ (i:=8) (N:=some 64) (v:=?_) (a':=?_) #[true,true,true,true,true,true,true,true,true,false,false,false,false,false,false,false,false,false,false,false,false,false,false,false,false,false,false,false,false,false] rfl rfl (any_of HT_.out (by kernel_rfl)) (fun _ _ _ h=>h) (Or.inl ⟨by rfl,?_⟩) ?_ ?_
                       rotate_left
                       ·intro w'
                        go_simp
                        first|with_reducible rfl|(rw [if_neg (by simp only [ByteArray.size_append,ByteArray.size_extract,eq_iff_iff,iff_true,iff_false] at *;omega)];try with_reducible rfl)
                       rotate_left
                       ·simp only [Act.put,List.setIfInBounds_toArray,List.set_cons_zero,List.set_cons_succ,i64_w,i32_w]
                        rfl
                       refine pure_ (i:=9) (N:=some 65) (v:=?_) (a':=?_) #[true,true,true,true,true,true,true,true,true,true,false,false,false,false,false,false,false,false,false,false,false,false,false,false,false,false,false,false,false,false] rfl rfl (any_of HT_.out (by kernel_rfl)) (fun _ _ _ h=>h) (Or.inl ⟨by rfl,?_⟩) ?_ ?_
                       rotate_left
                       ·intro w'
                        go_simp
                        first|with_reducible rfl|(rw [if_neg (by simp only [ByteArray.size_append,ByteArray.size_extract,eq_iff_iff,iff_true,iff_false] at *;omega)];try with_reducible rfl)
                       rotate_left
                       ·simp only [Act.put,List.setIfInBounds_toArray,List.set_cons_zero,List.set_cons_succ,i64_w,i32_w]
                        rfl
                       refine pure_ (i:=10) (N:=some 66) (v:=?_) (a':=?_) #[true,true,true,true,true,true,true,true,true,true,true,false,false,false,false,false,false,false,false,false,false,false,false,false,false,false,false,false,false,false] rfl rfl (any_of HT_.out (by kernel_rfl)) (fun _ _ _ h=>h) (Or.inl ⟨by rfl,?_⟩) ?_ ?_
                       rotate_left
                       ·intro w'
                        go_simp
                        first|with_reducible rfl|(rw [if_neg (by simp only [ByteArray.size_append,ByteArray.size_extract,eq_iff_iff,iff_true,iff_false] at *;omega)];try with_reducible rfl)
                       rotate_left
                       ·simp only [Act.put,List.setIfInBounds_toArray,List.set_cons_zero,List.set_cons_succ,i64_w,i32_w]
                        rfl
                       refine pure_ (i:=11) (N:=some 67) (v:=?_) (a':=?_) #[true,true,true,true,true,true,true,true,true,true,true,true,false,false,false,false,false,false,false,false,false,false,false,false,false,false,false,false,false,false] rfl rfl (any_of HT_.out (by kernel_rfl)) (fun _ _ _ h=>h) (Or.inl ⟨by rfl,?_⟩) ?_ ?_
                       rotate_left
                       ·intro w'
                        go_simp
                        first|with_reducible rfl|(rw [if_neg (by simp only [ByteArray.size_append,ByteArray.size_extract,eq_iff_iff,iff_true,iff_false] at *;omega)];try with_reducible rfl)
                       rotate_left
                       ·simp only [Act.put,List.setIfInBounds_toArray,List.set_cons_zero,List.set_cons_succ,i64_w,i32_w]
                        rfl
                       refine pure_ (i:=12) (N:=some 68) (v:=?_) (a':=?_) #[true,true,true,true,true,true,true,true,true,true,true,true,true,false,false,false,false,false,false,false,false,false,false,false,false,false,false,false,false,false] rfl rfl (any_of HT_.out (by kernel_rfl)) (fun _ _ _ h=>h) (Or.inl ⟨by rfl,?_⟩) ?_ ?_
                       rotate_left
                       ·intro w'
                        go_simp
                        first|with_reducible rfl|(rw [if_neg (by simp only [ByteArray.size_append,ByteArray.size_extract,eq_iff_iff,iff_true,iff_false] at *;omega)];try with_reducible rfl)
                       rotate_left
                       ·simp only [Act.put,List.setIfInBounds_toArray,List.set_cons_zero,List.set_cons_succ,i64_w,i32_w]
                        rfl
                       refine take_ (i:=13) (N:=some 69) (v:=?_) (a':=?_) #[true,true,true,true,true,true,true,true,true,true,true,true,true,true,false,false,false,false,false,false,false,false,false,false,false,false,false,false,false,false] rfl rfl (take_ofW HT_.out HW_.out (by kernel_rfl)) (fun _ _ _ h=>h) (Or.inl ⟨by rfl,?_⟩) hHeld ?_ ?_
                       rotate_left
                       ·rintro w' ⟨s0,s1,s2,s3,s4,s5,s6,s7⟩
                        go_simp
                        first|with_reducible rfl|(rw [if_neg (by simp only [ByteArray.size_append,ByteArray.size_extract,eq_iff_iff,iff_true,iff_false] at *;omega)];try with_reducible rfl)
                       rotate_left
                       ·simp only [Act.put,List.setIfInBounds_toArray,List.set_cons_zero,List.set_cons_succ,i64_w,i32_w]
                        rfl
                       refine pure_ (i:=14) (N:=some 70) (v:=?_) (a':=?_) #[true,true,true,true,true,true,true,true,true,true,true,true,true,true,true,false,false,false,false,false,false,false,false,false,false,false,false,false,false,false] rfl rfl (any_of HT_.out (by kernel_rfl)) (fun _ _ _ h=>h) (Or.inl ⟨by rfl,?_⟩) ?_ ?_
                       rotate_left
                       ·intro w'
                        go_simp
                        first|with_reducible rfl|(rw [if_neg (by simp only [ByteArray.size_append,ByteArray.size_extract,eq_iff_iff,iff_true,iff_false] at *;omega)];try with_reducible rfl)
                       rotate_left
                       ·simp only [Act.put,List.setIfInBounds_toArray,List.set_cons_zero,List.set_cons_succ,i64_w,i32_w]
                        rfl
                       refine pure_ (i:=15) (N:=some 71) (v:=?_) (a':=?_) #[true,true,true,true,true,true,true,true,true,true,true,true,true,true,true,true,false,false,false,false,false,false,false,false,false,false,false,false,false,false] rfl rfl (any_of HT_.out (by kernel_rfl)) (fun _ _ _ h=>h) (Or.inl ⟨by rfl,?_⟩) ?_ ?_
                       rotate_left
                       ·intro w'
                        go_simp
                        first|with_reducible rfl|(rw [if_neg (by simp only [ByteArray.size_append,ByteArray.size_extract,eq_iff_iff,iff_true,iff_false] at *;omega)];try with_reducible rfl)
                       rotate_left
                       ·simp only [Act.put,List.setIfInBounds_toArray,List.set_cons_zero,List.set_cons_succ,i64_w,i32_w]
                        rfl
                       refine take_ (i:=16) (N:=some 72) (v:=?_) (a':=?_) #[true,true,true,true,true,true,true,true,true,true,true,true,true,true,true,true,true,false,false,false,false,false,false,false,false,false,false,false,false,false] rfl rfl (take_ofW HT_.out HW_.out (by kernel_rfl)) (fun _ _ _ h=>h) (Or.inl ⟨by rfl,?_⟩) hHeld ?_ ?_
                       rotate_left
                       ·rintro w' ⟨s0,s1,s2,s3,s4,s5,s6,s7⟩
                        go_simp
                        first|with_reducible rfl|(rw [if_neg (by simp only [ByteArray.size_append,ByteArray.size_extract,eq_iff_iff,iff_true,iff_false] at *;omega)];try with_reducible rfl)
                       rotate_left
                       ·simp only [Act.put,List.setIfInBounds_toArray,List.set_cons_zero,List.set_cons_succ,i64_w,i32_w]
                        rfl
                       refine pure_ (i:=17) (N:=some 73) (v:=?_) (a':=?_) #[true,true,true,true,true,true,true,true,true,true,true,true,true,true,true,true,true,true,false,false,false,false,false,false,false,false,false,false,false,false] rfl rfl (any_of HT_.out (by kernel_rfl)) (fun _ _ _ h=>h) (Or.inl ⟨by rfl,?_⟩) ?_ ?_
                       rotate_left
                       ·intro w'
                        go_simp
                        first|with_reducible rfl|(rw [if_neg (by simp only [ByteArray.size_append,ByteArray.size_extract,eq_iff_iff,iff_true,iff_false] at *;omega)];try with_reducible rfl)
                       rotate_left
                       ·simp only [Act.put,List.setIfInBounds_toArray,List.set_cons_zero,List.set_cons_succ,i64_w,i32_w]
                        rfl
                       refine pure_ (i:=18) (N:=some 74) (v:=?_) (a':=?_) #[true,true,true,true,true,true,true,true,true,true,true,true,true,true,true,true,true,true,true,false,false,false,false,false,false,false,false,false,false,false] rfl rfl (any_of HT_.out (by kernel_rfl)) (fun _ _ _ h=>h) (Or.inl ⟨by rfl,?_⟩) ?_ ?_
                       rotate_left
                       ·intro w'
                        go_simp
                        first|with_reducible rfl|(rw [if_neg (by simp only [ByteArray.size_append,ByteArray.size_extract,eq_iff_iff,iff_true,iff_false] at *;omega)];try with_reducible rfl)
                       rotate_left
                       ·simp only [Act.put,List.setIfInBounds_toArray,List.set_cons_zero,List.set_cons_succ,i64_w,i32_w]
                        rfl
                       refine pure_ (i:=19) (N:=some 75) (v:=?_) (a':=?_) #[true,true,true,true,true,true,true,true,true,true,true,true,true,true,true,true,true,true,true,true,false,false,false,false,false,false,false,false,false,false] rfl rfl (any_of HT_.out (by kernel_rfl)) (fun _ _ _ h=>h) (Or.inl ⟨by rfl,?_⟩) ?_ ?_
                       rotate_left
                       ·intro w'
                        go_simp
                        first|with_reducible rfl|(rw [if_neg (by simp only [ByteArray.size_append,ByteArray.size_extract,eq_iff_iff,iff_true,iff_false] at *;omega)];try with_reducible rfl)
                       rotate_left
                       ·simp only [Act.put,List.setIfInBounds_toArray,List.set_cons_zero,List.set_cons_succ,i64_w,i32_w]
                        rfl
                       refine pure_ (i:=20) (N:=some 76) (v:=undef) (a':=?_) #[true,true,true,true,true,true,true,true,true,true,true,true,true,true,true,true,true,true,true,true,true,false,false,false,false,false,false,false,false,false] rfl rfl (any_of HT_.out (by kernel_rfl)) (fun _ _ _ h=>h) (Or.inr ⟨by rfl,rfl⟩) ?_ ?_
                       rotate_left
                       ·simp only [Act.put,List.setIfInBounds_toArray,List.set_cons_zero,List.set_cons_succ,i64_w,i32_w]
                        rfl
                       refine pure_ (i:=21) (N:=some 77) (v:=undef) (a':=?_) #[true,true,true,true,true,true,true,true,true,true,true,true,true,true,true,true,true,true,true,true,true,true,false,false,false,false,false,false,false,false] rfl rfl (any_of HT_.out (by kernel_rfl)) (fun _ _ _ h=>h) (Or.inr ⟨by rfl,rfl⟩) ?_ ?_
                       rotate_left
                       ·simp only [Act.put,List.setIfInBounds_toArray,List.set_cons_zero,List.set_cons_succ,i64_w,i32_w]
                        rfl
                       refine pure_ (i:=22) (N:=some 78) (v:=undef) (a':=?_) #[true,true,true,true,true,true,true,true,true,true,true,true,true,true,true,true,true,true,true,true,true,true,true,false,false,false,false,false,false,false] rfl rfl (any_of HT_.out (by kernel_rfl)) (fun _ _ _ h=>h) (Or.inr ⟨by rfl,rfl⟩) ?_ ?_
                       rotate_left
                       ·simp only [Act.put,List.setIfInBounds_toArray,List.set_cons_zero,List.set_cons_succ,i64_w,i32_w]
                        rfl
                       refine pure_ (i:=23) (N:=some 79) (v:=undef) (a':=?_) #[true,true,true,true,true,true,true,true,true,true,true,true,true,true,true,true,true,true,true,true,true,true,true,true,false,false,false,false,false,false] rfl rfl (any_of HT_.out (by kernel_rfl)) (fun _ _ _ h=>h) (Or.inr ⟨by rfl,rfl⟩) ?_ ?_
                       rotate_left
                       ·simp only [Act.put,List.setIfInBounds_toArray,List.set_cons_zero,List.set_cons_succ,i64_w,i32_w]
                        rfl
                       refine pure_ (i:=24) (N:=some 80) (v:=undef) (a':=?_) #[true,true,true,true,true,true,true,true,true,true,true,true,true,true,true,true,true,true,true,true,true,true,true,true,true,false,false,false,false,false] rfl rfl (any_of HT_.out (by kernel_rfl)) (fun _ _ _ h=>h) (Or.inr ⟨by rfl,rfl⟩) ?_ ?_
                       rotate_left
                       ·simp only [Act.put,List.setIfInBounds_toArray,List.set_cons_zero,List.set_cons_succ,i64_w,i32_w]
                        rfl
                       refine pure_ (i:=25) (N:=some 81) (v:=undef) (a':=?_) #[true,true,true,true,true,true,true,true,true,true,true,true,true,true,true,true,true,true,true,true,true,true,true,true,true,true,false,false,false,false] rfl rfl (any_of HT_.out (by kernel_rfl)) (fun _ _ _ h=>h) (Or.inr ⟨by rfl,rfl⟩) ?_ ?_
                       rotate_left
                       ·simp only [Act.put,List.setIfInBounds_toArray,List.set_cons_zero,List.set_cons_succ,i64_w,i32_w]
                        rfl
                       refine pure_ (i:=26) (N:=some 82) (v:=undef) (a':=?_) #[true,true,true,true,true,true,true,true,true,true,true,true,true,true,true,true,true,true,true,true,true,true,true,true,true,true,true,false,false,false] rfl rfl (any_of HT_.out (by kernel_rfl)) (fun _ _ _ h=>h) (Or.inr ⟨by rfl,rfl⟩) ?_ ?_
                       rotate_left
                       ·simp only [Act.put,List.setIfInBounds_toArray,List.set_cons_zero,List.set_cons_succ,i64_w,i32_w]
                        rfl
                       refine pure_ (i:=27) (N:=some 83) (v:=undef) (a':=?_) #[true,true,true,true,true,true,true,true,true,true,true,true,true,true,true,true,true,true,true,true,true,true,true,true,true,true,true,true,false,false] rfl rfl (any_of HT_.out (by kernel_rfl)) (fun _ _ _ h=>h) (Or.inr ⟨by rfl,rfl⟩) ?_ ?_
                       rotate_left
                       ·simp only [Act.put,List.setIfInBounds_toArray,List.set_cons_zero,List.set_cons_succ,i64_w,i32_w]
                        rfl
                       refine pure_ (i:=28) (N:=some 84) (v:=undef) (a':=?_) #[true,true,true,true,true,true,true,true,true,true,true,true,true,true,true,true,true,true,true,true,true,true,true,true,true,true,true,true,true,false] rfl rfl (any_of HT_.out (by kernel_rfl)) (fun _ _ _ h=>h) (Or.inr ⟨by rfl,rfl⟩) ?_ ?_
                       rotate_left
                       ·simp only [Act.put,List.setIfInBounds_toArray,List.set_cons_zero,List.set_cons_succ,i64_w,i32_w]
                        rfl
                       refine pure_ (i:=29) (N:=some 85) (v:=?_) (a':=?_) #[true,true,true,true,true,true,true,true,true,true,true,true,true,true,true,true,true,true,true,true,true,true,true,true,true,true,true,true,true,true] rfl rfl (any_of HT_.out (by kernel_rfl)) (fun _ _ _ h=>h) (Or.inl ⟨by rfl,?_⟩) ?_ ?_
                       rotate_left
                       ·intro w'
                        go_simp
                        first|with_reducible rfl|(rw [if_neg (by simp only [ByteArray.size_append,ByteArray.size_extract,eq_iff_iff,iff_true,iff_false] at *;omega)];try with_reducible rfl)
                       rotate_left
                       ·simp only [Act.put,List.setIfInBounds_toArray,List.set_cons_zero,List.set_cons_succ,i64_w,i32_w]
                        rfl
                       refine done_ (done_of HT_.out (by kernel_rfl)) ?_
                       try go_wp2
                       go_roundg k3
                       case measure=>have:=HK1.out;have:=HJ16.out;have:=HK3.out;omega
                       case rel=>exact ⟨(x12_3),(wrap64 (x13_3 + 1)),(by first|rfl|(simp;done)|(simp [*];done)),H',⟨by have:=HK1.out;have:=HJ16.out;have:=HK3.out;omega⟩,⟨by (try simp only [hl10_16]);(with_reducible repeat (first|apply Kd.R_alloc|apply Kd.R_drewN|apply Kd.R_drew));exact HO_9.out⟩,⟨by (try simp only [hl10_16]);(with_reducible repeat (first|apply Kd.R_alloc|apply Kd.R_drewN|apply Kd.R_drew));exact HO_10.out⟩,⟨by (try simp only [hl10_16]);(with_reducible repeat (first|apply Kd.R_alloc|apply Kd.R_drewN|apply Kd.R_drew));exact HO_12.out⟩,⟨by (try simp only [hl10_16]);(with_reducible repeat (first|refine blk_drewN ?_ _|refine blk_drew ?_|refine blk_alloc ?_ _));exact BK151.out⟩,⟨by repeat (first|(with_reducible first|exact HB.out|apply below_alloc|apply pw_below_drewN|apply below_drew1|refine below_set ?_ GE151.out|refine below_set ?_ GE165.out)|exact HB.out)⟩⟩
                     ·rw [if_neg c39] at H
                      exact absurd H (by simp)
                    ·rw [if_neg c38] at H
                     exact absurd H (by simp)
                   ·rw [if_neg c37] at H
                    have c37b0 : decide (0 ≤ ((rd_T85 l0_0 x13_3).f2)) = false:=decide_eq_false c37
                    clear c37
                    have H':=Aside0.mk H
                    clear H
                    have hcz72_0 : wr.cell? ⟨gb151,0,none⟩ = some (.slice A0_0 l0_0.length c0_0):=(blk_cell BK151.out 0).trans rfl
                    have hcz72_1 : wr.cell? ⟨gb151,1,none⟩ = some (.int .i64 a0_1):=(blk_cell BK151.out 1).trans rfl
                    have hfz72_0:=blk_frozen BK151.out 0
                    have hfz72_1:=blk_frozen BK151.out 1
                    have p164 : 0 ≤ (x13_3 : Int):=of_decide_eq_true (by first|(with_reducible assumption)|assumption)
                    have q164 : x13_3 < (l0_0.length : Int):=of_decide_eq_true (by first|(with_reducible assumption)|assumption)
                    obtain ⟨ad164,e164,hx164_0,hx164_1,hx164_2⟩:=at_T85 HR0_0.out x13_3 p164 q164
                    cases e164
                    replace hx164_0:=(HB.out.cell (World.block_lt_of_cell? w _ hx164_0)).trans hx164_0
                    replace hx164_1:=(HB.out.cell (World.block_lt_of_cell? w _ hx164_1)).trans hx164_1
                    replace hx164_2:=(HB.out.cell (World.block_lt_of_cell? w _ hx164_2)).trans hx164_2
                    replace p164:=eq_true p164
                    replace q164:=eq_true q164
                    try go_wp2_with (first|((with_reducible refine gate_dst (N:=14) rfl ?_);refine box_event ?hg (N:=14) ?hd (cs:=#[.int .i64 0,.int .i64 0,.int .i64 0]) (t:=85) ?hr ?_;(case hd=>rfl);(case hg=>rfl);(case hr=>first|(go_simp;done)|(go_simp;rfl));intro gb165 hg w73 hbox hb;have n0_:=Aside0.mk (Kd.R_below (by (with_reducible repeat (first|apply Kd.R_alloc|apply Kd.R_drewN|apply Kd.R_drew));exact HO_9.out) hb);have n1_:=Aside0.mk (Kd.R_below (by (with_reducible repeat (first|apply Kd.R_alloc|apply Kd.R_drewN|apply Kd.R_drew));exact HO_10.out) hb);have n2_:=Aside0.mk (Kd.R_below (by (with_reducible repeat (first|apply Kd.R_alloc|apply Kd.R_drewN|apply Kd.R_drew));exact HO_12.out) hb);have n3_:=Aside0.mk (blk_below (g:=gb151) (o:=.cells #[.slice (some ad164) l0_0.length c0_0,.int .i64 a0_1] 59 (0,0)) (by (with_reducible repeat (first|refine blk_drewN ?_ _|refine blk_drew ?_|refine blk_alloc ?_ _));exact BK151.out) hb);have n4_:=Aside0.mk (below_step (by repeat (first|(with_reducible first|exact HB.out|apply below_alloc|apply pw_below_drewN|apply below_drew1|refine below_set ?_ GE151.out)|exact HB.out)) hb);have n5_:=Aside0.mk (hbox);have n6_:=Aside0.mk ((by rw [hg];exact (below_size (by repeat (first|(with_reducible first|exact HB.out|apply below_alloc|apply pw_below_drewN|apply below_drew1|refine below_set ?_ GE151.out)|exact HB.out))) : w.heap.size ≤ gb165));have n7_:=Aside0.mk ((by rw [hg];exact (below_size (by repeat (first|(with_reducible first|exact HB.out|apply below_alloc|apply pw_below_drewN|apply below_drew1|refine below_set ?_ GE151.out)|exact HB.out))) : w.heap.size ≤ gb165));have n8_:=Aside0.mk ((by rw [hg];exact Nat.ne_of_lt (blk_lt (g:=gb151) (o:=.cells #[.slice (some ad164) l0_0.length c0_0,.int .i64 a0_1] 59 (0,0)) (by (with_reducible repeat (first|refine blk_drewN ?_ _|refine blk_drew ?_|refine blk_alloc ?_ _));exact BK151.out)) : gb151 ≠ gb165));have n9_:=Aside0.mk ((by rw [hg];exact Nat.ne_of_gt (blk_lt (g:=gb151) (o:=.cells #[.slice (some ad164) l0_0.length c0_0,.int .i64 a0_1] 59 (0,0)) (by (with_reducible repeat (first|refine blk_drewN ?_ _|refine blk_drew ?_|refine blk_alloc ?_ _));exact BK151.out)) : gb165 ≠ gb151));clear HO_9;clear HO_10;clear HO_12;clear BK151;clear HB;have HO_9:=n0_;have HO_10:=n1_;have HO_12:=n2_;have BK151:=n3_;have HB:=n4_;have BK165:=n5_;have GW165:=n6_;have GE165:=n7_;have NB151_165:=n8_;have NB165_151:=n9_;clear n0_ n1_ n2_ n3_ n4_ n5_ n6_ n7_ n8_ n9_;clear hb hbox hg;have hnb74:=NB165_151.out;have hnc74:=NB151_165.out;have hcz75_0 : w73.cell? ⟨gb165,0,none⟩ = some (.int .i64 0):=(blk_cell BK165.out 0).trans rfl;have hcz75_1 : w73.cell? ⟨gb165,1,none⟩ = some (.int .i64 0):=(blk_cell BK165.out 1).trans rfl;have hcz75_2 : w73.cell? ⟨gb165,2,none⟩ = some (.int .i64 0):=(blk_cell BK165.out 2).trans rfl;have hfz75_0:=blk_frozen BK165.out 0;have hfz75_1:=blk_frozen BK165.out 1;have hfz75_2:=blk_frozen BK165.out 2))
                    have n0_ : Aside0 (Kd.R (Kd.int .i64) 3 (((w73.setCell ⟨gb165,0,none⟩ (.int .i64 ((rd_T85 l0_0 x13_3).f0))).setCell ⟨gb165,1,none⟩ (.int .i64 ((rd_T85 l0_0 x13_3).f1))).setCell ⟨gb165,2,none⟩ (.int .i64 ((rd_T85 l0_0 x13_3).f2))) w.heap.size (fun _=>True) u9 x9_16):=⟨by (with_reducible repeat (first|apply Kd.R_alloc|apply Kd.R_drewN|apply Kd.R_drew));exact Kd.R_mono (Kd.R_far (p:=⟨gb165,2,none⟩) (Kd.R_far (p:=⟨gb165,1,none⟩) (Kd.R_far (p:=⟨gb165,0,none⟩) (Kd.R_types HO_9.out BK165.out (by decide)) (fun _ hk=>hk.2) (.int .i64 ((rd_T85 l0_0 x13_3).f0))) (fun _ hk=>hk.2) (.int .i64 ((rd_T85 l0_0 x13_3).f1))) (fun _ hk=>hk.2) (.int .i64 ((rd_T85 l0_0 x13_3).f2))) (fun _ hk=>trivial)⟩
                    have n1_ : Aside0 (Kd.R Kd.bool 4 (((w73.setCell ⟨gb165,0,none⟩ (.int .i64 ((rd_T85 l0_0 x13_3).f0))).setCell ⟨gb165,1,none⟩ (.int .i64 ((rd_T85 l0_0 x13_3).f1))).setCell ⟨gb165,2,none⟩ (.int .i64 ((rd_T85 l0_0 x13_3).f2))) w.heap.size (fun k_=>some k_ ≠ (v162 : Value).ownBlock) (.slice (some ad157) t156.length co19) t156):=⟨by (with_reducible repeat (first|apply Kd.R_alloc|apply Kd.R_drewN|apply Kd.R_drew));exact Kd.R_mono (Kd.R_far (p:=⟨gb165,2,none⟩) (Kd.R_far (p:=⟨gb165,1,none⟩) (Kd.R_far (p:=⟨gb165,0,none⟩) (Kd.R_types HO_10.out BK165.out (by decide)) (fun _ hk=>hk.2) (.int .i64 ((rd_T85 l0_0 x13_3).f0))) (fun _ hk=>hk.2) (.int .i64 ((rd_T85 l0_0 x13_3).f1))) (fun _ hk=>hk.2) (.int .i64 ((rd_T85 l0_0 x13_3).f2))) (fun _ hk=>hk.1)⟩
                    have n2_ : Aside0 (Kd.R Kd.bool 4 (((w73.setCell ⟨gb165,0,none⟩ (.int .i64 ((rd_T85 l0_0 x13_3).f0))).setCell ⟨gb165,1,none⟩ (.int .i64 ((rd_T85 l0_0 x13_3).f1))).setCell ⟨gb165,2,none⟩ (.int .i64 ((rd_T85 l0_0 x13_3).f2))) w.heap.size (fun k_=>some k_ ≠ (.slice (some ad157) t156.length co19 : Value).ownBlock) v162 x12_3):=⟨by (with_reducible repeat (first|apply Kd.R_alloc|apply Kd.R_drewN|apply Kd.R_drew));exact Kd.R_mono (Kd.R_far (p:=⟨gb165,2,none⟩) (Kd.R_far (p:=⟨gb165,1,none⟩) (Kd.R_far (p:=⟨gb165,0,none⟩) (Kd.R_types HO_12.out BK165.out (by decide)) (fun _ hk=>hk.2) (.int .i64 ((rd_T85 l0_0 x13_3).f0))) (fun _ hk=>hk.2) (.int .i64 ((rd_T85 l0_0 x13_3).f1))) (fun _ hk=>hk.2) (.int .i64 ((rd_T85 l0_0 x13_3).f2))) (fun _ hk=>hk.1)⟩
                    have n3_ : Aside0 ((((w73.setCell ⟨gb165,0,none⟩ (.int .i64 ((rd_T85 l0_0 x13_3).f0))).setCell ⟨gb165,1,none⟩ (.int .i64 ((rd_T85 l0_0 x13_3).f1))).setCell ⟨gb165,2,none⟩ (.int .i64 ((rd_T85 l0_0 x13_3).f2))).heap[gb151]? = some (.cells #[.slice (some ad164) l0_0.length c0_0,.int .i64 a0_1] 59 (0,0))):=⟨by (with_reducible repeat (first|refine blk_drewN ?_ _|refine blk_drew ?_|refine blk_alloc ?_ _));refine blk_far ?_ NB151_165.out _;(with_reducible repeat (first|refine blk_drewN ?_ _|refine blk_drew ?_|refine blk_alloc ?_ _));refine blk_far ?_ NB151_165.out _;(with_reducible repeat (first|refine blk_drewN ?_ _|refine blk_drew ?_|refine blk_alloc ?_ _));refine blk_far ?_ NB151_165.out _;(with_reducible repeat (first|refine blk_drewN ?_ _|refine blk_drew ?_|refine blk_alloc ?_ _));exact BK151.out⟩
                    have n4_ : Aside0 ((((w73.setCell ⟨gb165,0,none⟩ (.int .i64 ((rd_T85 l0_0 x13_3).f0))).setCell ⟨gb165,1,none⟩ (.int .i64 ((rd_T85 l0_0 x13_3).f1))).setCell ⟨gb165,2,none⟩ (.int .i64 ((rd_T85 l0_0 x13_3).f2))).heap[gb165]? = some (.cells #[.int .i64 ((rd_T85 l0_0 x13_3).f0),.int .i64 ((rd_T85 l0_0 x13_3).f1),.int .i64 ((rd_T85 l0_0 x13_3).f2)] 85 (0,0))):=⟨by (with_reducible repeat (first|refine blk_drewN ?_ _|refine blk_drew ?_|refine blk_alloc ?_ _));refine blk_put (cs:=#[.int .i64 ((rd_T85 l0_0 x13_3).f0),.int .i64 ((rd_T85 l0_0 x13_3).f1),.int .i64 0]) ?_ 2 _ rfl;(with_reducible repeat (first|refine blk_drewN ?_ _|refine blk_drew ?_|refine blk_alloc ?_ _));refine blk_put (cs:=#[.int .i64 ((rd_T85 l0_0 x13_3).f0),.int .i64 0,.int .i64 0]) ?_ 1 _ rfl;(with_reducible repeat (first|refine blk_drewN ?_ _|refine blk_drew ?_|refine blk_alloc ?_ _));refine blk_put (cs:=#[.int .i64 0,.int .i64 0,.int .i64 0]) ?_ 0 _ rfl;(with_reducible repeat (first|refine blk_drewN ?_ _|refine blk_drew ?_|refine blk_alloc ?_ _));exact BK165.out⟩
                    have n5_ : Aside0 (Below w.heap.size w (((w73.setCell ⟨gb165,0,none⟩ (.int .i64 ((rd_T85 l0_0 x13_3).f0))).setCell ⟨gb165,1,none⟩ (.int .i64 ((rd_T85 l0_0 x13_3).f1))).setCell ⟨gb165,2,none⟩ (.int .i64 ((rd_T85 l0_0 x13_3).f2)))):=⟨by repeat (first|(with_reducible first|exact HB.out|apply below_alloc|apply pw_below_drewN|apply below_drew1|refine below_set ?_ GE151.out|refine below_set ?_ GE165.out)|exact HB.out)⟩
                    (try clear HO_9)
                    (try clear HO_10)
                    (try clear HO_12)
                    (try clear BK151)
                    (try clear BK165)
                    (try clear HB)
                    generalize (((w73.setCell ⟨gb165,0,none⟩ (.int .i64 ((rd_T85 l0_0 x13_3).f0))).setCell ⟨gb165,1,none⟩ (.int .i64 ((rd_T85 l0_0 x13_3).f1))).setCell ⟨gb165,2,none⟩ (.int .i64 ((rd_T85 l0_0 x13_3).f2))) = w76 at n0_ n1_ n2_ n3_ n4_ n5_ ⊢
                    have HO_9:=n0_
                    have HO_10:=n1_
                    have HO_12:=n2_
                    have BK151:=n3_
                    have BK165:=n4_
                    have HB:=n5_
                    clear n0_ n1_ n2_ n3_ n4_ n5_
                    have n0_:=Aside0.mk (Kd.R_drew HO_9.out)
                    have n1_:=Aside0.mk (Kd.R_drew HO_10.out)
                    have n2_:=Aside0.mk (Kd.R_drew HO_12.out)
                    have n3_:=Aside0.mk (blk_drew BK151.out)
                    have n4_:=Aside0.mk (blk_drew BK165.out)
                    have n5_:=Aside0.mk (below_drew1 HB.out)
                    clear HO_9
                    clear HO_10
                    clear HO_12
                    clear BK151
                    clear BK165
                    clear HB
                    have HO_9:=n0_
                    have HO_10:=n1_
                    have HO_12:=n2_
                    have BK151:=n3_
                    have BK165:=n4_
                    have HB:=n5_
                    clear n0_ n1_ n2_ n3_ n4_ n5_
                    have p166 : 0 ≤ (((rd_T85 l0_0 x13_3).f0) : Int):=of_decide_eq_true (by first|(with_reducible assumption)|assumption)
                    have q166 : ((rd_T85 l0_0 x13_3).f0) < (t156.length : Int):=of_decide_eq_true (by first|(with_reducible assumption)|assumption)
                    obtain ⟨ad166,e166,hx166_0⟩:=Kd.at_bool (Kd.R_reads' HO_10.out).2.2 ((rd_T85 l0_0 x13_3).f0) p166 q166
                    (try rw [← Nbq35.out] at hx166_0)
                    obtain rfl : ad157 = ad166:=(by injection e166)
                    replace p166:=eq_true p166
                    replace q166:=eq_true q166
                    refine start_ (n:=30) (S:=fun w'=>w'.cell? ⟨gb165,0,none⟩ = some (.int .i64 ((rd_T85 l0_0 x13_3).f0)) ∧ w'.cell? ⟨gb165,1,none⟩ = some (.int .i64 ((rd_T85 l0_0 x13_3).f1)) ∧ w'.cell? ⟨gb165,2,none⟩ = some (.int .i64 ((rd_T85 l0_0 x13_3).f2)) ∧ w'.cell? (ad157.add (((rd_T85 l0_0 x13_3).f0)).toNat) = some (.bool true)) (ds:=[]) #[false,false,false,false,false,false,false,false,false,false,false,false,false,false,false,false,false,false,false,false,false,false,false,false,false,false,false,false,false,false] (by kernel_rfl) rfl rfl ⟨(blk_cell BK165.out 0).trans rfl,(blk_cell BK165.out 1).trans rfl,(blk_cell BK165.out 2).trans rfl,hx166_0⟩ (fun hHeld=>?_);refine with_tabW spec_l2ends.tab16 spec_l2ends.bits16 (fun HT_ HW_=>?_)
                    generalize w76.drew = w77 at HO_9 HO_10 HO_12 BK151 BK165 HB hx166_0 hHeld ⊢
                    refine pure_ (i:=0) (N:=some 56) (v:=?_) (a':=?_) #[true,false,false,false,false,false,false,false,false,false,false,false,false,false,false,false,false,false,false,false,false,false,false,false,false,false,false,false,false,false] rfl rfl (any_of HT_.out (by kernel_rfl)) (fun _ _ _ h=>h) (Or.inl ⟨by rfl,?_⟩) ?_ ?_
                    rotate_left
                    ·intro w'
                     go_simp
                     first|with_reducible rfl|(rw [if_neg (by simp only [ByteArray.size_append,ByteArray.size_extract,eq_iff_iff,iff_true,iff_false] at *;omega)];try with_reducible rfl)
                    rotate_left
                    ·simp only [Act.put,List.setIfInBounds_toArray,List.set_cons_zero,List.set_cons_succ,i64_w,i32_w]
                     rfl
                    refine pure_ (i:=1) (N:=some 57) (v:=?_) (a':=?_) #[true,true,false,false,false,false,false,false,false,false,false,false,false,false,false,false,false,false,false,false,false,false,false,false,false,false,false,false,false,false] rfl rfl (any_of HT_.out (by kernel_rfl)) (fun _ _ _ h=>h) (Or.inl ⟨by rfl,?_⟩) ?_ ?_
                    rotate_left
                    ·intro w'
                     go_simp
                     first|with_reducible rfl|(rw [if_neg (by simp only [ByteArray.size_append,ByteArray.size_extract,eq_iff_iff,iff_true,iff_false] at *;omega)];try with_reducible rfl)
                    rotate_left
                    ·simp only [Act.put,List.setIfInBounds_toArray,List.set_cons_zero,List.set_cons_succ,i64_w,i32_w]
                     rfl
                    refine take_ (i:=2) (N:=some 58) (v:=?_) (a':=?_) #[true,true,true,false,false,false,false,false,false,false,false,false,false,false,false,false,false,false,false,false,false,false,false,false,false,false,false,false,false,false] rfl rfl (take_ofW HT_.out HW_.out (by kernel_rfl)) (fun _ _ _ h=>h) (Or.inl ⟨by rfl,?_⟩) hHeld ?_ ?_
                    rotate_left
                    ·rintro w' ⟨s0,s1,s2,s3⟩
                     go_simp
                     first|with_reducible rfl|(rw [if_neg (by simp only [ByteArray.size_append,ByteArray.size_extract,eq_iff_iff,iff_true,iff_false] at *;omega)];try with_reducible rfl)
                    rotate_left
                    ·simp only [Act.put,List.setIfInBounds_toArray,List.set_cons_zero,List.set_cons_succ,i64_w,i32_w]
                     rfl
                    refine pure_ (i:=3) (N:=some 59) (v:=?_) (a':=?_) #[true,true,true,true,false,false,false,false,false,false,false,false,false,false,false,false,false,false,false,false,false,false,false,false,false,false,false,false,false,false] rfl rfl (any_of HT_.out (by kernel_rfl)) (fun _ _ _ h=>h) (Or.inl ⟨by rfl,?_⟩) ?_ ?_
                    rotate_left
                    ·intro w'
                     go_simp
                     first|with_reducible rfl|(rw [if_neg (by simp only [ByteArray.size_append,ByteArray.size_extract,eq_iff_iff,iff_true,iff_false] at *;omega)];try with_reducible rfl)
                    rotate_left
                    ·simp only [Act.put,List.setIfInBounds_toArray,List.set_cons_zero,List.set_cons_succ,i64_w,i32_w]
                     rfl
                    refine take_ (i:=4) (N:=some 60) (v:=?_) (a':=?_) #[true,true,true,true,true,false,false,false,false,false,false,false,false,false,false,false,false,false,false,false,false,false,false,false,false,false,false,false,false,false] rfl rfl (take_ofW HT_.out HW_.out (by kernel_rfl)) (fun _ _ _ h=>h) (Or.inl ⟨by rfl,?_⟩) hHeld ?_ ?_
                    rotate_left
                    ·rintro w' ⟨s0,s1,s2,s3⟩
                     go_simp
                     first|with_reducible rfl|(rw [if_neg (by simp only [ByteArray.size_append,ByteArray.size_extract,eq_iff_iff,iff_true,iff_false] at *;omega)];try with_reducible rfl)
                    rotate_left
                    ·simp only [Act.put,List.setIfInBounds_toArray,List.set_cons_zero,List.set_cons_succ,i64_w,i32_w]
                     rfl
                    refine pure_ (i:=5) (N:=some 61) (v:=?_) (a':=?_) #[true,true,true,true,true,true,false,false,false,false,false,false,false,false,false,false,false,false,false,false,false,false,false,false,false,false,false,false,false,false] rfl rfl (any_of HT_.out (by kernel_rfl)) (fun _ _ _ h=>h) (Or.inl ⟨by rfl,?_⟩) ?_ ?_
                    rotate_left
                    ·intro w'
                     go_simp
                     first|with_reducible rfl|(rw [if_neg (by simp only [ByteArray.size_append,ByteArray.size_extract,eq_iff_iff,iff_true,iff_false] at *;omega)];try with_reducible rfl)
                    rotate_left
                    ·simp only [Act.put,List.setIfInBounds_toArray,List.set_cons_zero,List.set_cons_succ,i64_w,i32_w]
                     rfl
                    refine pure_ (i:=6) (N:=some 62) (v:=?_) (a':=?_) #[true,true,true,true,true,true,true,false,false,false,false,false,false,false,false,false,false,false,false,false,false,false,false,false,false,false,false,false,false,false] rfl rfl (any_of HT_.out (by kernel_rfl)) (fun _ _ _ h=>h) (Or.inl ⟨by rfl,?_⟩) ?_ ?_
                    rotate_left
                    ·intro w'
                     go_simp
                     first|with_reducible rfl|(rw [if_neg (by simp only [ByteArray.size_append,ByteArray.size_extract,eq_iff_iff,iff_true,iff_false] at *;omega)];try with_reducible rfl)
                    rotate_left
                    ·simp only [Act.put,List.setIfInBounds_toArray,List.set_cons_zero,List.set_cons_succ,i64_w,i32_w]
                     rfl
                    refine take_ (i:=7) (N:=some 63) (v:=?_) (a':=?_) #[true,true,true,true,true,true,true,true,false,false,false,false,false,false,false,false,false,false,false,false,false,false,false,false,false,false,false,false,false,false] rfl rfl (take_ofW HT_.out HW_.out (by kernel_rfl)) (fun _ _ _ h=>h) (Or.inl ⟨by rfl,?_⟩) hHeld ?_ ?_
                    rotate_left
                    ·rintro w' ⟨s0,s1,s2,s3⟩
                     go_simp
                     first|with_reducible rfl|(rw [if_neg (by simp only [ByteArray.size_append,ByteArray.size_extract,eq_iff_iff,iff_true,iff_false] at *;omega)];try with_reducible rfl)
                    rotate_left
                    ·simp only [Act.put,List.setIfInBounds_toArray,List.set_cons_zero,List.set_cons_succ,i64_w,i32_w]
                     rfl
                    refine pure_ (i:=8) (N:=some 64) (v:=?_) (a':=?_) #[true,true,true,true,true,true,true,true,true,false,false,false,false,false,false,false,false,false,false,false,false,false,false,false,false,false,false,false,false,false] rfl rfl (any_of HT_.out (by kernel_rfl)) (fun _ _ _ h=>h) (Or.inl ⟨by rfl,?_⟩) ?_ ?_
                    rotate_left
                    ·intro w'
                     go_simp
                     first|with_reducible rfl|(rw [if_neg (by simp only [ByteArray.size_append,ByteArray.size_extract,eq_iff_iff,iff_true,iff_false] at *;omega)];try with_reducible rfl)
                    rotate_left
                    ·simp only [Act.put,List.setIfInBounds_toArray,List.set_cons_zero,List.set_cons_succ,i64_w,i32_w]
                     rfl
                    refine pure_ (i:=9) (N:=some 65) (v:=?_) (a':=?_) #[true,true,true,true,true,true,true,true,true,true,false,false,false,false,false,false,false,false,false,false,false,false,false,false,false,false,false,false,false,false] rfl rfl (any_of HT_.out (by kernel_rfl)) (fun _ _ _ h=>h) (Or.inl ⟨by rfl,?_⟩) ?_ ?_
                    rotate_left
                    ·intro w'
                     go_simp
                     first|with_reducible rfl|(rw [if_neg (by simp only [ByteArray.size_append,ByteArray.size_extract,eq_iff_iff,iff_true,iff_false] at *;omega)];try with_reducible rfl)
                    rotate_left
                    ·simp only [Act.put,List.setIfInBounds_toArray,List.set_cons_zero,List.set_cons_succ,i64_w,i32_w]
                     rfl
                    refine pure_ (i:=10) (N:=some 66) (v:=?_) (a':=?_) #[true,true,true,true,true,true,true,true,true,true,true,false,false,false,false,false,false,false,false,false,false,false,false,false,false,false,false,false,false,false] rfl rfl (any_of HT_.out (by kernel_rfl)) (fun _ _ _ h=>h) (Or.inl ⟨by rfl,?_⟩) ?_ ?_
                    rotate_left
                    ·intro w'
                     go_simp
                     first|with_reducible rfl|(rw [if_neg (by simp only [ByteArray.size_append,ByteArray.size_extract,eq_iff_iff,iff_true,iff_false] at *;omega)];try with_reducible rfl)
                    rotate_left
                    ·simp only [Act.put,List.setIfInBounds_toArray,List.set_cons_zero,List.set_cons_succ,i64_w,i32_w]
                     rfl
                    refine pure_ (i:=11) (N:=some 67) (v:=undef) (a':=?_) #[true,true,true,true,true,true,true,true,true,true,true,true,false,false,false,false,false,false,false,false,false,false,false,false,false,false,false,false,false,false] rfl rfl (any_of HT_.out (by kernel_rfl)) (fun _ _ _ h=>h) (Or.inr ⟨by rfl,rfl⟩) ?_ ?_
                    rotate_left
                    ·simp only [Act.put,List.setIfInBounds_toArray,List.set_cons_zero,List.set_cons_succ,i64_w,i32_w]
                     rfl
                    refine pure_ (i:=12) (N:=some 68) (v:=undef) (a':=?_) #[true,true,true,true,true,true,true,true,true,true,true,true,true,false,false,false,false,false,false,false,false,false,false,false,false,false,false,false,false,false] rfl rfl (any_of HT_.out (by kernel_rfl)) (fun _ _ _ h=>h) (Or.inr ⟨by rfl,rfl⟩) ?_ ?_
                    rotate_left
                    ·simp only [Act.put,List.setIfInBounds_toArray,List.set_cons_zero,List.set_cons_succ,i64_w,i32_w]
                     rfl
                    refine pure_ (i:=13) (N:=some 69) (v:=undef) (a':=?_) #[true,true,true,true,true,true,true,true,true,true,true,true,true,true,false,false,false,false,false,false,false,false,false,false,false,false,false,false,false,false] rfl rfl (any_of HT_.out (by kernel_rfl)) (fun _ _ _ h=>h) (Or.inr ⟨by rfl,rfl⟩) ?_ ?_
                    rotate_left
                    ·simp only [Act.put,List.setIfInBounds_toArray,List.set_cons_zero,List.set_cons_succ,i64_w,i32_w]
                     rfl
                    refine pure_ (i:=14) (N:=some 70) (v:=undef) (a':=?_) #[true,true,true,true,true,true,true,true,true,true,true,true,true,true,true,false,false,false,false,false,false,false,false,false,false,false,false,false,false,false] rfl rfl (any_of HT_.out (by kernel_rfl)) (fun _ _ _ h=>h) (Or.inr ⟨by rfl,rfl⟩) ?_ ?_
                    rotate_left
                    ·simp only [Act.put,List.setIfInBounds_toArray,List.set_cons_zero,List.set_cons_succ,i64_w,i32_w]
                     rfl
                    refine pure_ (i:=15) (N:=some 71) (v:=undef) (a':=?_) #[true,true,true,true,true,true,true,true,true,true,true,true,true,true,true,true,false,false,false,false,false,false,false,false,false,false,false,false,false,false] rfl rfl (any_of HT_.out (by kernel_rfl)) (fun _ _ _ h=>h) (Or.inr ⟨by rfl,rfl⟩) ?_ ?_
                    rotate_left
                    ·simp only [Act.put,List.setIfInBounds_toArray,List.set_cons_zero,List.set_cons_succ,i64_w,i32_w]
                     rfl
                    refine pure_ (i:=16) (N:=some 72) (v:=undef) (a':=?_) #[true,true,true,true,true,true,true,true,true,true,true,true,true,true,true,true,true,false,false,false,false,false,false,false,false,false,false,false,false,false] rfl rfl (any_of HT_.out (by kernel_rfl)) (fun _ _ _ h=>h) (Or.inr ⟨by rfl,rfl⟩) ?_ ?_
                    rotate_left
                    ·simp only [Act.put,List.setIfInBounds_toArray,List.set_cons_zero,List.set_cons_succ,i64_w,i32_w]
                     rfl
                    refine pure_ (i:=17) (N:=some 73) (v:=undef) (a':=?_) #[true,true,true,true,true,true,true,true,true,true,true,true,true,true,true,true,true,true,false,false,false,false,false,false,false,false,false,false,false,false] rfl rfl (any_of HT_.out (by kernel_rfl)) (fun _ _ _ h=>h) (Or.inr ⟨by rfl,rfl⟩) ?_ ?_
                    rotate_left
                    ·simp only [Act.put,List.setIfInBounds_toArray,List.set_cons_zero,List.set_cons_succ,i64_w,i32_w]
                     rfl
                    refine pure_ (i:=18) (N:=some 74) (v:=?_) (a':=?_) #[true,true,true,true,true,true,true,true,true,true,true,true,true,true,true,true,true,true,true,false,false,false,false,false,false,false,false,false,false,false] rfl rfl (any_of HT_.out (by kernel_rfl)) (fun _ _ _ h=>h) (Or.inl ⟨by rfl,?_⟩) ?_ ?_
                    rotate_left
                    ·intro w'
                     go_simp
                     first|with_reducible rfl|(rw [if_neg (by simp only [ByteArray.size_append,ByteArray.size_extract,eq_iff_iff,iff_true,iff_false] at *;omega)];try with_reducible rfl)
                    rotate_left
                    ·simp only [Act.put,List.setIfInBounds_toArray,List.set_cons_zero,List.set_cons_succ,i64_w,i32_w]
                     rfl
                    refine pure_ (i:=19) (N:=some 75) (v:=?_) (a':=?_) #[true,true,true,true,true,true,true,true,true,true,true,true,true,true,true,true,true,true,true,true,false,false,false,false,false,false,false,false,false,false] rfl rfl (any_of HT_.out (by kernel_rfl)) (fun _ _ _ h=>h) (Or.inl ⟨by rfl,?_⟩) ?_ ?_
                    rotate_left
                    ·intro w'
                     go_simp
                     first|with_reducible rfl|(rw [if_neg (by simp only [ByteArray.size_append,ByteArray.size_extract,eq_iff_iff,iff_true,iff_false] at *;omega)];try with_reducible rfl)
                    rotate_left
                    ·simp only [Act.put,List.setIfInBounds_toArray,List.set_cons_zero,List.set_cons_succ,i64_w,i32_w]
                     rfl
                    refine pure_ (i:=20) (N:=some 76) (v:=undef) (a':=?_) #[true,true,true,true,true,true,true,true,true,true,true,true,true,true,true,true,true,true,true,true,true,false,false,false,false,false,false,false,false,false] rfl rfl (any_of HT_.out (by kernel_rfl)) (fun _ _ _ h=>h) (Or.inr ⟨by rfl,rfl⟩) ?_ ?_
                    rotate_left
                    ·simp only [Act.put,List.setIfInBounds_toArray,List.set_cons_zero,List.set_cons_succ,i64_w,i32_w]
                     rfl
                    refine pure_ (i:=21) (N:=some 77) (v:=undef) (a':=?_) #[true,true,true,true,true,true,true,true,true,true,true,true,true,true,true,true,true,true,true,true,true,true,false,false,false,false,false,false,false,false] rfl rfl (any_of HT_.out (by kernel_rfl)) (fun _ _ _ h=>h) (Or.inr ⟨by rfl,rfl⟩) ?_ ?_
                    rotate_left
                    ·simp only [Act.put,List.setIfInBounds_toArray,List.set_cons_zero,List.set_cons_succ,i64_w,i32_w]
                     rfl
                    refine pure_ (i:=22) (N:=some 78) (v:=undef) (a':=?_) #[true,true,true,true,true,true,true,true,true,true,true,true,true,true,true,true,true,true,true,true,true,true,true,false,false,false,false,false,false,false] rfl rfl (any_of HT_.out (by kernel_rfl)) (fun _ _ _ h=>h) (Or.inr ⟨by rfl,rfl⟩) ?_ ?_
                    rotate_left
                    ·simp only [Act.put,List.setIfInBounds_toArray,List.set_cons_zero,List.set_cons_succ,i64_w,i32_w]
                     rfl
                    refine pure_ (i:=23) (N:=some 79) (v:=undef) (a':=?_) #[true,true,true,true,true,true,true,true,true,true,true,true,true,true,true,true,true,true,true,true,true,true,true,true,false,false,false,false,false,false] rfl rfl (any_of HT_.out (by kernel_rfl)) (fun _ _ _ h=>h) (Or.inr ⟨by rfl,rfl⟩) ?_ ?_
                    rotate_left
                    ·simp only [Act.put,List.setIfInBounds_toArray,List.set_cons_zero,List.set_cons_succ,i64_w,i32_w]
                     rfl
                    refine pure_ (i:=24) (N:=some 80) (v:=undef) (a':=?_) #[true,true,true,true,true,true,true,true,true,true,true,true,true,true,true,true,true,true,true,true,true,true,true,true,true,false,false,false,false,false] rfl rfl (any_of HT_.out (by kernel_rfl)) (fun _ _ _ h=>h) (Or.inr ⟨by rfl,rfl⟩) ?_ ?_
                    rotate_left
                    ·simp only [Act.put,List.setIfInBounds_toArray,List.set_cons_zero,List.set_cons_succ,i64_w,i32_w]
                     rfl
                    refine pure_ (i:=25) (N:=some 81) (v:=undef) (a':=?_) #[true,true,true,true,true,true,true,true,true,true,true,true,true,true,true,true,true,true,true,true,true,true,true,true,true,true,false,false,false,false] rfl rfl (any_of HT_.out (by kernel_rfl)) (fun _ _ _ h=>h) (Or.inr ⟨by rfl,rfl⟩) ?_ ?_
                    rotate_left
                    ·simp only [Act.put,List.setIfInBounds_toArray,List.set_cons_zero,List.set_cons_succ,i64_w,i32_w]
                     rfl
                    refine pure_ (i:=26) (N:=some 82) (v:=undef) (a':=?_) #[true,true,true,true,true,true,true,true,true,true,true,true,true,true,true,true,true,true,true,true,true,true,true,true,true,true,true,false,false,false] rfl rfl (any_of HT_.out (by kernel_rfl)) (fun _ _ _ h=>h) (Or.inr ⟨by rfl,rfl⟩) ?_ ?_
                    rotate_left
                    ·simp only [Act.put,List.setIfInBounds_toArray,List.set_cons_zero,List.set_cons_succ,i64_w,i32_w]
                     rfl
                    refine pure_ (i:=27) (N:=some 83) (v:=undef) (a':=?_) #[true,true,true,true,true,true,true,true,true,true,true,true,true,true,true,true,true,true,true,true,true,true,true,true,true,true,true,true,false,false] rfl rfl (any_of HT_.out (by kernel_rfl)) (fun _ _ _ h=>h) (Or.inr ⟨by rfl,rfl⟩) ?_ ?_
                    rotate_left
                    ·simp only [Act.put,List.setIfInBounds_toArray,List.set_cons_zero,List.set_cons_succ,i64_w,i32_w]
                     rfl
                    refine pure_ (i:=28) (N:=some 84) (v:=undef) (a':=?_) #[true,true,true,true,true,true,true,true,true,true,true,true,true,true,true,true,true,true,true,true,true,true,true,true,true,true,true,true,true,false] rfl rfl (any_of HT_.out (by kernel_rfl)) (fun _ _ _ h=>h) (Or.inr ⟨by rfl,rfl⟩) ?_ ?_
                    rotate_left
                    ·simp only [Act.put,List.setIfInBounds_toArray,List.set_cons_zero,List.set_cons_succ,i64_w,i32_w]
                     rfl
                    refine pure_ (i:=29) (N:=some 85) (v:=?_) (a':=?_) #[true,true,true,true,true,true,true,true,true,true,true,true,true,true,true,true,true,true,true,true,true,true,true,true,true,true,true,true,true,true] rfl rfl (any_of HT_.out (by kernel_rfl)) (fun _ _ _ h=>h) (Or.inl ⟨by rfl,?_⟩) ?_ ?_
                    rotate_left
                    ·intro w'
                     go_simp
                     first|with_reducible rfl|(rw [if_neg (by simp only [ByteArray.size_append,ByteArray.size_extract,eq_iff_iff,iff_true,iff_false] at *;omega)];try with_reducible rfl)
                    rotate_left
                    ·simp only [Act.put,List.setIfInBounds_toArray,List.set_cons_zero,List.set_cons_succ,i64_w,i32_w]
                     rfl
                    refine done_ (done_of HT_.out (by kernel_rfl)) ?_
                    try go_wp2
                    go_roundg k3
                    case measure=>have:=HK1.out;have:=HJ16.out;have:=HK3.out;omega
                    case rel=>exact ⟨(x12_3),(wrap64 (x13_3 + 1)),(by first|rfl|(simp;done)|(simp [*];done)),H',⟨by have:=HK1.out;have:=HJ16.out;have:=HK3.out;omega⟩,⟨by (try simp only [hl10_16]);(with_reducible repeat (first|apply Kd.R_alloc|apply Kd.R_drewN|apply Kd.R_drew));exact HO_9.out⟩,⟨by (try simp only [hl10_16]);(with_reducible repeat (first|apply Kd.R_alloc|apply Kd.R_drewN|apply Kd.R_drew));exact HO_10.out⟩,⟨by (try simp only [hl10_16]);(with_reducible repeat (first|apply Kd.R_alloc|apply Kd.R_drewN|apply Kd.R_drew));exact HO_12.out⟩,⟨by (try simp only [hl10_16]);(with_reducible repeat (first|refine blk_drewN ?_ _|refine blk_drew ?_|refine blk_alloc ?_ _));exact BK151.out⟩,⟨by repeat (first|(with_reducible first|exact HB.out|apply below_alloc|apply pw_below_drewN|apply below_drew1|refine below_set ?_ GE151.out|refine below_set ?_ GE165.out)|exact HB.out)⟩⟩
                  ·replace c36:=Bool.eq_false_iff.mpr c36
                   subst c36
                   have H1 : (spec_l2ends.l1 k3 l1 a2 x9_16 t156 x11_1 x12_3 (wrap64 (x13_3 + 1)) l0_0 a0_1) = some r:=by rw [if_neg (show ¬ (false = true) by decide)] at H;exact H
                   clear H
                   have H:=H1
                   clear H1
                   have H':=Aside0.mk H
                   clear H
                   have hcz78_0 : wr.cell? ⟨gb151,0,none⟩ = some (.slice A0_0 l0_0.length c0_0):=(blk_cell BK151.out 0).trans rfl
                   have hcz78_1 : wr.cell? ⟨gb151,1,none⟩ = some (.int .i64 a0_1):=(blk_cell BK151.out 1).trans rfl
                   have hfz78_0:=blk_frozen BK151.out 0
                   have hfz78_1:=blk_frozen BK151.out 1
                   have p164 : 0 ≤ (x13_3 : Int):=of_decide_eq_true (by first|(with_reducible assumption)|assumption)
                   have q164 : x13_3 < (l0_0.length : Int):=of_decide_eq_true (by first|(with_reducible assumption)|assumption)
                   obtain ⟨ad164,e164,hx164_0,hx164_1,hx164_2⟩:=at_T85 HR0_0.out x13_3 p164 q164
                   cases e164
                   replace hx164_0:=(HB.out.cell (World.block_lt_of_cell? w _ hx164_0)).trans hx164_0
                   replace hx164_1:=(HB.out.cell (World.block_lt_of_cell? w _ hx164_1)).trans hx164_1
                   replace hx164_2:=(HB.out.cell (World.block_lt_of_cell? w _ hx164_2)).trans hx164_2
                   replace p164:=eq_true p164
                   replace q164:=eq_true q164
                   try go_wp2_with (first|((with_reducible refine gate_dst (N:=14) rfl ?_);refine box_event ?hg (N:=14) ?hd (cs:=#[.int .i64 0,.int .i64 0,.int .i64 0]) (t:=85) ?hr ?_;(case hd=>rfl);(case hg=>rfl);(case hr=>first|(go_simp;done)|(go_simp;rfl));intro gb165 hg w79 hbox hb;have n0_:=Aside0.mk (Kd.R_below (by (with_reducible repeat (first|apply Kd.R_alloc|apply Kd.R_drewN|apply Kd.R_drew));exact HO_9.out) hb);have n1_:=Aside0.mk (Kd.R_below (by (with_reducible repeat (first|apply Kd.R_alloc|apply Kd.R_drewN|apply Kd.R_drew));exact HO_10.out) hb);have n2_:=Aside0.mk (Kd.R_below (by (with_reducible repeat (first|apply Kd.R_alloc|apply Kd.R_drewN|apply Kd.R_drew));exact HO_12.out) hb);have n3_:=Aside0.mk (blk_below (g:=gb151) (o:=.cells #[.slice (some ad164) l0_0.length c0_0,.int .i64 a0_1] 59 (0,0)) (by (with_reducible repeat (first|refine blk_drewN ?_ _|refine blk_drew ?_|refine blk_alloc ?_ _));exact BK151.out) hb);have n4_:=Aside0.mk (below_step (by repeat (first|(with_reducible first|exact HB.out|apply below_alloc|apply pw_below_drewN|apply below_drew1|refine below_set ?_ GE151.out)|exact HB.out)) hb);have n5_:=Aside0.mk (hbox);have n6_:=Aside0.mk ((by rw [hg];exact (below_size (by repeat (first|(with_reducible first|exact HB.out|apply below_alloc|apply pw_below_drewN|apply below_drew1|refine below_set ?_ GE151.out)|exact HB.out))) : w.heap.size ≤ gb165));have n7_:=Aside0.mk ((by rw [hg];exact (below_size (by repeat (first|(with_reducible first|exact HB.out|apply below_alloc|apply pw_below_drewN|apply below_drew1|refine below_set ?_ GE151.out)|exact HB.out))) : w.heap.size ≤ gb165));have n8_:=Aside0.mk ((by rw [hg];exact Nat.ne_of_lt (blk_lt (g:=gb151) (o:=.cells #[.slice (some ad164) l0_0.length c0_0,.int .i64 a0_1] 59 (0,0)) (by (with_reducible repeat (first|refine blk_drewN ?_ _|refine blk_drew ?_|refine blk_alloc ?_ _));exact BK151.out)) : gb151 ≠ gb165));have n9_:=Aside0.mk ((by rw [hg];exact Nat.ne_of_gt (blk_lt (g:=gb151) (o:=.cells #[.slice (some ad164) l0_0.length c0_0,.int .i64 a0_1] 59 (0,0)) (by (with_reducible repeat (first|refine blk_drewN ?_ _|refine blk_drew ?_|refine blk_alloc ?_ _));exact BK151.out)) : gb165 ≠ gb151));clear HO_9;clear HO_10;clear HO_12;clear BK151;clear HB;have HO_9:=n0_;have HO_10:=n1_;have HO_12:=n2_;have BK151:=n3_;have HB:=n4_;have BK165:=n5_;have GW165:=n6_;have GE165:=n7_;have NB151_165:=n8_;have NB165_151:=n9_;clear n0_ n1_ n2_ n3_ n4_ n5_ n6_ n7_ n8_ n9_;clear hb hbox hg;have hnb80:=NB165_151.out;have hnc80:=NB151_165.out;have hcz81_0 : w79.cell? ⟨gb165,0,none⟩ = some (.int .i64 0):=(blk_cell BK165.out 0).trans rfl;have hcz81_1 : w79.cell? ⟨gb165,1,none⟩ = some (.int .i64 0):=(blk_cell BK165.out 1).trans rfl;have hcz81_2 : w79.cell? ⟨gb165,2,none⟩ = some (.int .i64 0):=(blk_cell BK165.out 2).trans rfl;have hfz81_0:=blk_frozen BK165.out 0;have hfz81_1:=blk_frozen BK165.out 1;have hfz81_2:=blk_frozen BK165.out 2))
                   have n0_ : Aside0 (Kd.R (Kd.int .i64) 3 (((w79.setCell ⟨gb165,0,none⟩ (.int .i64 ((rd_T85 l0_0 x13_3).f0))).setCell ⟨gb165,1,none⟩ (.int .i64 ((rd_T85 l0_0 x13_3).f1))).setCell ⟨gb165,2,none⟩ (.int .i64 ((rd_T85 l0_0 x13_3).f2))) w.heap.size (fun _=>True) u9 x9_16):=⟨by (with_reducible repeat (first|apply Kd.R_alloc|apply Kd.R_drewN|apply Kd.R_drew));exact Kd.R_mono (Kd.R_far (p:=⟨gb165,2,none⟩) (Kd.R_far (p:=⟨gb165,1,none⟩) (Kd.R_far (p:=⟨gb165,0,none⟩) (Kd.R_types HO_9.out BK165.out (by decide)) (fun _ hk=>hk.2) (.int .i64 ((rd_T85 l0_0 x13_3).f0))) (fun _ hk=>hk.2) (.int .i64 ((rd_T85 l0_0 x13_3).f1))) (fun _ hk=>hk.2) (.int .i64 ((rd_T85 l0_0 x13_3).f2))) (fun _ hk=>trivial)⟩
                   have n1_ : Aside0 (Kd.R Kd.bool 4 (((w79.setCell ⟨gb165,0,none⟩ (.int .i64 ((rd_T85 l0_0 x13_3).f0))).setCell ⟨gb165,1,none⟩ (.int .i64 ((rd_T85 l0_0 x13_3).f1))).setCell ⟨gb165,2,none⟩ (.int .i64 ((rd_T85 l0_0 x13_3).f2))) w.heap.size (fun k_=>some k_ ≠ (v162 : Value).ownBlock) (.slice (some ad157) t156.length co19) t156):=⟨by (with_reducible repeat (first|apply Kd.R_alloc|apply Kd.R_drewN|apply Kd.R_drew));exact Kd.R_mono (Kd.R_far (p:=⟨gb165,2,none⟩) (Kd.R_far (p:=⟨gb165,1,none⟩) (Kd.R_far (p:=⟨gb165,0,none⟩) (Kd.R_types HO_10.out BK165.out (by decide)) (fun _ hk=>hk.2) (.int .i64 ((rd_T85 l0_0 x13_3).f0))) (fun _ hk=>hk.2) (.int .i64 ((rd_T85 l0_0 x13_3).f1))) (fun _ hk=>hk.2) (.int .i64 ((rd_T85 l0_0 x13_3).f2))) (fun _ hk=>hk.1)⟩
                   have n2_ : Aside0 (Kd.R Kd.bool 4 (((w79.setCell ⟨gb165,0,none⟩ (.int .i64 ((rd_T85 l0_0 x13_3).f0))).setCell ⟨gb165,1,none⟩ (.int .i64 ((rd_T85 l0_0 x13_3).f1))).setCell ⟨gb165,2,none⟩ (.int .i64 ((rd_T85 l0_0 x13_3).f2))) w.heap.size (fun k_=>some k_ ≠ (.slice (some ad157) t156.length co19 : Value).ownBlock) v162 x12_3):=⟨by (with_reducible repeat (first|apply Kd.R_alloc|apply Kd.R_drewN|apply Kd.R_drew));exact Kd.R_mono (Kd.R_far (p:=⟨gb165,2,none⟩) (Kd.R_far (p:=⟨gb165,1,none⟩) (Kd.R_far (p:=⟨gb165,0,none⟩) (Kd.R_types HO_12.out BK165.out (by decide)) (fun _ hk=>hk.2) (.int .i64 ((rd_T85 l0_0 x13_3).f0))) (fun _ hk=>hk.2) (.int .i64 ((rd_T85 l0_0 x13_3).f1))) (fun _ hk=>hk.2) (.int .i64 ((rd_T85 l0_0 x13_3).f2))) (fun _ hk=>hk.1)⟩
                   have n3_ : Aside0 ((((w79.setCell ⟨gb165,0,none⟩ (.int .i64 ((rd_T85 l0_0 x13_3).f0))).setCell ⟨gb165,1,none⟩ (.int .i64 ((rd_T85 l0_0 x13_3).f1))).setCell ⟨gb165,2,none⟩ (.int .i64 ((rd_T85 l0_0 x13_3).f2))).heap[gb151]? = some (.cells #[.slice (some ad164) l0_0.length c0_0,.int .i64 a0_1] 59 (0,0))):=⟨by (with_reducible repeat (first|refine blk_drewN ?_ _|refine blk_drew ?_|refine blk_alloc ?_ _));refine blk_far ?_ NB151_165.out _;(with_reducible repeat (first|refine blk_drewN ?_ _|refine blk_drew ?_|refine blk_alloc ?_ _));refine blk_far ?_ NB151_165.out _;(with_reducible repeat (first|refine blk_drewN ?_ _|refine blk_drew ?_|refine blk_alloc ?_ _));refine blk_far ?_ NB151_165.out _;(with_reducible repeat (first|refine blk_drewN ?_ _|refine blk_drew ?_|refine blk_alloc ?_ _));exact BK151.out⟩
                   have n4_ : Aside0 ((((w79.setCell ⟨gb165,0,none⟩ (.int .i64 ((rd_T85 l0_0 x13_3).f0))).setCell ⟨gb165,1,none⟩ (.int .i64 ((rd_T85 l0_0 x13_3).f1))).setCell ⟨gb165,2,none⟩ (.int .i64 ((rd_T85 l0_0 x13_3).f2))).heap[gb165]? = some (.cells #[.int .i64 ((rd_T85 l0_0 x13_3).f0),.int .i64 ((rd_T85 l0_0 x13_3).f1),.int .i64 ((rd_T85 l0_0 x13_3).f2)] 85 (0,0))):=⟨by (with_reducible repeat (first|refine blk_drewN ?_ _|refine blk_drew ?_|refine blk_alloc ?_ _));refine blk_put (cs:=#[.int .i64 ((rd_T85 l0_0 x13_3).f0),.int .i64 ((rd_T85 l0_0 x13_3).f1),.int .i64 0]) ?_ 2 _ rfl;(with_reducible repeat (first|refine blk_drewN ?_ _|refine blk_drew ?_|refine blk_alloc ?_ _));refine blk_put (cs:=#[.int .i64 ((rd_T85 l0_0 x13_3).f0),.int .i64 0,.int .i64 0]) ?_ 1 _ rfl;(with_reducible repeat (first|refine blk_drewN ?_ _|refine blk_drew ?_|refine blk_alloc ?_ _));refine blk_put (cs:=#[.int .i64 0,.int .i64 0,.int .i64 0]) ?_ 0 _ rfl;(with_reducible repeat (first|refine blk_drewN ?_ _|refine blk_drew ?_|refine blk_alloc ?_ _));exact BK165.out⟩
                   have n5_ : Aside0 (Below w.heap.size w (((w79.setCell ⟨gb165,0,none⟩ (.int .i64 ((rd_T85 l0_0 x13_3).f0))).setCell ⟨gb165,1,none⟩ (.int .i64 ((rd_T85 l0_0 x13_3).f1))).setCell ⟨gb165,2,none⟩ (.int .i64 ((rd_T85 l0_0 x13_3).f2)))):=⟨by repeat (first|(with_reducible first|exact HB.out|apply below_alloc|apply pw_below_drewN|apply below_drew1|refine below_set ?_ GE151.out|refine below_set ?_ GE165.out)|exact HB.out)⟩
                   (try clear HO_9)
                   (try clear HO_10)
                   (try clear HO_12)
                   (try clear BK151)
                   (try clear BK165)
                   (try clear HB)
                   generalize (((w79.setCell ⟨gb165,0,none⟩ (.int .i64 ((rd_T85 l0_0 x13_3).f0))).setCell ⟨gb165,1,none⟩ (.int .i64 ((rd_T85 l0_0 x13_3).f1))).setCell ⟨gb165,2,none⟩ (.int .i64 ((rd_T85 l0_0 x13_3).f2))) = w82 at n0_ n1_ n2_ n3_ n4_ n5_ ⊢
                   have HO_9:=n0_
                   have HO_10:=n1_
                   have HO_12:=n2_
                   have BK151:=n3_
                   have BK165:=n4_
                   have HB:=n5_
                   clear n0_ n1_ n2_ n3_ n4_ n5_
                   have n0_:=Aside0.mk (Kd.R_drew HO_9.out)
                   have n1_:=Aside0.mk (Kd.R_drew HO_10.out)
                   have n2_:=Aside0.mk (Kd.R_drew HO_12.out)
                   have n3_:=Aside0.mk (blk_drew BK151.out)
                   have n4_:=Aside0.mk (blk_drew BK165.out)
                   have n5_:=Aside0.mk (below_drew1 HB.out)
                   clear HO_9
                   clear HO_10
                   clear HO_12
                   clear BK151
                   clear BK165
                   clear HB
                   have HO_9:=n0_
                   have HO_10:=n1_
                   have HO_12:=n2_
                   have BK151:=n3_
                   have BK165:=n4_
                   have HB:=n5_
                   clear n0_ n1_ n2_ n3_ n4_ n5_
                   have p166 : 0 ≤ (((rd_T85 l0_0 x13_3).f0) : Int):=of_decide_eq_true (by first|(with_reducible assumption)|assumption)
                   have q166 : ((rd_T85 l0_0 x13_3).f0) < (t156.length : Int):=of_decide_eq_true (by first|(with_reducible assumption)|assumption)
                   obtain ⟨ad166,e166,hx166_0⟩:=Kd.at_bool (Kd.R_reads' HO_10.out).2.2 ((rd_T85 l0_0 x13_3).f0) p166 q166
                   (try rw [← Nbq35.out] at hx166_0)
                   obtain rfl : ad157 = ad166:=(by injection e166)
                   replace p166:=eq_true p166
                   replace q166:=eq_true q166
                   refine start_ (n:=30) (S:=fun w'=>w'.cell? ⟨gb165,0,none⟩ = some (.int .i64 ((rd_T85 l0_0 x13_3).f0)) ∧ w'.cell? ⟨gb165,1,none⟩ = some (.int .i64 ((rd_T85 l0_0 x13_3).f1)) ∧ w'.cell? ⟨gb165,2,none⟩ = some (.int .i64 ((rd_T85 l0_0 x13_3).f2)) ∧ w'.cell? (ad157.add (((rd_T85 l0_0 x13_3).f0)).toNat) = some (.bool false)) (ds:=[]) #[false,false,false,false,false,false,false,false,false,false,false,false,false,false,false,false,false,false,false,false,false,false,false,false,false,false,false,false,false,false] (by kernel_rfl) rfl rfl ⟨(blk_cell BK165.out 0).trans rfl,(blk_cell BK165.out 1).trans rfl,(blk_cell BK165.out 2).trans rfl,hx166_0⟩ (fun hHeld=>?_);refine with_tabW spec_l2ends.tab16 spec_l2ends.bits16 (fun HT_ HW_=>?_)
                   generalize w82.drew = w83 at HO_9 HO_10 HO_12 BK151 BK165 HB hx166_0 hHeld ⊢
                   refine pure_ (i:=0) (N:=some 56) (v:=?_) (a':=?_) #[true,false,false,false,false,false,false,false,false,false,false,false,false,false,false,false,false,false,false,false,false,false,false,false,false,false,false,false,false,false] rfl rfl (any_of HT_.out (by kernel_rfl)) (fun _ _ _ h=>h) (Or.inl ⟨by rfl,?_⟩) ?_ ?_
                   rotate_left
                   ·intro w'
                    go_simp
                    first|with_reducible rfl|(rw [if_neg (by simp only [ByteArray.size_append,ByteArray.size_extract,eq_iff_iff,iff_true,iff_false] at *;omega)];try with_reducible rfl)
                   rotate_left
                   ·simp only [Act.put,List.setIfInBounds_toArray,List.set_cons_zero,List.set_cons_succ,i64_w,i32_w]
                    rfl
                   refine pure_ (i:=1) (N:=some 57) (v:=?_) (a':=?_) #[true,true,false,false,false,false,false,false,false,false,false,false,false,false,false,false,false,false,false,false,false,false,false,false,false,false,false,false,false,false] rfl rfl (any_of HT_.out (by kernel_rfl)) (fun _ _ _ h=>h) (Or.inl ⟨by rfl,?_⟩) ?_ ?_
                   rotate_left
                   ·intro w'
                    go_simp
                    first|with_reducible rfl|(rw [if_neg (by simp only [ByteArray.size_append,ByteArray.size_extract,eq_iff_iff,iff_true,iff_false] at *;omega)];try with_reducible rfl)
                   rotate_left
                   ·simp only [Act.put,List.setIfInBounds_toArray,List.set_cons_zero,List.set_cons_succ,i64_w,i32_w]
                    rfl
                   refine take_ (i:=2) (N:=some 58) (v:=?_) (a':=?_) #[true,true,true,false,false,false,false,false,false,false,false,false,false,false,false,false,false,false,false,false,false,false,false,false,false,false,false,false,false,false] rfl rfl (take_ofW HT_.out HW_.out (by kernel_rfl)) (fun _ _ _ h=>h) (Or.inl ⟨by rfl,?_⟩) hHeld ?_ ?_
                   rotate_left
                   ·rintro w' ⟨s0,s1,s2,s3⟩
                    go_simp
                    first|with_reducible rfl|(rw [if_neg (by simp only [ByteArray.size_append,ByteArray.size_extract,eq_iff_iff,iff_true,iff_false] at *;omega)];try with_reducible rfl)
                   rotate_left
                   ·simp only [Act.put,List.setIfInBounds_toArray,List.set_cons_zero,List.set_cons_succ,i64_w,i32_w]
                    rfl
                   refine pure_ (i:=3) (N:=some 59) (v:=?_) (a':=?_) #[true,true,true,true,false,false,false,false,false,false,false,false,false,false,false,false,false,false,false,false,false,false,false,false,false,false,false,false,false,false] rfl rfl (any_of HT_.out (by kernel_rfl)) (fun _ _ _ h=>h) (Or.inl ⟨by rfl,?_⟩) ?_ ?_
                   rotate_left
                   ·intro w'
                    go_simp
                    first|with_reducible rfl|(rw [if_neg (by simp only [ByteArray.size_append,ByteArray.size_extract,eq_iff_iff,iff_true,iff_false] at *;omega)];try with_reducible rfl)
                   rotate_left
                   ·simp only [Act.put,List.setIfInBounds_toArray,List.set_cons_zero,List.set_cons_succ,i64_w,i32_w]
                    rfl
                   refine take_ (i:=4) (N:=some 60) (v:=?_) (a':=?_) #[true,true,true,true,true,false,false,false,false,false,false,false,false,false,false,false,false,false,false,false,false,false,false,false,false,false,false,false,false,false] rfl rfl (take_ofW HT_.out HW_.out (by kernel_rfl)) (fun _ _ _ h=>h) (Or.inl ⟨by rfl,?_⟩) hHeld ?_ ?_
                   rotate_left
                   ·rintro w' ⟨s0,s1,s2,s3⟩
                    go_simp
                    first|with_reducible rfl|(rw [if_neg (by simp only [ByteArray.size_append,ByteArray.size_extract,eq_iff_iff,iff_true,iff_false] at *;omega)];try with_reducible rfl)
                   rotate_left
                   ·simp only [Act.put,List.setIfInBounds_toArray,List.set_cons_zero,List.set_cons_succ,i64_w,i32_w]
                    rfl
                   refine pure_ (i:=5) (N:=some 61) (v:=?_) (a':=?_) #[true,true,true,true,true,true,false,false,false,false,false,false,false,false,false,false,false,false,false,false,false,false,false,false,false,false,false,false,false,false] rfl rfl (any_of HT_.out (by kernel_rfl)) (fun _ _ _ h=>h) (Or.inl ⟨by rfl,?_⟩) ?_ ?_
                   rotate_left
                   ·intro w'
                    go_simp
                    first|with_reducible rfl|(rw [if_neg (by simp only [ByteArray.size_append,ByteArray.size_extract,eq_iff_iff,iff_true,iff_false] at *;omega)];try with_reducible rfl)
                   rotate_left
                   ·simp only [Act.put,List.setIfInBounds_toArray,List.set_cons_zero,List.set_cons_succ,i64_w,i32_w]
                    rfl
                   refine pure_ (i:=6) (N:=some 62) (v:=undef) (a':=?_) #[true,true,true,true,true,true,true,false,false,false,false,false,false,false,false,false,false,false,false,false,false,false,false,false,false,false,false,false,false,false] rfl rfl (any_of HT_.out (by kernel_rfl)) (fun _ _ _ h=>h) (Or.inr ⟨by rfl,rfl⟩) ?_ ?_
                   rotate_left
                   ·simp only [Act.put,List.setIfInBounds_toArray,List.set_cons_zero,List.set_cons_succ,i64_w,i32_w]
                    rfl
                   refine pure_ (i:=7) (N:=some 63) (v:=undef) (a':=?_) #[true,true,true,true,true,true,true,true,false,false,false,false,false,false,false,false,false,false,false,false,false,false,false,false,false,false,false,false,false,false] rfl rfl (any_of HT_.out (by kernel_rfl)) (fun _ _ _ h=>h) (Or.inr ⟨by rfl,rfl⟩) ?_ ?_
                   rotate_left
                   ·simp only [Act.put,List.setIfInBounds_toArray,List.set_cons_zero,List.set_cons_succ,i64_w,i32_w]
                    rfl
                   refine pure_ (i:=8) (N:=some 64) (v:=undef) (a':=?_) #[true,true,true,true,true,true,true,true,true,false,false,false,false,false,false,false,false,false,false,false,false,false,false,false,false,false,false,false,false,false] rfl rfl (any_of HT_.out (by kernel_rfl)) (fun _ _ _ h=>h) (Or.inr ⟨by rfl,rfl⟩) ?_ ?_
                   rotate_left
                   ·simp only [Act.put,List.setIfInBounds_toArray,List.set_cons_zero,List.set_cons_succ,i64_w,i32_w]
                    rfl
                   refine pure_ (i:=9) (N:=some 65) (v:=?_) (a':=?_) #[true,true,true,true,true,true,true,true,true,true,false,false,false,false,false,false,false,false,false,false,false,false,false,false,false,false,false,false,false,false] rfl rfl (any_of HT_.out (by kernel_rfl)) (fun _ _ _ h=>h) (Or.inl ⟨by rfl,?_⟩) ?_ ?_
                   rotate_left
                   ·intro w'
                    go_simp
                    first|with_reducible rfl|(rw [if_neg (by simp only [ByteArray.size_append,ByteArray.size_extract,eq_iff_iff,iff_true,iff_false] at *;omega)];try with_reducible rfl)
                   rotate_left
                   ·simp only [Act.put,List.setIfInBounds_toArray,List.set_cons_zero,List.set_cons_succ,i64_w,i32_w]
                    rfl
                   refine pure_ (i:=10) (N:=some 66) (v:=?_) (a':=?_) #[true,true,true,true,true,true,true,true,true,true,true,false,false,false,false,false,false,false,false,false,false,false,false,false,false,false,false,false,false,false] rfl rfl (any_of HT_.out (by kernel_rfl)) (fun _ _ _ h=>h) (Or.inl ⟨by rfl,?_⟩) ?_ ?_
                   rotate_left
                   ·intro w'
                    go_simp
                    first|with_reducible rfl|(rw [if_neg (by simp only [ByteArray.size_append,ByteArray.size_extract,eq_iff_iff,iff_true,iff_false] at *;omega)];try with_reducible rfl)
                   rotate_left
                   ·simp only [Act.put,List.setIfInBounds_toArray,List.set_cons_zero,List.set_cons_succ,i64_w,i32_w]
                    rfl
                   refine pure_ (i:=11) (N:=some 67) (v:=undef) (a':=?_) #[true,true,true,true,true,true,true,true,true,true,true,true,false,false,false,false,false,false,false,false,false,false,false,false,false,false,false,false,false,false] rfl rfl (any_of HT_.out (by kernel_rfl)) (fun _ _ _ h=>h) (Or.inr ⟨by rfl,rfl⟩) ?_ ?_
                   rotate_left
                   ·simp only [Act.put,List.setIfInBounds_toArray,List.set_cons_zero,List.set_cons_succ,i64_w,i32_w]
                    rfl
                   refine pure_ (i:=12) (N:=some 68) (v:=undef) (a':=?_) #[true,true,true,true,true,true,true,true,true,true,true,true,true,false,false,false,false,false,false,false,false,false,false,false,false,false,false,false,false,false] rfl rfl (any_of HT_.out (by kernel_rfl)) (fun _ _ _ h=>h) (Or.inr ⟨by rfl,rfl⟩) ?_ ?_
                   rotate_left
                   ·simp only [Act.put,List.setIfInBounds_toArray,List.set_cons_zero,List.set_cons_succ,i64_w,i32_w]
                    rfl
                   refine pure_ (i:=13) (N:=some 69) (v:=undef) (a':=?_) #[true,true,true,true,true,true,true,true,true,true,true,true,true,true,false,false,false,false,false,false,false,false,false,false,false,false,false,false,false,false] rfl rfl (any_of HT_.out (by kernel_rfl)) (fun _ _ _ h=>h) (Or.inr ⟨by rfl,rfl⟩) ?_ ?_
                   rotate_left
                   ·simp only [Act.put,List.setIfInBounds_toArray,List.set_cons_zero,List.set_cons_succ,i64_w,i32_w]
                    rfl
                   refine pure_ (i:=14) (N:=some 70) (v:=undef) (a':=?_) #[true,true,true,true,true,true,true,true,true,true,true,true,true,true,true,false,false,false,false,false,false,false,false,false,false,false,false,false,false,false] rfl rfl (any_of HT_.out (by kernel_rfl)) (fun _ _ _ h=>h) (Or.inr ⟨by rfl,rfl⟩) ?_ ?_
                   rotate_left
                   ·simp only [Act.put,List.setIfInBounds_toArray,List.set_cons_zero,List.set_cons_succ,i64_w,i32_w]
                    rfl
                   refine pure_ (i:=15) (N:=some 71) (v:=undef) (a':=?_) #[true,true,true,true,true,true,true,true,true,true,true,true,true,true,true,true,false,false,false,false,false,false,false,false,false,false,false,false,false,false] rfl rfl (any_of HT_.out (by kernel_rfl)) (fun _ _ _ h=>h) (Or.inr ⟨by rfl,rfl⟩) ?_ ?_
                   rotate_left
                   ·simp only [Act.put,List.setIfInBounds_toArray,List.set_cons_zero,List.set_cons_succ,i64_w,i32_w]
                    rfl
                   refine pure_ (i:=16) (N:=some 72) (v:=undef) (a':=?_) #[true,true,true,true,true,true,true,true,true,true,true,true,true,true,true,true,true,false,false,false,false,false,false,false,false,false,false,false,false,false] rfl rfl (any_of HT_.out (by kernel_rfl)) (fun _ _ _ h=>h) (Or.inr ⟨by rfl,rfl⟩) ?_ ?_
                   rotate_left
                   ·simp only [Act.put,List.setIfInBounds_toArray,List.set_cons_zero,List.set_cons_succ,i64_w,i32_w]
                    rfl
                   refine pure_ (i:=17) (N:=some 73) (v:=undef) (a':=?_) #[true,true,true,true,true,true,true,true,true,true,true,true,true,true,true,true,true,true,false,false,false,false,false,false,false,false,false,false,false,false] rfl rfl (any_of HT_.out (by kernel_rfl)) (fun _ _ _ h=>h) (Or.inr ⟨by rfl,rfl⟩) ?_ ?_
                   rotate_left
                   ·simp only [Act.put,List.setIfInBounds_toArray,List.set_cons_zero,List.set_cons_succ,i64_w,i32_w]
                    rfl
                   refine pure_ (i:=18) (N:=some 74) (v:=?_) (a':=?_) #[true,true,true,true,true,true,true,true,true,true,true,true,true,true,true,true,true,true,true,false,false,false,false,false,false,false,false,false,false,false] rfl rfl (any_of HT_.out (by kernel_rfl)) (fun _ _ _ h=>h) (Or.inl ⟨by rfl,?_⟩) ?_ ?_
                   rotate_left
                   ·intro w'
                    go_simp
                    first|with_reducible rfl|(rw [if_neg (by simp only [ByteArray.size_append,ByteArray.size_extract,eq_iff_iff,iff_true,iff_false] at *;omega)];try with_reducible rfl)
                   rotate_left
                   ·simp only [Act.put,List.setIfInBounds_toArray,List.set_cons_zero,List.set_cons_succ,i64_w,i32_w]
                    rfl
                   refine pure_ (i:=19) (N:=some 75) (v:=?_) (a':=?_) #[true,true,true,true,true,true,true,true,true,true,true,true,true,true,true,true,true,true,true,true,false,false,false,false,false,false,false,false,false,false] rfl rfl (any_of HT_.out (by kernel_rfl)) (fun _ _ _ h=>h) (Or.inl ⟨by rfl,?_⟩) ?_ ?_
                   rotate_left
                   ·intro w'
                    go_simp
                    first|with_reducible rfl|(rw [if_neg (by simp only [ByteArray.size_append,ByteArray.size_extract,eq_iff_iff,iff_true,iff_false] at *;omega)];try with_reducible rfl)
                   rotate_left
                   ·simp only [Act.put,List.setIfInBounds_toArray,List.set_cons_zero,List.set_cons_succ,i64_w,i32_w]
                    rfl
                   refine pure_ (i:=20) (N:=some 76) (v:=undef) (a':=?_) #[true,true,true,true,true,true,true,true,true,true,true,true,true,true,true,true,true,true,true,true,true,false,false,false,false,false,false,false,false,false] rfl rfl (any_of HT_.out (by kernel_rfl)) (fun _ _ _ h=>h) (Or.inr ⟨by rfl,rfl⟩) ?_ ?_
                   rotate_left
                   ·simp only [Act.put,List.setIfInBounds_toArray,List.set_cons_zero,List.set_cons_succ,i64_w,i32_w]
                    rfl
                   refine pure_ (i:=21) (N:=some 77) (v:=undef) (a':=?_) #[true,true,true,true,true,true,true,true,true,true,true,true,true,true,true,true,true,true,true,true,true,true,false,false,false,false,false,false,false,false] rfl rfl (any_of HT_.out (by kernel_rfl)) (fun _ _ _ h=>h) (Or.inr ⟨by rfl,rfl⟩) ?_ ?_
                   rotate_left
                   ·simp only [Act.put,List.setIfInBounds_toArray,List.set_cons_zero,List.set_cons_succ,i64_w,i32_w]
                    rfl
                   refine pure_ (i:=22) (N:=some 78) (v:=undef) (a':=?_) #[true,true,true,true,true,true,true,true,true,true,true,true,true,true,true,true,true,true,true,true,true,true,true,false,false,false,false,false,false,false] rfl rfl (any_of HT_.out (by kernel_rfl)) (fun _ _ _ h=>h) (Or.inr ⟨by rfl,rfl⟩) ?_ ?_
                   rotate_left
                   ·simp only [Act.put,List.setIfInBounds_toArray,List.set_cons_zero,List.set_cons_succ,i64_w,i32_w]
                    rfl
                   refine pure_ (i:=23) (N:=some 79) (v:=undef) (a':=?_) #[true,true,true,true,true,true,true,true,true,true,true,true,true,true,true,true,true,true,true,true,true,true,true,true,false,false,false,false,false,false] rfl rfl (any_of HT_.out (by kernel_rfl)) (fun _ _ _ h=>h) (Or.inr ⟨by rfl,rfl⟩) ?_ ?_
                   rotate_left
                   ·simp only [Act.put,List.setIfInBounds_toArray,List.set_cons_zero,List.set_cons_succ,i64_w,i32_w]
                    rfl
                   refine pure_ (i:=24) (N:=some 80) (v:=undef) (a':=?_) #[true,true,true,true,true,true,true,true,true,true,true,true,true,true,true,true,true,true,true,true,true,true,true,true,true,false,false,false,false,false] rfl rfl (any_of HT_.out (by kernel_rfl)) (fun _ _ _ h=>h) (Or.inr ⟨by rfl,rfl⟩) ?_ ?_
                   rotate_left
                   ·simp only [Act.put,List.setIfInBounds_toArray,List.set_cons_zero,List.set_cons_succ,i64_w,i32_w]
                    rfl
                   refine pure_ (i:=25) (N:=some 81) (v:=undef) (a':=?_) #[true,true,true,true,true,true,true,true,true,true,true,true,true,true,true,true,true,true,true,true,true,true,true,true,true,true,false,false,false,false] rfl rfl (any_of HT_.out (by kernel_rfl)) (fun _ _ _ h=>h) (Or.inr ⟨by rfl,rfl⟩) ?_ ?_
                   rotate_left
                   ·simp only [Act.put,List.setIfInBounds_toArray,List.set_cons_zero,List.set_cons_succ,i64_w,i32_w]
                    rfl
                   refine pure_ (i:=26) (N:=some 82) (v:=undef) (a':=?_) #[true,true,true,true,true,true,true,true,true,true,true,true,true,true,true,true,true,true,true,true,true,true,true,true,true,true,true,false,false,false] rfl rfl (any_of HT_.out (by kernel_rfl)) (fun _ _ _ h=>h) (Or.inr ⟨by rfl,rfl⟩) ?_ ?_
                   rotate_left
                   ·simp only [Act.put,List.setIfInBounds_toArray,List.set_cons_zero,List.set_cons_succ,i64_w,i32_w]
                    rfl
                   refine pure_ (i:=27) (N:=some 83) (v:=undef) (a':=?_) #[true,true,true,true,true,true,true,true,true,true,true,true,true,true,true,true,true,true,true,true,true,true,true,true,true,true,true,true,false,false] rfl rfl (any_of HT_.out (by kernel_rfl)) (fun _ _ _ h=>h) (Or.inr ⟨by rfl,rfl⟩) ?_ ?_
                   rotate_left
                   ·simp only [Act.put,List.setIfInBounds_toArray,List.set_cons_zero,List.set_cons_succ,i64_w,i32_w]
                    rfl
                   refine pure_ (i:=28) (N:=some 84) (v:=undef) (a':=?_) #[true,true,true,true,true,true,true,true,true,true,true,true,true,true,true,true,true,true,true,true,true,true,true,true,true,true,true,true,true,false] rfl rfl (any_of HT_.out (by kernel_rfl)) (fun _ _ _ h=>h) (Or.inr ⟨by rfl,rfl⟩) ?_ ?_
                   rotate_left
                   ·simp only [Act.put,List.setIfInBounds_toArray,List.set_cons_zero,List.set_cons_succ,i64_w,i32_w]
                    rfl
                   refine pure_ (i:=29) (N:=some 85) (v:=?_) (a':=?_) #[true,true,true,true,true,true,true,true,true,true,true,true,true,true,true,true,true,true,true,true,true,true,true,true,true,true,true,true,true,true] rfl rfl (any_of HT_.out (by kernel_rfl)) (fun _ _ _ h=>h) (Or.inl ⟨by rfl,?_⟩) ?_ ?_
                   rotate_left
                   ·intro w'
                    go_simp
                    first|with_reducible rfl|(rw [if_neg (by simp only [ByteArray.size_append,ByteArray.size_extract,eq_iff_iff,iff_true,iff_false] at *;omega)];try with_reducible rfl)
                   rotate_left
                   ·simp only [Act.put,List.setIfInBounds_toArray,List.set_cons_zero,List.set_cons_succ,i64_w,i32_w]
                    rfl
                   refine done_ (done_of HT_.out (by kernel_rfl)) ?_
                   try go_wp2
                   go_roundg k3
                   case measure=>have:=HK1.out;have:=HJ16.out;have:=HK3.out;omega
                   case rel=>exact ⟨(x12_3),(wrap64 (x13_3 + 1)),(by first|rfl|(simp;done)|(simp [*];done)),H',⟨by have:=HK1.out;have:=HJ16.out;have:=HK3.out;omega⟩,⟨by (try simp only [hl10_16]);(with_reducible repeat (first|apply Kd.R_alloc|apply Kd.R_drewN|apply Kd.R_drew));exact HO_9.out⟩,⟨by (try simp only [hl10_16]);(with_reducible repeat (first|apply Kd.R_alloc|apply Kd.R_drewN|apply Kd.R_drew));exact HO_10.out⟩,⟨by (try simp only [hl10_16]);(with_reducible repeat (first|apply Kd.R_alloc|apply Kd.R_drewN|apply Kd.R_drew));exact HO_12.out⟩,⟨by (try simp only [hl10_16]);(with_reducible repeat (first|refine blk_drewN ?_ _|refine blk_drew ?_|refine blk_alloc ?_ _));exact BK151.out⟩,⟨by repeat (first|(with_reducible first|exact HB.out|apply below_alloc|apply pw_below_drewN|apply below_drew1|refine below_set ?_ GE151.out|refine below_set ?_ GE165.out)|exact HB.out)⟩⟩
                 ·rw [if_neg c34] at H
                  exact absurd H (by simp)
                ·rw [if_neg c33] at H
                 exact absurd H (by simp)
               ·rw [if_neg c32] at H
                exact absurd H (by simp)
              ·rw [if_neg c31] at H
               have c31b0 : decide (x13_3 < (l0_0.length : Int)) = false:=decide_eq_false c31
               clear c31
               have H':=Aside0.mk H
               clear H
               have hcz84_0 : wr.cell? ⟨gb151,0,none⟩ = some (.slice A0_0 l0_0.length c0_0):=(blk_cell BK151.out 0).trans rfl
               have hcz84_1 : wr.cell? ⟨gb151,1,none⟩ = some (.int .i64 a0_1):=(blk_cell BK151.out 1).trans rfl
               have hfz84_0:=blk_frozen BK151.out 0
               have hfz84_1:=blk_frozen BK151.out 1
               go_wp2
               (try simp only [← hl10_16])
               go_roundg k3
               case measure=>have:=HK1.out;have:=HJ16.out;have:=HK3.out;omega
               case rel=>exact ⟨(x9_16),(x12_3),(wrap64 (x11_1 + 1)),(by first|rfl|(simp;done)|(simp [*];done)),H',⟨by have:=HK1.out;have:=HJ16.out;have:=HK3.out;omega⟩,⟨by (try simp only [hl10_16]);(with_reducible repeat (first|apply Kd.R_alloc|apply Kd.R_drewN|apply Kd.R_drew));exact HO_9.out⟩,⟨by (try simp only [hl10_16]);(with_reducible repeat (first|apply Kd.R_alloc|apply Kd.R_drewN|apply Kd.R_drew));exact Kd.R_mono HO_12.out (fun _ hk=>trivial)⟩,⟨by (try simp only [hl10_16]);(with_reducible repeat (first|refine blk_drewN ?_ _|refine blk_drew ?_|refine blk_alloc ?_ _));exact BK151.out⟩,⟨by repeat (first|(with_reducible first|exact HB.out|apply below_alloc|apply pw_below_drewN|apply below_drew1|refine below_set ?_ GE151.out)|exact HB.out)⟩⟩
           ·rw [if_neg c27] at H
            exact absurd H (by simp)
          ·rw [if_neg c26] at H
           exact absurd H (by simp)
      ·rw [if_neg c16] at H
       exact absurd H (by simp)
   ·rw [if_neg c7] at H
    exact absurd H (by simp)
  ·rw [if_neg c6] at H
   exact absurd H (by simp)
 ·rw [if_neg c5] at H
  exact absurd H (by simp)
end Go.Proofs.YtlakdfbfkbndiaaDoor.Q
namespace Go.Proofs.YtlakdfbfkbndiaaDoor.Re
abbrev Rel := Nat → Nat → Prop
inductive Star (R : Rel) : Nat → Nat → Prop
  | refl (i : Nat) : Star R i i
  | tail {i j k : Nat} : Star R i j → R j k → Star R i k
theorem Star.one {R : Rel} {i j : Nat} (h : R i j) : Star R i j := .tail (.refl i) h
theorem Star.trans {R : Rel} {i j k : Nat} (h : Star R i j) (g : Star R j k) : Star R i k := by
  induction g with
  | refl => exact h
  | tail _ s ih => exact .tail ih s
def Plus (R : Rel) : Rel := fun i j => ∃ m, Star R i m ∧ R m j
def seqR : List Rel → Rel
  | [] => fun i j => i = j
  | R :: l => fun i j => ∃ m, R i m ∧ seqR l m j
structure Pat where
  kd : Nat → Nat
  ks : Nat → List Nat
  st : Nat → Rel
def den (P : Pat) : Nat → Nat → Rel
  | 0, _ => fun _ _ => False
  | f + 1, n =>
    if P.kd n < 3 then P.st n
    else if P.kd n = 3 then seqR ((P.ks n).map (den P f))
    else if P.kd n = 4 then fun i j => ∃ k, k ∈ P.ks n ∧ den P f k i j
    else if P.kd n = 5 then Star (den P f ((P.ks n).headD 0))
    else if P.kd n = 6 then Plus (den P f ((P.ks n).headD 0))
    else fun i j => i = j ∨ den P f ((P.ks n).headD 0) i j
structure WF (P : Pat) (N : Nat) : Prop where
  lt : ∀ n, n < N → ∀ k, k ∈ P.ks n → k < n
  one : ∀ n, n < N → 5 ≤ P.kd n → ∃ k, P.ks n = [k]
theorem den_fuel (P : Pat) (N : Nat) (h : WF P N) : ∀ (f g n : Nat), n < N → n < f → n < g → den P f n = den P g n
  | 0, _, _, _, h1, _ => absurd h1 (by omega)
  | _ + 1, 0, _, _, _, h2 => absurd h2 (by omega)
  | f + 1, g + 1, n, hn, h1, h2 => by
    have e : ∀ k, k ∈ P.ks n → den P f k = den P g k := fun k hk => by
      have := h.lt n hn k hk
      exact den_fuel P N h f g k (by omega) (by omega) (by omega)
    have e1 : (P.ks n).map (den P f) = (P.ks n).map (den P g) := List.map_congr_left e
    have e2 : 5 ≤ P.kd n → den P f ((P.ks n).headD 0) = den P g ((P.ks n).headD 0) := fun h5 => by
      obtain ⟨k, hk⟩ := h.one n hn h5
      exact e _ (by rw [hk]; simp)
    simp only [den]
    split
    · rfl
    · split
      · rw [e1]
      · split
        · funext i j
          refine propext ⟨fun ⟨k, hk, hd⟩ => ⟨k, hk, by rw [← e k hk]; exact hd⟩, fun ⟨k, hk, hd⟩ => ⟨k, hk, by rw [e k hk]; exact hd⟩⟩
        · split
          · rw [e2 (by omega)]
          · split
            · rw [e2 (by omega)]
            · rw [e2 (by omega)]
abbrev Way := Int × Int × Int
def bldSeq (b : Nat → Nat → Nat → Nat → List Way × Nat) : List Nat → Nat → Nat → Nat → List Way × Nat
  | [], _, _, n0 => ([], n0)
  | [k], from', to', n0 => b k from' to' n0
  | k :: k2 :: l, from', to', n0 =>
    let x := b k from' n0 (n0 + 1)
    let y := bldSeq b (k2 :: l) n0 to' x.2
    (x.1 ++ y.1, y.2)
def bldAlt (b : Nat → Nat → Nat → Nat → List Way × Nat) (from' to' : Nat) : List Nat → Nat → List Way × Nat
  | [], n0 => ([], n0)
  | k :: l, n0 =>
    let x := b k from' to' n0
    let y := bldAlt b from' to' l x.2
    (x.1 ++ y.1, y.2)
def bld (P : Pat) : Nat → Nat → Nat → Nat → Nat → List Way × Nat
  | 0, _, _, _, n0 => ([], n0)
  | f + 1, n, from', to', n0 =>
    if P.kd n < 3 then ([((from' : Int), (to' : Int), (n : Int))], n0)
    else if P.kd n = 3 then bldSeq (bld P f) (P.ks n) from' to' n0
    else if P.kd n = 4 then bldAlt (bld P f) from' to' (P.ks n) n0
    else
      let x := bld P f ((P.ks n).headD 0) n0 (n0 + 1) (n0 + 2)
      ([((from' : Int), (n0 : Int), -1)] ++ x.1 ++ [((n0 : Int) + 1, (to' : Int), -1)] ++ (if P.kd n = 5 ∨ P.kd n = 6 then [((n0 : Int) + 1, (n0 : Int), -1)] else []) ++ (if P.kd n ≠ 6 then [((from' : Int), (to' : Int), -1)] else []), x.2)
def stp (P : Pat) (e : Way) (i j : Nat) : Prop := if e.2.2 < 0 then i = j else P.st e.2.2.toNat i j
def Closed (P : Pat) (E : List Way) (I : Nat → Nat → Prop) : Prop :=
  ∀ e, e ∈ E → ∀ i j, I e.1.toNat i → stp P e i j → I e.2.1.toNat j
theorem Closed.app {P : Pat} {E F : List Way} {I : Nat → Nat → Prop} : Closed P (E ++ F) I ↔ Closed P E I ∧ Closed P F I := by
  constructor
  · exact fun h => ⟨fun e he => h e (List.mem_append_left _ he), fun e he => h e (List.mem_append_right _ he)⟩
  · rintro ⟨h, g⟩ e he
    rcases List.mem_append.mp he with h1 | h1
    · exact h e h1
    · exact g e h1
theorem Closed.nil {P : Pat} {I : Nat → Nat → Prop} : Closed P [] I := fun e he => absurd he List.not_mem_nil
theorem Closed.one {P : Pat} {I : Nat → Nat → Prop} {a b : Nat} : Closed P [((a : Int), (b : Int), -1)] I ↔ ∀ i, I a i → I b i := by
  constructor
  · intro h i hi
    exact h ((a : Int), (b : Int), -1) (by simp) i i (by simpa using hi) (by simp [stp])
  · intro h e he i j hi hs
    have : e = ((a : Int), (b : Int), -1) := by simpa using he
    subst this
    simp [stp] at hs hi
    subst hs
    simpa using h i hi
theorem Closed.leaf {P : Pat} {I : Nat → Nat → Prop} {a b n : Nat} : Closed P [((a : Int), (b : Int), (n : Int))] I ↔ ∀ i j, I a i → P.st n i j → I b j := by
  constructor
  · intro h i j hi hs
    exact h ((a : Int), (b : Int), (n : Int)) (by simp) i j (by simpa using hi) (by simp only [stp]; rw [if_neg (by omega)]; simpa using hs)
  · intro h e he i j hi hs
    have : e = ((a : Int), (b : Int), (n : Int)) := by simpa using he
    subst this
    simp only [stp] at hs
    rw [if_neg (by omega)] at hs
    simpa using h i j (by simpa using hi) (by simpa using hs)
def Under (E : List Way) (n : Nat) : Prop := ∀ e, e ∈ E → 0 ≤ e.1 ∧ e.1 < n ∧ 0 ≤ e.2.1 ∧ e.2.1 < n
theorem Under.app {E F : List Way} {n : Nat} (h : Under E n) (g : Under F n) : Under (E ++ F) n := fun e he => by
  rcases List.mem_append.mp he with h1 | h1
  · exact h e h1
  · exact g e h1
theorem Under.mono {E : List Way} {n m : Nat} (h : Under E n) (hm : n ≤ m) : Under E m := fun e he => by have := h e he; omega
theorem Under.nil {n : Nat} : Under [] n := fun e he => absurd he List.not_mem_nil
theorem Under.one {a b : Nat} {c : Int} {n : Nat} (ha : a < n) (hb : b < n) : Under [((a : Int), (b : Int), c)] n := fun e he => by
  have : e = ((a : Int), (b : Int), c) := by simpa using he
  subst this
  simp; omega
theorem Closed.congr {P : Pat} {E : List Way} {I J : Nat → Nat → Prop} {n : Nat} (hu : Under E n) (hij : ∀ q, q < n → J q = I q) (h : Closed P E I) : Closed P E J := fun e he i j hi hs => by
  have u := hu e he
  rw [hij _ (by omega)] at hi
  rw [hij _ (by omega)]
  exact h e he i j hi hs
def Fit (b : Nat → Nat → Nat → Nat → List Way × Nat) (k : Nat) : Prop :=
  ∀ a c n0, a < n0 → c < n0 → n0 ≤ (b k a c n0).2 ∧ Under (b k a c n0).1 (b k a c n0).2
theorem bldSeq_fit (b : Nat → Nat → Nat → Nat → List Way × Nat) : ∀ (l : List Nat), (∀ k, k ∈ l → Fit b k) → ∀ a c n0, a < n0 → c < n0 → n0 ≤ (bldSeq b l a c n0).2 ∧ Under (bldSeq b l a c n0).1 (bldSeq b l a c n0).2
  | [], _, _, _, _, _, _ => ⟨Nat.le_refl _, Under.nil⟩
  | [k], h, a, c, n0, ha, hc => h k (by simp) a c n0 ha hc
  | k :: k2 :: l, h, a, c, n0, ha, hc => by
    simp only [bldSeq]
    have h1 := h k (by simp) a n0 (n0 + 1) (by omega) (by omega)
    have h2 := bldSeq_fit b (k2 :: l) (fun k hk => h k (List.mem_cons_of_mem _ hk)) n0 c (b k a n0 (n0 + 1)).2 (by omega) (by omega)
    exact ⟨by omega, (h1.2.mono h2.1).app h2.2⟩
theorem bldAlt_fit (b : Nat → Nat → Nat → Nat → List Way × Nat) (a c : Nat) : ∀ (l : List Nat), (∀ k, k ∈ l → Fit b k) → ∀ n0, a < n0 → c < n0 → n0 ≤ (bldAlt b a c l n0).2 ∧ Under (bldAlt b a c l n0).1 (bldAlt b a c l n0).2
  | [], _, _, _, _ => ⟨Nat.le_refl _, Under.nil⟩
  | k :: l, h, n0, ha, hc => by
    simp only [bldAlt]
    have h1 := h k (by simp) a c n0 (by omega) (by omega)
    have h2 := bldAlt_fit b a c l (fun k hk => h k (List.mem_cons_of_mem _ hk)) (b k a c n0).2 (by omega) (by omega)
    exact ⟨by omega, (h1.2.mono h2.1).app h2.2⟩
theorem bld_fit (P : Pat) : ∀ (f n : Nat), Fit (bld P f) n
  | 0, n => fun a c n0 _ _ => ⟨Nat.le_refl _, Under.nil⟩
  | f + 1, n => fun a c n0 ha hc => by
    simp only [bld]
    split
    · exact ⟨Nat.le_refl _, Under.one ha hc⟩
    · split
      · exact bldSeq_fit _ _ (fun k _ => bld_fit P f k) a c n0 ha hc
      · split
        · exact bldAlt_fit _ a c _ (fun k _ => bld_fit P f k) n0 ha hc
        · have h1 := bld_fit P f ((P.ks n).headD 0) n0 (n0 + 1) (n0 + 2) (by omega) (by omega)
          refine ⟨by dsimp only; omega, ?_⟩
          dsimp only
          have g1 : Under [((n0 : Int) + 1, (c : Int), -1)] (bld P f ((P.ks n).headD 0) n0 (n0 + 1) (n0 + 2)).2 := Under.one (a := n0 + 1) (by omega) (by omega)
          have g2 : Under [((n0 : Int) + 1, (n0 : Int), -1)] (bld P f ((P.ks n).headD 0) n0 (n0 + 1) (n0 + 2)).2 := Under.one (a := n0 + 1) (by omega) (by omega)
          refine ((((Under.one (by omega) (by omega)).app h1.2).app g1).app ?_).app ?_
          · split
            · exact g2
            · exact Under.nil
          · split
            · exact Under.one (by omega) (by omega)
            · exact Under.nil
def Sound (P : Pat) (b : Nat → Nat → Nat → Nat → List Way × Nat) (R : Nat → Rel) (k : Nat) : Prop :=
  ∀ a c n0, a < n0 → c < n0 → ∀ I0 : Nat → Nat → Prop, (∀ i j, I0 a i → R k i j → I0 c j) → ∃ I : Nat → Nat → Prop, (∀ q, q < n0 → I q = I0 q) ∧ Closed P (b k a c n0).1 I
theorem bldSeq_sound (P : Pat) (b : Nat → Nat → Nat → Nat → List Way × Nat) (R : Nat → Rel) : ∀ (l : List Nat), (∀ k, k ∈ l → Fit b k ∧ Sound P b R k) → ∀ a c n0, a < n0 → c < n0 → ∀ I0 : Nat → Nat → Prop, (∀ i j, I0 a i → seqR (l.map R) i j → I0 c j) → ∃ I : Nat → Nat → Prop, (∀ q, q < n0 → I q = I0 q) ∧ Closed P (bldSeq b l a c n0).1 I
  | [], _, _, _, _, _, _, I0, _ => ⟨I0, fun _ _ => rfl, Closed.nil⟩
  | [k], h, a, c, n0, ha, hc, I0, hI => (h k (by simp)).2 a c n0 ha hc I0 (fun i j h1 h2 => hI i j h1 ⟨j, h2, rfl⟩)
  | k :: k2 :: l, h, a, c, n0, ha, hc, I0, hI => by
    simp only [bldSeq]
    have f1 := (h k (by simp)).1 a n0 (n0 + 1) (by omega) (by omega)
    obtain ⟨I1, e1, c1⟩ := (h k (by simp)).2 a n0 (n0 + 1) (by omega) (by omega) (fun q => if q = n0 then fun j => ∃ i, I0 a i ∧ R k i j else I0 q) (fun i j h1 h2 => by
      rw [if_neg (by omega)] at h1
      simp only [if_true]
      exact ⟨i, h1, h2⟩)
    obtain ⟨I2, e2, c2⟩ := bldSeq_sound P b R (k2 :: l) (fun k hk => h k (List.mem_cons_of_mem _ hk)) n0 c (b k a n0 (n0 + 1)).2 (by omega) (by omega) I1 (fun i j h1 h2 => by
      rw [e1 n0 (by omega)] at h1
      simp only [if_true] at h1
      obtain ⟨m, hm, hr⟩ := h1
      rw [e1 c (by omega), if_neg (by omega)]
      exact hI m j hm ⟨i, hr, h2⟩)
    refine ⟨I2, fun q hq => ?_, Closed.app.mpr ⟨Closed.congr f1.2 e2 c1, c2⟩⟩
    rw [e2 q (by omega), e1 q (by omega), if_neg (by omega)]
theorem bldAlt_sound (P : Pat) (b : Nat → Nat → Nat → Nat → List Way × Nat) (R : Nat → Rel) (a c : Nat) : ∀ (l : List Nat), (∀ k, k ∈ l → Fit b k ∧ Sound P b R k) → ∀ n0, a < n0 → c < n0 → ∀ I0 : Nat → Nat → Prop, (∀ i j k, k ∈ l → I0 a i → R k i j → I0 c j) → ∃ I : Nat → Nat → Prop, (∀ q, q < n0 → I q = I0 q) ∧ Closed P (bldAlt b a c l n0).1 I
  | [], _, _, _, _, I0, _ => ⟨I0, fun _ _ => rfl, Closed.nil⟩
  | k :: l, h, n0, ha, hc, I0, hI => by
    simp only [bldAlt]
    have f1 := (h k (by simp)).1 a c n0 (by omega) (by omega)
    obtain ⟨I1, e1, c1⟩ := (h k (by simp)).2 a c n0 (by omega) (by omega) I0 (fun i j h1 h2 => hI i j k (by simp) h1 h2)
    obtain ⟨I2, e2, c2⟩ := bldAlt_sound P b R a c l (fun k hk => h k (List.mem_cons_of_mem _ hk)) (b k a c n0).2 (by omega) (by omega) I1 (fun i j k' hk h1 h2 => by
      rw [e1 a (by omega)] at h1
      rw [e1 c (by omega)]
      exact hI i j k' (List.mem_cons_of_mem _ hk) h1 h2)
    refine ⟨I2, fun q hq => ?_, Closed.app.mpr ⟨Closed.congr f1.2 e2 c1, c2⟩⟩
    rw [e2 q (by omega), e1 q (by omega)]
theorem bld_sound (P : Pat) : ∀ (f n : Nat), Sound P (bld P f) (den P f) n
  | 0, n => fun a c n0 _ _ I0 _ => ⟨I0, fun _ _ => rfl, Closed.nil⟩
  | f + 1, n => fun a c n0 ha hc I0 hI => by
    have hk : ∀ k, Fit (bld P f) k ∧ Sound P (bld P f) (den P f) k := fun k => ⟨bld_fit P f k, bld_sound P f k⟩
    simp only [bld]
    by_cases h3 : P.kd n < 3
    · rw [if_pos h3]
      refine ⟨I0, fun _ _ => rfl, Closed.leaf.mpr fun i j h1 h2 => hI i j h1 ?_⟩
      simp only [den]; rw [if_pos h3]; exact h2
    · rw [if_neg h3]
      by_cases h4 : P.kd n = 3
      · rw [if_pos h4]
        refine bldSeq_sound P _ (den P f) _ (fun k _ => hk k) a c n0 ha hc I0 fun i j h1 h2 => hI i j h1 ?_
        simp only [den]; rw [if_neg h3, if_pos h4]; exact h2
      · rw [if_neg h4]
        by_cases h5 : P.kd n = 4
        · rw [if_pos h5]
          refine bldAlt_sound P _ (den P f) a c _ (fun k _ => hk k) n0 ha hc I0 fun i j k hk h1 h2 => hI i j h1 ?_
          simp only [den]; rw [if_neg h3, if_neg h4, if_pos h5]; exact ⟨k, hk, h2⟩
        · rw [if_neg h5]
          have hden : den P (f + 1) n = (if P.kd n = 5 then Star (den P f ((P.ks n).headD 0)) else if P.kd n = 6 then Plus (den P f ((P.ks n).headD 0)) else fun i j => i = j ∨ den P f ((P.ks n).headD 0) i j) := by
            simp only [den]; rw [if_neg h3, if_neg h4, if_neg h5]
          rw [hden] at hI
          generalize (P.ks n).headD 0 = k at hI ⊢
          generalize hR : den P f k = R at hI
          obtain ⟨I, e1, c1⟩ := (hk k).2 n0 (n0 + 1) (n0 + 2) (by omega) (by omega)
            (fun q => if q = n0 then (fun i => if P.kd n = 5 ∨ P.kd n = 6 then ∃ p, I0 a p ∧ Star R p i else I0 a i) else if q = n0 + 1 then (fun j => ∃ i, (if P.kd n = 5 ∨ P.kd n = 6 then ∃ p, I0 a p ∧ Star R p i else I0 a i) ∧ R i j) else I0 q)
            (fun i j h1 h2 => by
              rw [if_pos rfl] at h1
              rw [if_neg (by omega), if_pos rfl]
              exact ⟨i, h1, hR ▸ h2⟩)
          have ea : I a = I0 a := by rw [e1 a (by omega), if_neg (by omega), if_neg (by omega)]
          have ec : I c = I0 c := by rw [e1 c (by omega), if_neg (by omega), if_neg (by omega)]
          have en : I n0 = fun i => if P.kd n = 5 ∨ P.kd n = 6 then ∃ p, I0 a p ∧ Star R p i else I0 a i := by rw [e1 n0 (by omega), if_pos rfl]
          have em : I (n0 + 1) = fun j => ∃ i, (if P.kd n = 5 ∨ P.kd n = 6 then ∃ p, I0 a p ∧ Star R p i else I0 a i) ∧ R i j := by rw [e1 (n0 + 1) (by omega), if_neg (by omega), if_pos rfl]
          refine ⟨I, fun q hq => by rw [e1 q (by omega), if_neg (by omega), if_neg (by omega)], ?_⟩
          dsimp only
          refine Closed.app.mpr ⟨Closed.app.mpr ⟨Closed.app.mpr ⟨Closed.app.mpr ⟨Closed.one.mpr ?_, c1⟩, (Closed.one (a := n0 + 1)).mpr ?_⟩, ?_⟩, ?_⟩
          · intro i hi
            rw [ea] at hi
            rw [en]
            dsimp only
            split
            · exact ⟨i, hi, .refl i⟩
            · exact hi
          · intro j hj
            rw [em] at hj
            rw [ec]
            obtain ⟨i, hi, hr⟩ := hj
            by_cases g5 : P.kd n = 5
            · rw [if_pos (.inl g5)] at hi
              rw [if_pos g5] at hI
              obtain ⟨p, hp, hst⟩ := hi
              exact hI p j hp (.tail hst hr)
            · rw [if_neg g5] at hI
              by_cases g6 : P.kd n = 6
              · rw [if_pos (.inr g6)] at hi
                rw [if_pos g6] at hI
                obtain ⟨p, hp, hst⟩ := hi
                exact hI p j hp ⟨i, hst, hr⟩
              · rw [if_neg (by omega)] at hi
                rw [if_neg g6] at hI
                exact hI i j hi (.inr hr)
          · split
            · refine (Closed.one (a := n0 + 1)).mpr fun j hj => ?_
              rw [em] at hj
              rw [en]
              obtain ⟨i, hi, hr⟩ := hj
              rename_i g
              rw [if_pos g] at hi
              rw [if_pos g]
              obtain ⟨p, hp, hst⟩ := hi
              exact ⟨p, hp, .tail hst hr⟩
            · exact Closed.nil
          · split
            · refine Closed.one.mpr fun i hi => ?_
              rw [ea] at hi
              rw [ec]
              refine hI i i hi ?_
              by_cases g5 : P.kd n = 5
              · rw [if_pos g5]; exact .refl i
              · rw [if_neg g5, if_neg (by assumption)]; exact .inl rfl
            · exact Closed.nil
def Complete (P : Pat) (b : Nat → Nat → Nat → Nat → List Way × Nat) (R : Nat → Rel) (k : Nat) : Prop :=
  ∀ a c n0 (I : Nat → Nat → Prop), Closed P (b k a c n0).1 I → ∀ i j, I a i → R k i j → I c j
theorem bldSeq_complete (P : Pat) (b : Nat → Nat → Nat → Nat → List Way × Nat) (R : Nat → Rel) : ∀ (l : List Nat), l ≠ [] → (∀ k, k ∈ l → Complete P b R k) → ∀ a c n0 (I : Nat → Nat → Prop), Closed P (bldSeq b l a c n0).1 I → ∀ i j, I a i → seqR (l.map R) i j → I c j
  | [], h, _, _, _, _, _, _, _, _, _, _ => absurd rfl h
  | [k], _, h, a, c, n0, I, hc, i, j, hi, hr => by
    obtain ⟨m, h1, h2⟩ := hr
    have h2 : m = j := h2
    subst h2
    exact h k (by simp) a c n0 I hc i m hi h1
  | k :: k2 :: l, _, h, a, c, n0, I, hc, i, j, hi, hr => by
    simp only [bldSeq] at hc
    obtain ⟨c1, c2⟩ := Closed.app.mp hc
    obtain ⟨m, h1, h2⟩ := hr
    exact bldSeq_complete P b R (k2 :: l) (by simp) (fun k hk => h k (List.mem_cons_of_mem _ hk)) n0 c _ I c2 m j (h k (by simp) a n0 _ I c1 i m hi h1) h2
theorem bldAlt_complete (P : Pat) (b : Nat → Nat → Nat → Nat → List Way × Nat) (R : Nat → Rel) (a c : Nat) : ∀ (l : List Nat), (∀ k, k ∈ l → Complete P b R k) → ∀ n0 (I : Nat → Nat → Prop), Closed P (bldAlt b a c l n0).1 I → ∀ i j k, k ∈ l → I a i → R k i j → I c j
  | [], _, _, _, _, _, _, _, hk, _, _ => absurd hk List.not_mem_nil
  | k :: l, h, n0, I, hc, i, j, k', hk, hi, hr => by
    simp only [bldAlt] at hc
    obtain ⟨c1, c2⟩ := Closed.app.mp hc
    rcases List.mem_cons.mp hk with e | e
    · subst e; exact h _ (by simp) a c n0 I c1 i j hi hr
    · exact bldAlt_complete P b R a c l (fun k hk => h k (List.mem_cons_of_mem _ hk)) _ I c2 i j k' e hi hr
def Full (P : Pat) (N : Nat) : Prop := ∀ n, n < N → P.kd n = 3 → P.ks n ≠ []
theorem bld_complete (P : Pat) (N : Nat) (hw : WF P N) (hf : Full P N) : ∀ (f n : Nat), n < N → Complete P (bld P f) (den P f) n
  | 0, n, _ => fun a c n0 I _ i j _ hr => hr.elim
  | f + 1, n, hn => fun a c n0 I hc i j hi hr => by
    have hk : ∀ k, k ∈ P.ks n → Complete P (bld P f) (den P f) k := fun k hk => bld_complete P N hw hf f k (by have := hw.lt n hn k hk; omega)
    simp only [bld] at hc
    simp only [den] at hr
    by_cases h3 : P.kd n < 3
    · rw [if_pos h3] at hc hr
      exact Closed.leaf.mp hc i j hi hr
    · rw [if_neg h3] at hc hr
      by_cases h4 : P.kd n = 3
      · rw [if_pos h4] at hc hr
        exact bldSeq_complete P _ (den P f) _ (hf n hn h4) hk a c n0 I hc i j hi hr
      · rw [if_neg h4] at hc hr
        by_cases h5 : P.kd n = 4
        · rw [if_pos h5] at hc hr
          obtain ⟨k, hm, hr⟩ := hr
          exact bldAlt_complete P _ (den P f) a c _ hk n0 I hc i j k hm hi hr
        · rw [if_neg h5] at hc hr
          have hcase : P.kd n = 5 ∨ P.kd n = 6 ∨ 7 ≤ P.kd n := by omega
          obtain ⟨k, hks⟩ := hw.one n hn (by omega)
          have hkk := hk k (by rw [hks]; simp)
          rw [hks] at hc hr
          simp only [List.headD_cons] at hc hr
          obtain ⟨hc, c5⟩ := Closed.app.mp hc
          obtain ⟨hc, c4⟩ := Closed.app.mp hc
          obtain ⟨hc, c3⟩ := Closed.app.mp hc
          obtain ⟨c1, c2⟩ := Closed.app.mp hc
          have c1 := Closed.one.mp c1
          have c3 := (Closed.one (a := n0 + 1)).mp c3
          have step : ∀ x y, I n0 x → den P f k x y → I (n0 + 1) y := fun x y hx hxy => hkk n0 (n0 + 1) _ I c2 x y hx hxy
          have many : P.kd n = 5 ∨ P.kd n = 6 → ∀ x y, Star (den P f k) x y → I n0 x → I n0 y := fun h7 x y hs => by
            rw [if_pos h7] at c4
            have c4 := (Closed.one (a := n0 + 1)).mp c4
            induction hs with
            | refl => exact id
            | tail _ hr ih => exact fun hx => c4 _ (step _ _ (ih hx) hr)
          by_cases g5 : P.kd n = 5
          · rw [if_pos g5] at hr
            cases hr with
            | refl =>
              rw [if_pos (by omega)] at c5
              exact Closed.one.mp c5 i hi
            | tail hs hr => exact c3 _ (step _ _ (many (by omega) _ _ hs (c1 _ hi)) hr)
          · rw [if_neg g5] at hr
            by_cases g6 : P.kd n = 6
            · rw [if_pos g6] at hr
              obtain ⟨m, hs, hr⟩ := hr
              exact c3 _ (step _ _ (many (by omega) _ _ hs (c1 _ hi)) hr)
            · rw [if_neg g6] at hr
              rcases hr with e | hr
              · subst e
                rw [if_pos g6] at c5
                exact Closed.one.mp c5 i hi
              · exact c3 _ (step _ _ (c1 _ hi) hr)
inductive Reach (P : Pat) (E : List Way) (s0 i0 : Nat) : Nat → Nat → Prop
  | base : Reach P E s0 i0 s0 i0
  | step {e : Way} {i j : Nat} : e ∈ E → Reach P E s0 i0 e.1.toNat i → stp P e i j → Reach P E s0 i0 e.2.1.toNat j
theorem Reach.closed (P : Pat) (E : List Way) (s0 i0 : Nat) : Closed P E (Reach P E s0 i0) := fun _ he _ _ hi hs => .step he hi hs
theorem Reach.least {P : Pat} {E : List Way} {s0 i0 : Nat} {I : Nat → Nat → Prop} (hc : Closed P E I) (hb : I s0 i0) {q j : Nat} (h : Reach P E s0 i0 q j) : I q j := by
  induction h with
  | base => exact hb
  | step he _ hs ih => exact hc _ he _ _ ih hs
theorem reach_iff (P : Pat) (N : Nat) (hw : WF P N) (hf : Full P N) (f n : Nat) (hn : n < N) (i j : Nat) : Reach P (bld P f n 0 1 2).1 0 i 1 j ↔ den P f n i j := by
  constructor
  · intro h
    obtain ⟨I, e1, c1⟩ := bld_sound P f n 0 1 2 (by omega) (by omega) (fun q => if q = 0 then fun x => x = i else fun y => den P f n i y) (fun x y h1 h2 => by
      simp only [if_true] at h1
      subst h1
      simpa using h2)
    have h1 := h.least c1 (by rw [e1 0 (by omega)]; simp)
    rw [e1 1 (by omega)] at h1
    simpa using h1
  · intro h
    exact bld_complete P N hw hf f n hn 0 1 2 _ (Reach.closed P _ 0 i) i j .base h
structure IsSet (ws : Nat → Nat) (S : Nat → Prop) : Prop where
  lt : ∀ b, b < 8 → ws b < 18446744073709551616
  bit : ∀ b t, b < 8 → t < 64 → ((ws b).testBit t = true ↔ S (64 * b + t))
theorem IsSet.empty : IsSet (fun _ => 0) (fun _ => False) := ⟨fun _ _ => by decide, fun b t _ _ => by simp⟩
theorem IsSet.congr {ws : Nat → Nat} {S T : Nat → Prop} (h : IsSet ws S) (e : ∀ j, j < 512 → (S j ↔ T j)) : IsSet ws T :=
  ⟨h.lt, fun b t hb ht => (h.bit b t hb ht).trans (e _ (by omega))⟩
theorem IsSet.congrW {ws vs : Nat → Nat} {S : Nat → Prop} (h : IsSet ws S) (e : ∀ b, b < 8 → vs b = ws b) : IsSet vs S :=
  ⟨fun b hb => by rw [e b hb]; exact h.lt b hb, fun b t hb ht => by rw [e b hb]; exact h.bit b t hb ht⟩
theorem or_lt64 {a b : Nat} (ha : a < 18446744073709551616) (hb : b < 18446744073709551616) : a ||| b < 18446744073709551616 :=
  Nat.or_lt_two_pow (n := 64) ha hb
theorem IsSet.add {ws : Nat → Nat} {S : Nat → Prop} (h : IsSet ws S) (b t : Nat) (hb : b < 8) (ht : t < 64) :
    IsSet (fun x => if x = b then ws b ||| 2 ^ t else ws x) (fun j => S j ∨ j = 64 * b + t) where
  lt := fun x hx => by
    split
    · exact or_lt64 (h.lt b hb) (Nat.pow_lt_pow_right (a := 2) (by omega) ht)
    · exact h.lt x hx
  bit := fun x u hx hu => by
    split
    · rename_i e
      subst e
      rw [Nat.testBit_or, Bool.or_eq_true, h.bit x u hx hu, Nat.testBit_two_pow]
      simp only [decide_eq_true_eq]
      constructor
      · rintro (h1 | h1)
        · exact .inl h1
        · exact .inr (by omega)
      · rintro (h1 | h1)
        · exact .inl h1
        · exact .inr (by omega)
    · rename_i e
      rw [h.bit x u hx hu]
      constructor
      · exact .inl
      · rintro (h1 | h1)
        · exact h1
        · exact absurd h1 (by omega)
theorem IsSet.or {ws vs : Nat → Nat} {S T : Nat → Prop} (h : IsSet ws S) (g : IsSet vs T) : IsSet (fun x => ws x ||| vs x) (fun j => S j ∨ T j) where
  lt := fun x hx => or_lt64 (h.lt x hx) (g.lt x hx)
  bit := fun x u hx hu => by
    rw [Nat.testBit_or, Bool.or_eq_true, h.bit x u hx hu, g.bit x u hx hu]
theorem IsSet.has {ws : Nat → Nat} {S : Nat → Prop} (h : IsSet ws S) (b t : Nat) (hb : b < 8) (ht : t < 64) : (ws b / 2 ^ t % 2 = 1 ↔ S (64 * b + t)) := by
  rw [← h.bit b t hb ht, Nat.testBit_eq_decide_div_mod_eq]
  simp
noncomputable def upto (S : Nat → Prop) (n : Nat) : List Nat := (List.range n).filter fun j => @decide (S j) (Classical.propDecidable _)
end Go.Proofs.YtlakdfbfkbndiaaDoor.Re
