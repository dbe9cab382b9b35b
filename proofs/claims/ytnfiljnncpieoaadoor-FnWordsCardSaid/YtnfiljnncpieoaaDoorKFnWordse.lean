/- What the row of FnWords rests on, and the row: for every input that can be read the call returns true and the input reads as it did; condition: what the row lists of the library reads as the program lays it. -/
import Derived.Test.YtnfiljnncpieoaaDoorKFnWordsd
set_option linter.unusedVariables false
set_option linter.unusedSimpArgs false
namespace Go.Proofs.YtnfiljnncpieoaaDoor.Q
open Go.RowKit Go.Proofs.YtnfiljnncpieoaaDoorW.PrintWords Go.Proofs.YtnfiljnncpieoaaDoorW.PrintLast Go.Proofs.YtnfiljnncpieoaaDoorW.PrintMore
attribute [local go_sem] max2_int min2_int max_two min_two max_three min_three max_four min_four   -- for this text's walks alone
set_option linter.unusedVariables false
set_option linter.unusedSimpArgs false
set_option maxHeartbeats 8000000 in
set_option maxRecDepth 100000 in
theorem spec_l3num.calls (k : Nat) (a0 : ByteArray) (a1 : Int) (r1 : Int) (r2 : ByteArray) (r3 : Int) (r4 : Int) (r5 : Int) (w : World) (h : spec_l3num.f k a0 a1 = some (r1,r2,r3,r4,r5)) :
  Calls Tryd.prog 80 #[.string a0,.int .i64 a1] w fun e w'=>e = .returned (.tuple #[.agg #[.int .i64 r1,.string r2,.int .i64 r3,.int .i64 r4],.int .i64 r5]) ∧ Below w.heap.size w w':=by
 have hu60:=Tryd.underlying60
 have HB:=Aside0.mk (Below.refl w.heap.size w)
 have H : (spec_l3num.l0 k a0 a1 a1) = some (r1,r2,r3,r4,r5):=h
 clear h
 have HC3:=Aside0.mk H
 clear H
 go_enter Tryd.func80,Tryd.ntmps80
 go_upto_block 0 with (first|((with_reducible refine gate_dst (N:=4) rfl ?_);refine box_event ?hg (N:=4) ?hd (cs:=#[.int .i64 0,.string (⟨#[]⟩ : ByteArray),.int .i64 0,.int .i64 0]) (t:=60) ?hr ?_;(case hd=>rfl);(case hg=>rfl);(case hr=>first|(go_simp;done)|(go_simp;rfl));intro gb769 hg w4 hbox hb;have n0_:=Aside0.mk (below_step (by repeat (first|(with_reducible first|exact HB.out|apply below_alloc|apply pw_below_drewN|apply below_drew1)|exact HB.out)) hb);have n1_:=Aside0.mk (hbox);have n2_:=Aside0.mk ((by rw [hg];exact (below_size (by repeat (first|(with_reducible first|exact HB.out|apply below_alloc|apply pw_below_drewN|apply below_drew1)|exact HB.out))) : w.heap.size ≤ gb769));have n3_:=Aside0.mk ((by rw [hg];exact (below_size (by repeat (first|(with_reducible first|exact HB.out|apply below_alloc|apply pw_below_drewN|apply below_drew1)|exact HB.out))) : w.heap.size ≤ gb769));clear HB;have HB:=n0_;have BK769:=n1_;have GW769:=n2_;have GE769:=n3_;clear n0_ n1_ n2_ n3_;clear hb hbox hg))
 (try simp only [Act.put,List.setIfInBounds_toArray,List.set_cons_zero,List.set_cons_succ])
 go_cut [6] (fun v6 wc=>∃ (kq : Nat) (x6_2 : Int),v6 = .int .i64 x6_2 ∧ Aside0 (spec_l3num.j1 kq a0 a1 x6_2 = some (r1,r2,r3,r4,r5)) ∧ Aside0 (kq ≤ k) ∧ Aside0 (wc.heap[gb769]? = some (.cells #[.int .i64 0,.string (⟨#[]⟩ : ByteArray),.int .i64 0,.int .i64 0] 60 (0,0))) ∧ Aside0 (Below w.heap.size w wc))
 case first =>
  have H:=HC3.out
  clear HC3
  have H':=Aside0.mk H
  clear H
  go_wp2
  go_loopg [6] k (fun kq v6 w'=>∃ (x6_1 : Int),v6 = .int .i64 x6_1 ∧ Aside0 (spec_l3num.l0 kq a0 a1 x6_1 = some (r1,r2,r3,r4,r5)) ∧ Aside0 (kq ≤ k) ∧ Aside0 (w'.heap[gb769]? = some (.cells #[.int .i64 0,.string (⟨#[]⟩ : ByteArray),.int .i64 0,.int .i64 0] 60 (0,0))) ∧ Aside0 (Below w.heap.size w w'))
  case atStart=>exact ⟨(a1),(by first|rfl|(simp;done)|(simp [*];done)),H',⟨Nat.le_refl _⟩,⟨by (with_reducible repeat (first|refine blk_drewN ?_ _|refine blk_drew ?_|refine blk_alloc ?_ _));exact BK769.out⟩,⟨by repeat (first|(with_reducible first|exact HB.out|apply below_alloc|apply pw_below_drewN|apply below_drew1|refine below_set ?_ GE769.out)|exact HB.out)⟩⟩
  case round =>
   clear H'
   try clear p2
   obtain ⟨x6_1,rfl,HA,HK1,BK769,HB⟩:=hrel
   cases gk with
   | zero=>exact absurd HA.out (by simp [spec_l3num.l0])
   | succ k1 =>
    have H:=HA.out
    clear HA
    simp only [spec_l3num.l0] at H
    by_cases c5 : x6_1 < (a0.size : Int)
    ·rw [if_pos c5] at H
     have c5b0 : decide (x6_1 < (a0.size : Int)) = true:=decide_eq_true c5
     clear c5
     (first|rw [c5b0]|(simp only [i64_w,i32_w];rw [c5b0])|skip)
     by_cases c6 : 0 ≤ x6_1
     ·rw [if_pos c6] at H
      have c6b0 : decide (0 ≤ x6_1) = true:=decide_eq_true c6
      clear c6
      replace H:=Option.bind_eq_some_iff.mp H
      obtain ⟨t770,A80,H⟩:=H
      replace H : (if t770 = true then (spec_l3num.l0 k1 a0 a1 (wrap64 (x6_1 + 1))) else (spec_l3num.j1 k1 a0 a1 x6_1)) = some (r1,r2,r3,r4,r5):=H
      have A8:=Aside0.mk A80
      clear A80
      by_cases c9 : t770 = true
      ·subst c9
       have H1 : (spec_l3num.l0 k1 a0 a1 (wrap64 (x6_1 + 1))) = some (r1,r2,r3,r4,r5):=by rw [if_pos rfl] at H;exact H
       clear H
       have H:=H1
       clear H1
       have H':=Aside0.mk H
       clear H
       have p7 : 0 ≤ (x6_1 : Int):=of_decide_eq_true (by first|(with_reducible assumption)|assumption)
       have q7 : x6_1 < (a0.size : Int):=of_decide_eq_true (by first|(with_reducible assumption)|assumption)
       have hx7:=bt_at a0 x6_1
       replace p7:=eq_true p7
       replace q7:=eq_true q7
       go_wp2_with (first|(go_at_call 54;(with_reducible refine (spec_l1digit.calls (bt a0 x6_1) true _ A8.out).mono ?_);rintro e w' ⟨rfl,⟨nd,rfl⟩⟩))
       go_roundg k1
       case measure=>have:=HK1.out;omega
       case rel=>exact ⟨(wrap64 (x6_1 + 1)),(by first|rfl|(simp;done)|(simp [*];done)),H',⟨by have:=HK1.out;omega⟩,⟨by (with_reducible repeat (first|refine blk_drewN ?_ _|refine blk_drew ?_|refine blk_alloc ?_ _));exact BK769.out⟩,⟨by repeat (first|(with_reducible first|exact HB.out|apply below_alloc|apply pw_below_drewN|apply below_drew1|refine below_set ?_ GE769.out)|exact HB.out)⟩⟩
      ·replace c9:=Bool.eq_false_iff.mpr c9
       subst c9
       have H1 : (spec_l3num.j1 k1 a0 a1 x6_1) = some (r1,r2,r3,r4,r5):=by rw [if_neg (show ¬ (false = true) by decide)] at H;exact H
       clear H
       have H:=H1
       clear H1
       have H':=Aside0.mk H
       clear H
       have p7 : 0 ≤ (x6_1 : Int):=of_decide_eq_true (by first|(with_reducible assumption)|assumption)
       have q7 : x6_1 < (a0.size : Int):=of_decide_eq_true (by first|(with_reducible assumption)|assumption)
       have hx7:=bt_at a0 x6_1
       replace p7:=eq_true p7
       replace q7:=eq_true q7
       go_wp2_with (first|(go_at_call 54;(with_reducible refine (spec_l1digit.calls (bt a0 x6_1) false _ A8.out).mono ?_);rintro e w' ⟨rfl,⟨nd,rfl⟩⟩))
       go_meet
       case rel=>exact ⟨_,(x6_1),(by first|rfl|(simp;done)|(simp [*];done)),H',⟨by have:=HK1.out;first|omega|exact Nat.le_refl _⟩,⟨by (with_reducible repeat (first|refine blk_drewN ?_ _|refine blk_drew ?_|refine blk_alloc ?_ _));exact BK769.out⟩,⟨by repeat (first|(with_reducible first|exact HB.out|apply below_alloc|apply pw_below_drewN|apply below_drew1|refine below_set ?_ GE769.out)|exact HB.out)⟩⟩
     ·rw [if_neg c6] at H
      exact absurd H (by simp)
    ·rw [if_neg c5] at H
     have c5b0 : decide (x6_1 < (a0.size : Int)) = false:=decide_eq_false c5
     clear c5
     (first|rw [c5b0]|(simp only [i64_w,i32_w];rw [c5b0])|skip)
     have H':=Aside0.mk H
     clear H
     go_wp2
     go_meet
     case rel=>exact ⟨_,(x6_1),(by first|rfl|(simp;done)|(simp [*];done)),H',⟨by have:=HK1.out;first|omega|exact Nat.le_refl _⟩,⟨by (with_reducible repeat (first|refine blk_drewN ?_ _|refine blk_drew ?_|refine blk_alloc ?_ _));exact BK769.out⟩,⟨by repeat (first|(with_reducible first|exact HB.out|apply below_alloc|apply pw_below_drewN|apply below_drew1|refine below_set ?_ GE769.out)|exact HB.out)⟩⟩
 case rest =>
  clear HC3
  try clear p2
  try clear c5
  try clear c5b0
  try clear c6
  try clear c6b0
  try clear p6
  try clear p7
  try clear q7
  try clear hx7
  try clear c8
  try clear c9
  try clear p2
  try clear p7
  try clear q7
  obtain ⟨kq,x6_2,rfl,HA,HJ2,BK769,HB⟩:=hcut
  cases kq with
  | zero=>exact absurd HA.out (by simp [spec_l3num.j1])
  | succ kj2 =>
   have H:=HA.out
   clear HA
   simp only [spec_l3num.j1] at H
   have HC10:=Aside0.mk H
   clear H
   go_upto_region 4 with (fail)
   go_cut [39] (fun v39 wc=>∃ (kq : Nat) (x39_9 : Bool),v39 = .bool x39_9 ∧ Aside0 (spec_l3num.j2 kq a0 a1 x6_2 x39_9 = some (r1,r2,r3,r4,r5)) ∧ Aside0 (kq ≤ kj2) ∧ Aside0 (wc.heap[gb769]? = some (.cells #[.int .i64 0,.string (⟨#[]⟩ : ByteArray),.int .i64 0,.int .i64 0] 60 (0,0))) ∧ Aside0 (Below w.heap.size w wc))
   case first =>
    have H:=HC10.out
    clear HC10
    by_cases c11 : (wrap64 (x6_2 + 1)) < (a0.size : Int)
    ·rw [if_pos c11] at H
     have c11b0 : decide ((wrap64 (x6_2 + 1)) < (a0.size : Int)) = true:=decide_eq_true c11
     clear c11
     (first|rw [c11b0]|(simp only [i64_w,i32_w];rw [c11b0])|skip)
     by_cases c12 : 0 ≤ x6_2
     ·rw [if_pos c12] at H
      have c12b0 : decide (0 ≤ x6_2) = true:=decide_eq_true c12
      clear c12
      by_cases c13 : x6_2 < (a0.size : Int)
      ·rw [if_pos c13] at H
       have c13b0 : decide (x6_2 < (a0.size : Int)) = true:=decide_eq_true c13
       clear c13
       by_cases c15 : (bt a0 x6_2) = 46
       ·rw [if_pos c15] at H
        have c15b0 : ((bt a0 x6_2) == 46) = true:=beq_iff_eq.mpr c15
        have c15b1 : ((bt a0 x6_2) != 46) = false:=bne_eq_false_iff_eq.mpr c15
        clear c15
        obtain ⟨ji16,hji16⟩ : ∃ j_ : Int,(wrap64 (x6_2 + 1)) = j_:=⟨_,rfl⟩
        replace H : (if 0 ≤ (ji16) then ((spec_l1digit.f (bt a0 (ji16))).bind fun t771=>(spec_l3num.j2 kj2 a0 a1 x6_2 t771)) else (none)) = some (r1,r2,r3,r4,r5):=by first|(rw [hji16] at H;exact H)|(simp only [hji16] at H ⊢;exact H)
        (try rw [hji16] at c11b0)
        have hji16w : (IntKind.i64.wrap (x6_2 + 1)) = ji16:=(i64_w _).trans hji16
        by_cases c17 : 0 ≤ (ji16)
        ·rw [if_pos c17] at H
         have c17b0 : decide (0 ≤ (ji16)) = true:=decide_eq_true c17
         clear c17
         replace H:=Option.bind_eq_some_iff.mp H
         obtain ⟨t771,A190,H⟩:=H
         replace H : (spec_l3num.j2 kj2 a0 a1 x6_2 t771) = some (r1,r2,r3,r4,r5):=H
         have A19:=Aside0.mk A190
         clear A190
         have H':=Aside0.mk H
         clear H
         have p14 : 0 ≤ (x6_2 : Int):=of_decide_eq_true (by first|(with_reducible assumption)|assumption)
         have q14 : x6_2 < (a0.size : Int):=of_decide_eq_true (by first|(with_reducible assumption)|assumption)
         have hx14:=bt_at a0 x6_2
         replace p14:=eq_true p14
         replace q14:=eq_true q14
         have p18 : 0 ≤ ((ji16) : Int):=of_decide_eq_true (by first|(with_reducible assumption)|assumption)
         have q18 : (ji16) < (a0.size : Int):=of_decide_eq_true (by first|(with_reducible assumption)|assumption)
         have hx18:=bt_at a0 (ji16)
         replace p18:=eq_true p18
         replace q18:=eq_true q18
         go_wp2_with (first|(go_at_call 54;(with_reducible refine (spec_l1digit.calls (bt a0 (ji16)) t771 _ A19.out).mono ?_);rintro e w' ⟨rfl,⟨nd,rfl⟩⟩))
         go_meet
         case rel=>exact ⟨_,(t771),(by first|rfl|(simp;done)|(simp [*];done)),H',⟨by have:=HJ2.out;first|omega|exact Nat.le_refl _⟩,⟨by (with_reducible repeat (first|refine blk_drewN ?_ _|refine blk_drew ?_|refine blk_alloc ?_ _));exact BK769.out⟩,⟨by repeat (first|(with_reducible first|exact HB.out|apply below_alloc|apply pw_below_drewN|apply below_drew1|refine below_set ?_ GE769.out)|exact HB.out)⟩⟩
        ·rw [if_neg c17] at H
         exact absurd H (by simp)
       ·rw [if_neg c15] at H
        have c15b0 : ((bt a0 x6_2) == 46) = false:=beq_eq_false_iff_ne.mpr c15
        have c15b1 : ((bt a0 x6_2) != 46) = true:=bne_iff_ne.mpr c15
        have H':=Aside0.mk H
        clear H
        have p14 : 0 ≤ (x6_2 : Int):=of_decide_eq_true (by first|(with_reducible assumption)|assumption)
        have q14 : x6_2 < (a0.size : Int):=of_decide_eq_true (by first|(with_reducible assumption)|assumption)
        have hx14:=bt_at a0 x6_2
        replace p14:=eq_true p14
        replace q14:=eq_true q14
        go_wp2
        go_meet
        case rel=>exact ⟨_,(false),(by first|rfl|(simp;done)|(simp [*];done)),H',⟨by have:=HJ2.out;first|omega|exact Nat.le_refl _⟩,⟨by (with_reducible repeat (first|refine blk_drewN ?_ _|refine blk_drew ?_|refine blk_alloc ?_ _));exact BK769.out⟩,⟨by repeat (first|(with_reducible first|exact HB.out|apply below_alloc|apply pw_below_drewN|apply below_drew1|refine below_set ?_ GE769.out)|exact HB.out)⟩⟩
      ·rw [if_neg c13] at H
       exact absurd H (by simp)
     ·rw [if_neg c12] at H
      exact absurd H (by simp)
    ·rw [if_neg c11] at H
     have c11b0 : decide ((wrap64 (x6_2 + 1)) < (a0.size : Int)) = false:=decide_eq_false c11
     clear c11
     (first|rw [c11b0]|(simp only [i64_w,i32_w];rw [c11b0])|skip)
     have H':=Aside0.mk H
     clear H
     go_wp2
     go_meet
     case rel=>exact ⟨_,(false),(by first|rfl|(simp;done)|(simp [*];done)),H',⟨by have:=HJ2.out;first|omega|exact Nat.le_refl _⟩,⟨by (with_reducible repeat (first|refine blk_drewN ?_ _|refine blk_drew ?_|refine blk_alloc ?_ _));exact BK769.out⟩,⟨by repeat (first|(with_reducible first|exact HB.out|apply below_alloc|apply pw_below_drewN|apply below_drew1|refine below_set ?_ GE769.out)|exact HB.out)⟩⟩
   case rest =>
    clear HC10
    try clear c1
    try clear p1
    try clear q1
    try clear hx1
    try clear p2
    try clear c5
    try clear c5b0
    try clear c6
    try clear c6b0
    try clear p6
    try clear p7
    try clear q7
    try clear hx7
    try clear c8
    try clear c9
    try clear c11
    try clear c11b0
    try clear c12
    try clear c12b0
    try clear c13
    try clear c13b0
    try clear p14
    try clear q14
    try clear hx14
    try clear c15
    try clear c15b0
    try clear c15b1
    try clear c17
    try clear c17b0
    try clear p18
    try clear q18
    try clear hx18
    try clear p14
    try clear p18
    try clear p2
    try clear p6
    try clear p7
    try clear q14
    try clear q18
    try clear q7
    obtain ⟨kq,x39_9,rfl,HA,HJ9,BK769,HB⟩:=hcut
    cases kq with
    | zero=>exact absurd HA.out (by simp [spec_l3num.j2])
    | succ kj9 =>
     have H:=HA.out
     clear HA
     simp only [spec_l3num.j2] at H
     by_cases c20 : x39_9 = true
     ·subst c20
      have H1 : (spec_l3num.l1 kj9 a0 a1 (wrap64 (x6_2 + 1))) = some (r1,r2,r3,r4,r5):=by rw [if_pos rfl] at H;exact H
      clear H
      have H:=H1
      clear H1
      have H':=Aside0.mk H
      clear H
      go_wp2
      go_loopg [6] kj9 (fun kq v6 w'=>∃ (x6_3 : Int),v6 = .int .i64 x6_3 ∧ Aside0 (spec_l3num.l1 kq a0 a1 x6_3 = some (r1,r2,r3,r4,r5)) ∧ Aside0 (kq ≤ kj9) ∧ Aside0 (w'.heap[gb769]? = some (.cells #[.int .i64 0,.string (⟨#[]⟩ : ByteArray),.int .i64 0,.int .i64 0] 60 (0,0))) ∧ Aside0 (Below w.heap.size w w'))
      case atStart=>exact ⟨(wrap64 (x6_2 + 1)),(by first|rfl|(simp;done)|(simp [*];done)),H',⟨Nat.le_refl _⟩,⟨by (with_reducible repeat (first|refine blk_drewN ?_ _|refine blk_drew ?_|refine blk_alloc ?_ _));exact BK769.out⟩,⟨by repeat (first|(with_reducible first|exact HB.out|apply below_alloc|apply pw_below_drewN|apply below_drew1|refine below_set ?_ GE769.out)|exact HB.out)⟩⟩
      case round =>
       clear H'
       try clear c1
       try clear p1
       try clear q1
       try clear hx1
       try clear c2
       try clear p2
       try clear c5
       try clear c5b0
       try clear c6
       try clear c6b0
       try clear p6
       try clear p7
       try clear q7
       try clear hx7
       try clear c8
       try clear c9
       try clear c11
       try clear c11b0
       try clear c12
       try clear c12b0
       try clear c13
       try clear c13b0
       try clear p14
       try clear q14
       try clear hx14
       try clear c15
       try clear c15b0
       try clear c15b1
       try clear c17
       try clear c17b0
       try clear p18
       try clear q18
       try clear hx18
       try clear c20
       try clear p1
       try clear p14
       try clear p18
       try clear p2
       try clear p6
       try clear p7
       try clear q1
       try clear q14
       try clear q18
       try clear q7
       obtain ⟨x6_3,rfl,HA,HK3,BK769,HB⟩:=hrel
       cases gk with
       | zero=>exact absurd HA.out (by simp [spec_l3num.l1])
       | succ k3 =>
        have H:=HA.out
        clear HA
        simp only [spec_l3num.l1] at H
        by_cases c21 : x6_3 < (a0.size : Int)
        ·rw [if_pos c21] at H
         have c21b0 : decide (x6_3 < (a0.size : Int)) = true:=decide_eq_true c21
         clear c21
         by_cases c22 : 0 ≤ x6_3
         ·rw [if_pos c22] at H
          have c22b0 : decide (0 ≤ x6_3) = true:=decide_eq_true c22
          clear c22
          replace H:=Option.bind_eq_some_iff.mp H
          obtain ⟨t772,A240,H⟩:=H
          replace H : (if t772 = true then (spec_l3num.l1 k3 a0 a1 (wrap64 (x6_3 + 1))) else (if 0 ≤ a1 then (if a1 ≤ x6_3 then (if x6_3 ≤ (a0.size : Int) then ((spec_ReadDec.f k3 (a0.extract (a1 : Int).toNat (x6_3 : Int).toNat)).bind fun bt773=>(some (1,(⟨#[]⟩ : ByteArray),bt773.1,a1,x6_3))) else (none)) else (none)) else (none))) = some (r1,r2,r3,r4,r5):=H
          have A24:=Aside0.mk A240
          clear A240
          by_cases c25 : t772 = true
          ·subst c25
           have H1 : (spec_l3num.l1 k3 a0 a1 (wrap64 (x6_3 + 1))) = some (r1,r2,r3,r4,r5):=by rw [if_pos rfl] at H;exact H
           clear H
           have H:=H1
           clear H1
           have H':=Aside0.mk H
           clear H
           have p23 : 0 ≤ (x6_3 : Int):=of_decide_eq_true (by first|(with_reducible assumption)|assumption)
           have q23 : x6_3 < (a0.size : Int):=of_decide_eq_true (by first|(with_reducible assumption)|assumption)
           have hx23:=bt_at a0 x6_3
           replace p23:=eq_true p23
           replace q23:=eq_true q23
           go_wp2_with (first|(go_at_call 54;(with_reducible refine (spec_l1digit.calls (bt a0 x6_3) true _ A24.out).mono ?_);rintro e w' ⟨rfl,⟨nd,rfl⟩⟩))
           go_roundg k3
           case measure=>have:=HJ2.out;have:=HJ9.out;have:=HK3.out;omega
           case rel=>exact ⟨(wrap64 (x6_3 + 1)),(by first|rfl|(simp;done)|(simp [*];done)),H',⟨by have:=HJ2.out;have:=HJ9.out;have:=HK3.out;omega⟩,⟨by (with_reducible repeat (first|refine blk_drewN ?_ _|refine blk_drew ?_|refine blk_alloc ?_ _));exact BK769.out⟩,⟨by repeat (first|(with_reducible first|exact HB.out|apply below_alloc|apply pw_below_drewN|apply below_drew1|refine below_set ?_ GE769.out)|exact HB.out)⟩⟩
          ·replace c25:=Bool.eq_false_iff.mpr c25
           subst c25
           have H1 : (if 0 ≤ a1 then (if a1 ≤ x6_3 then (if x6_3 ≤ (a0.size : Int) then ((spec_ReadDec.f k3 (a0.extract (a1 : Int).toNat (x6_3 : Int).toNat)).bind fun bt773=>(some (1,(⟨#[]⟩ : ByteArray),bt773.1,a1,x6_3))) else (none)) else (none)) else (none)) = some (r1,r2,r3,r4,r5):=by rw [if_neg (show ¬ (false = true) by decide)] at H;exact H
           clear H
           have H:=H1
           clear H1
           by_cases c26 : 0 ≤ a1
           ·rw [if_pos c26] at H
            have c26b0:=eq_true c26
            have c26b1 : decide (0 ≤ a1) = true:=decide_eq_true c26
            clear c26
            by_cases c27 : a1 ≤ x6_3
            ·rw [if_pos c27] at H
             have c27b0:=eq_true c27
             have c27b1 : decide (a1 ≤ x6_3) = true:=decide_eq_true c27
             clear c27
             by_cases c28 : x6_3 ≤ (a0.size : Int)
             ·rw [if_pos c28] at H
              have c28b0:=eq_true c28
              have c28b1 : decide (x6_3 ≤ (a0.size : Int)) = true:=decide_eq_true c28
              clear c28
              replace H:=Option.bind_eq_some_iff.mp H
              obtain ⟨⟨t773,t774⟩,A290,H⟩:=H
              replace H : (some (1,(⟨#[]⟩ : ByteArray),t773,a1,x6_3)) = some (r1,r2,r3,r4,r5):=H
              have A29:=Aside0.mk A290
              clear A290
              simp only [Option.some.injEq,Prod.mk.injEq] at H
              obtain ⟨rfl,rfl,rfl,rfl,rfl⟩:=H
              have p23 : 0 ≤ (x6_3 : Int):=of_decide_eq_true (by first|(with_reducible assumption)|assumption)
              have q23 : x6_3 < (a0.size : Int):=of_decide_eq_true (by first|(with_reducible assumption)|assumption)
              have hx23:=bt_at a0 x6_3
              replace p23:=eq_true p23
              replace q23:=eq_true q23
              go_wp2_with (first|(go_at_call 54;(with_reducible refine (spec_l1digit.calls (bt a0 x6_3) false _ A24.out).mono ?_);rintro e w' ⟨rfl,⟨nd,rfl⟩⟩;(try (rw [drewN_self wr];generalize hq_ : World.drewN wr _ = wr;have n0_ : Aside0 (wr.heap[gb769]? = some (.cells #[.int .i64 0,.string (⟨#[]⟩ : ByteArray),.int .i64 0,.int .i64 0] 60 (0,0))):=⟨by rw [← hq_];exact (by (with_reducible repeat (first|refine blk_drewN ?_ _|refine blk_drew ?_|refine blk_alloc ?_ _));exact BK769.out)⟩;have n1_ : Aside0 (Below w.heap.size w wr):=⟨by rw [← hq_];exact (by repeat (first|(with_reducible first|exact HB.out|apply below_alloc|apply pw_below_drewN|apply below_drew1|refine below_set ?_ GE769.out)|exact HB.out))⟩;clear BK769 HB hq_;have BK769:=n0_;have HB:=n1_;clear n0_ n1_)))|((with_reducible refine gate_callee (f:=19) rfl ?_);refine goesL_ (some 59) rfl rfl Tryd.func19 (by kernel_rfl) rfl #[.string (a0.extract (a1 : Int).toNat (x6_3 : Int).toNat)] rfl (by (try simp only [List.map_toArray,List.map_cons,List.map_nil]);first|done|rfl|(simp only [List.length_drop,List.length_take];rfl)) ?_;(with_reducible refine (spec_ReadDec.calls k3 (a0.extract (a1 : Int).toNat (x6_3 : Int).toNat) t773 t774 _ A29.out).mono ?_);rintro e w' ⟨rfl,⟨nd,rfl⟩⟩;refine ⟨_,rfl,?_⟩;(try (rw [drewN_self wr];generalize hq_ : World.drewN wr _ = wr;have n0_ : Aside0 (wr.heap[gb769]? = some (.cells #[.int .i64 0,.string (⟨#[]⟩ : ByteArray),.int .i64 0,.int .i64 0] 60 (0,0))):=⟨by rw [← hq_];exact (by (with_reducible repeat (first|refine blk_drewN ?_ _|refine blk_drew ?_|refine blk_alloc ?_ _));exact BK769.out)⟩;have n1_ : Aside0 (Below w.heap.size w wr):=⟨by rw [← hq_];exact (by repeat (first|(with_reducible first|exact HB.out|apply below_alloc|apply pw_below_drewN|apply below_drew1|refine below_set ?_ GE769.out)|exact HB.out))⟩;clear BK769 HB hq_;have BK769:=n0_;have HB:=n1_;clear n0_ n1_));have hcz30_0 : wr.cell? ⟨gb769,0,none⟩ = some (.int .i64 0):=(blk_cell BK769.out 0).trans rfl;have hcz30_1 : wr.cell? ⟨gb769,1,none⟩ = some (.string (⟨#[]⟩ : ByteArray)):=(blk_cell BK769.out 1).trans rfl;have hcz30_2 : wr.cell? ⟨gb769,2,none⟩ = some (.int .i64 0):=(blk_cell BK769.out 2).trans rfl;have hcz30_3 : wr.cell? ⟨gb769,3,none⟩ = some (.int .i64 0):=(blk_cell BK769.out 3).trans rfl;have hfz30_0:=blk_frozen BK769.out 0;have hfz30_1:=blk_frozen BK769.out 1;have hfz30_2:=blk_frozen BK769.out 2;have hfz30_3:=blk_frozen BK769.out 3))
              refine bodyPost_ret (results_ct rfl _ _ gb769 60 #[.int .i64 1,.string (⟨#[]⟩ : ByteArray),.int .i64 t773,.int .i64 a1] (0,0) _ rfl (by (with_reducible repeat (first|refine blk_drewN ?_ _|refine blk_drew ?_|refine blk_alloc ?_ _));refine blk_put (cs:=#[.int .i64 1,.string (⟨#[]⟩ : ByteArray),.int .i64 t773,.int .i64 0]) ?_ 3 _ rfl;(with_reducible repeat (first|refine blk_drewN ?_ _|refine blk_drew ?_|refine blk_alloc ?_ _));refine blk_put (cs:=#[.int .i64 1,.string (⟨#[]⟩ : ByteArray),.int .i64 0,.int .i64 0]) ?_ 2 _ rfl;(with_reducible repeat (first|refine blk_drewN ?_ _|refine blk_drew ?_|refine blk_alloc ?_ _));refine blk_put (cs:=#[.int .i64 1,.string (⟨#[]⟩ : ByteArray),.int .i64 0,.int .i64 0]) ?_ 1 _ rfl;(with_reducible repeat (first|refine blk_drewN ?_ _|refine blk_drew ?_|refine blk_alloc ?_ _));refine blk_put (cs:=#[.int .i64 0,.string (⟨#[]⟩ : ByteArray),.int .i64 0,.int .i64 0]) ?_ 0 _ rfl;(with_reducible repeat (first|refine blk_drewN ?_ _|refine blk_drew ?_|refine blk_alloc ?_ _));exact BK769.out) Tryd.underlying60 rfl (by kernel_rfl)) rfl ?_
              exact ⟨by first|rfl|(simp [errW_none,errW_some] <;> rfl)|(simp [*,errW_none,errW_some] <;> rfl),by repeat (first|(with_reducible first|exact HB.out|apply below_alloc|apply pw_below_drewN|apply below_drew1|refine below_set ?_ GE769.out)|exact HB.out)⟩
             ·rw [if_neg c28] at H
              exact absurd H (by simp)
            ·rw [if_neg c27] at H
             exact absurd H (by simp)
           ·rw [if_neg c26] at H
            exact absurd H (by simp)
         ·rw [if_neg c22] at H
          exact absurd H (by simp)
        ·rw [if_neg c21] at H
         have c21b0 : decide (x6_3 < (a0.size : Int)) = false:=decide_eq_false c21
         clear c21
         by_cases c31 : 0 ≤ a1
         ·rw [if_pos c31] at H
          have c31b0:=eq_true c31
          have c31b1 : decide (0 ≤ a1) = true:=decide_eq_true c31
          clear c31
          by_cases c32 : a1 ≤ x6_3
          ·rw [if_pos c32] at H
           have c32b0:=eq_true c32
           have c32b1 : decide (a1 ≤ x6_3) = true:=decide_eq_true c32
           clear c32
           by_cases c33 : x6_3 ≤ (a0.size : Int)
           ·rw [if_pos c33] at H
            have c33b0:=eq_true c33
            have c33b1 : decide (x6_3 ≤ (a0.size : Int)) = true:=decide_eq_true c33
            clear c33
            replace H:=Option.bind_eq_some_iff.mp H
            obtain ⟨⟨t775,t776⟩,A340,H⟩:=H
            replace H : (some (1,(⟨#[]⟩ : ByteArray),t775,a1,x6_3)) = some (r1,r2,r3,r4,r5):=H
            have A34:=Aside0.mk A340
            clear A340
            simp only [Option.some.injEq,Prod.mk.injEq] at H
            obtain ⟨rfl,rfl,rfl,rfl,rfl⟩:=H
            go_wp2_with (first|((with_reducible refine gate_callee (f:=19) rfl ?_);refine goesL_ (some 59) rfl rfl Tryd.func19 (by kernel_rfl) rfl #[.string (a0.extract (a1 : Int).toNat (x6_3 : Int).toNat)] rfl (by (try simp only [List.map_toArray,List.map_cons,List.map_nil]);first|done|rfl|(simp only [List.length_drop,List.length_take];rfl)) ?_;(with_reducible refine (spec_ReadDec.calls k3 (a0.extract (a1 : Int).toNat (x6_3 : Int).toNat) t775 t776 _ A34.out).mono ?_);rintro e w' ⟨rfl,⟨nd,rfl⟩⟩;refine ⟨_,rfl,?_⟩;(try (rw [drewN_self wr];generalize hq_ : World.drewN wr _ = wr;have n0_ : Aside0 (wr.heap[gb769]? = some (.cells #[.int .i64 0,.string (⟨#[]⟩ : ByteArray),.int .i64 0,.int .i64 0] 60 (0,0))):=⟨by rw [← hq_];exact (by (with_reducible repeat (first|refine blk_drewN ?_ _|refine blk_drew ?_|refine blk_alloc ?_ _));exact BK769.out)⟩;have n1_ : Aside0 (Below w.heap.size w wr):=⟨by rw [← hq_];exact (by repeat (first|(with_reducible first|exact HB.out|apply below_alloc|apply pw_below_drewN|apply below_drew1|refine below_set ?_ GE769.out)|exact HB.out))⟩;clear BK769 HB hq_;have BK769:=n0_;have HB:=n1_;clear n0_ n1_));have hcz35_0 : wr.cell? ⟨gb769,0,none⟩ = some (.int .i64 0):=(blk_cell BK769.out 0).trans rfl;have hcz35_1 : wr.cell? ⟨gb769,1,none⟩ = some (.string (⟨#[]⟩ : ByteArray)):=(blk_cell BK769.out 1).trans rfl;have hcz35_2 : wr.cell? ⟨gb769,2,none⟩ = some (.int .i64 0):=(blk_cell BK769.out 2).trans rfl;have hcz35_3 : wr.cell? ⟨gb769,3,none⟩ = some (.int .i64 0):=(blk_cell BK769.out 3).trans rfl;have hfz35_0:=blk_frozen BK769.out 0;have hfz35_1:=blk_frozen BK769.out 1;have hfz35_2:=blk_frozen BK769.out 2;have hfz35_3:=blk_frozen BK769.out 3))
            refine bodyPost_ret (results_ct rfl _ _ gb769 60 #[.int .i64 1,.string (⟨#[]⟩ : ByteArray),.int .i64 t775,.int .i64 a1] (0,0) _ rfl (by (with_reducible repeat (first|refine blk_drewN ?_ _|refine blk_drew ?_|refine blk_alloc ?_ _));refine blk_put (cs:=#[.int .i64 1,.string (⟨#[]⟩ : ByteArray),.int .i64 t775,.int .i64 0]) ?_ 3 _ rfl;(with_reducible repeat (first|refine blk_drewN ?_ _|refine blk_drew ?_|refine blk_alloc ?_ _));refine blk_put (cs:=#[.int .i64 1,.string (⟨#[]⟩ : ByteArray),.int .i64 0,.int .i64 0]) ?_ 2 _ rfl;(with_reducible repeat (first|refine blk_drewN ?_ _|refine blk_drew ?_|refine blk_alloc ?_ _));refine blk_put (cs:=#[.int .i64 1,.string (⟨#[]⟩ : ByteArray),.int .i64 0,.int .i64 0]) ?_ 1 _ rfl;(with_reducible repeat (first|refine blk_drewN ?_ _|refine blk_drew ?_|refine blk_alloc ?_ _));refine blk_put (cs:=#[.int .i64 0,.string (⟨#[]⟩ : ByteArray),.int .i64 0,.int .i64 0]) ?_ 0 _ rfl;(with_reducible repeat (first|refine blk_drewN ?_ _|refine blk_drew ?_|refine blk_alloc ?_ _));exact BK769.out) Tryd.underlying60 rfl (by kernel_rfl)) rfl ?_
            exact ⟨by first|rfl|(simp [errW_none,errW_some] <;> rfl)|(simp [*,errW_none,errW_some] <;> rfl),by repeat (first|(with_reducible first|exact HB.out|apply below_alloc|apply pw_below_drewN|apply below_drew1|refine below_set ?_ GE769.out)|exact HB.out)⟩
           ·rw [if_neg c33] at H
            exact absurd H (by simp)
          ·rw [if_neg c32] at H
           exact absurd H (by simp)
         ·rw [if_neg c31] at H
          exact absurd H (by simp)
     ·replace c20:=Bool.eq_false_iff.mpr c20
      subst c20
      have H1 : (if 0 ≤ a1 then (if a1 ≤ x6_2 then (if x6_2 ≤ (a0.size : Int) then ((spec_ReadDec.f kj9 (a0.extract (a1 : Int).toNat (x6_2 : Int).toNat)).bind fun bt777=>(some (1,(⟨#[]⟩ : ByteArray),bt777.1,a1,x6_2))) else (none)) else (none)) else (none)) = some (r1,r2,r3,r4,r5):=by rw [if_neg (show ¬ (false = true) by decide)] at H;exact H
      clear H
      have H:=H1
      clear H1
      by_cases c36 : 0 ≤ a1
      ·rw [if_pos c36] at H
       have c36b0:=eq_true c36
       have c36b1 : decide (0 ≤ a1) = true:=decide_eq_true c36
       clear c36
       by_cases c37 : a1 ≤ x6_2
       ·rw [if_pos c37] at H
        have c37b0:=eq_true c37
        have c37b1 : decide (a1 ≤ x6_2) = true:=decide_eq_true c37
        clear c37
        by_cases c38 : x6_2 ≤ (a0.size : Int)
        ·rw [if_pos c38] at H
         have c38b0:=eq_true c38
         have c38b1 : decide (x6_2 ≤ (a0.size : Int)) = true:=decide_eq_true c38
         clear c38
         replace H:=Option.bind_eq_some_iff.mp H
         obtain ⟨⟨t777,t778⟩,A390,H⟩:=H
         replace H : (some (1,(⟨#[]⟩ : ByteArray),t777,a1,x6_2)) = some (r1,r2,r3,r4,r5):=H
         have A39:=Aside0.mk A390
         clear A390
         simp only [Option.some.injEq,Prod.mk.injEq] at H
         obtain ⟨rfl,rfl,rfl,rfl,rfl⟩:=H
         go_wp2_with (first|((with_reducible refine gate_callee (f:=19) rfl ?_);refine goesL_ (some 59) rfl rfl Tryd.func19 (by kernel_rfl) rfl #[.string (a0.extract (a1 : Int).toNat (x6_2 : Int).toNat)] rfl (by (try simp only [List.map_toArray,List.map_cons,List.map_nil]);first|done|rfl|(simp only [List.length_drop,List.length_take];rfl)) ?_;(with_reducible refine (spec_ReadDec.calls kj9 (a0.extract (a1 : Int).toNat (x6_2 : Int).toNat) t777 t778 _ A39.out).mono ?_);rintro e w' ⟨rfl,⟨nd,rfl⟩⟩;refine ⟨_,rfl,?_⟩;(try (rw [drewN_self wc];generalize hq_ : World.drewN wc _ = wc;have n0_ : Aside0 (wc.heap[gb769]? = some (.cells #[.int .i64 0,.string (⟨#[]⟩ : ByteArray),.int .i64 0,.int .i64 0] 60 (0,0))):=⟨by rw [← hq_];exact (by (with_reducible repeat (first|refine blk_drewN ?_ _|refine blk_drew ?_|refine blk_alloc ?_ _));exact BK769.out)⟩;have n1_ : Aside0 (Below w.heap.size w wc):=⟨by rw [← hq_];exact (by repeat (first|(with_reducible first|exact HB.out|apply below_alloc|apply pw_below_drewN|apply below_drew1|refine below_set ?_ GE769.out)|exact HB.out))⟩;clear BK769 HB hq_;have BK769:=n0_;have HB:=n1_;clear n0_ n1_));have hcz40_0 : wc.cell? ⟨gb769,0,none⟩ = some (.int .i64 0):=(blk_cell BK769.out 0).trans rfl;have hcz40_1 : wc.cell? ⟨gb769,1,none⟩ = some (.string (⟨#[]⟩ : ByteArray)):=(blk_cell BK769.out 1).trans rfl;have hcz40_2 : wc.cell? ⟨gb769,2,none⟩ = some (.int .i64 0):=(blk_cell BK769.out 2).trans rfl;have hcz40_3 : wc.cell? ⟨gb769,3,none⟩ = some (.int .i64 0):=(blk_cell BK769.out 3).trans rfl;have hfz40_0:=blk_frozen BK769.out 0;have hfz40_1:=blk_frozen BK769.out 1;have hfz40_2:=blk_frozen BK769.out 2;have hfz40_3:=blk_frozen BK769.out 3))
         refine bodyPost_ret (results_ct rfl _ _ gb769 60 #[.int .i64 1,.string (⟨#[]⟩ : ByteArray),.int .i64 t777,.int .i64 a1] (0,0) _ rfl (by (with_reducible repeat (first|refine blk_drewN ?_ _|refine blk_drew ?_|refine blk_alloc ?_ _));refine blk_put (cs:=#[.int .i64 1,.string (⟨#[]⟩ : ByteArray),.int .i64 t777,.int .i64 0]) ?_ 3 _ rfl;(with_reducible repeat (first|refine blk_drewN ?_ _|refine blk_drew ?_|refine blk_alloc ?_ _));refine blk_put (cs:=#[.int .i64 1,.string (⟨#[]⟩ : ByteArray),.int .i64 0,.int .i64 0]) ?_ 2 _ rfl;(with_reducible repeat (first|refine blk_drewN ?_ _|refine blk_drew ?_|refine blk_alloc ?_ _));refine blk_put (cs:=#[.int .i64 1,.string (⟨#[]⟩ : ByteArray),.int .i64 0,.int .i64 0]) ?_ 1 _ rfl;(with_reducible repeat (first|refine blk_drewN ?_ _|refine blk_drew ?_|refine blk_alloc ?_ _));refine blk_put (cs:=#[.int .i64 0,.string (⟨#[]⟩ : ByteArray),.int .i64 0,.int .i64 0]) ?_ 0 _ rfl;(with_reducible repeat (first|refine blk_drewN ?_ _|refine blk_drew ?_|refine blk_alloc ?_ _));exact BK769.out) Tryd.underlying60 rfl (by kernel_rfl)) rfl ?_
         exact ⟨by first|rfl|(simp [errW_none,errW_some] <;> rfl)|(simp [*,errW_none,errW_some] <;> rfl),by repeat (first|(with_reducible first|exact HB.out|apply below_alloc|apply pw_below_drewN|apply below_drew1|refine below_set ?_ GE769.out)|exact HB.out)⟩
        ·rw [if_neg c38] at H
         exact absurd H (by simp)
       ·rw [if_neg c37] at H
        exact absurd H (by simp)
      ·rw [if_neg c36] at H
       exact absurd H (by simp)
def spec_l3str.l0 : Nat → ByteArray → Int → List Int → Int → Option (Int × ByteArray × Int × Int × Int)
 | 0,_,_,_,_=>none
 | k + 1,x0,x1,x6,x7=>if x7 < (x0.size : Int) then (if 0 ≤ x7 then (if (bt x0 x7) = 34 then (some (2,strOfNums x6,0,x1,wrap64 (x7 + 1))) else (if (bt x0 x7) = 10 then (some (0,(⟨#[]⟩ : ByteArray),0,0,(-1))) else (if (bt x0 x7) = 92 then (if (wrap64 (x7 + 1)) = (x0.size : Int) then (some (0,(⟨#[]⟩ : ByteArray),0,0,(-1))) else (if 0 ≤ (wrap64 (x7 + 1)) then (if (wrap64 (x7 + 1)) < (x0.size : Int) then (if (bt x0 (wrap64 (x7 + 1))) = 110 then (if x6.length < 140737488355328 then (spec_l3str.l0 k x0 x1 (x6 ++ [10]) (wrap64 ((wrap64 (x7 + 1)) + 1))) else (none)) else (if (bt x0 (wrap64 (x7 + 1))) = 116 then (if x6.length < 140737488355328 then (spec_l3str.l0 k x0 x1 (x6 ++ [9]) (wrap64 ((wrap64 (x7 + 1)) + 1))) else (none)) else (if (bt x0 (wrap64 (x7 + 1))) = 34 then (if x6.length < 140737488355328 then (spec_l3str.l0 k x0 x1 (x6 ++ [bt x0 (wrap64 (x7 + 1))]) (wrap64 ((wrap64 (x7 + 1)) + 1))) else (none)) else (if (bt x0 (wrap64 (x7 + 1))) = 92 then (if x6.length < 140737488355328 then (spec_l3str.l0 k x0 x1 (x6 ++ [bt x0 (wrap64 (x7 + 1))]) (wrap64 ((wrap64 (x7 + 1)) + 1))) else (none)) else (some (0,(⟨#[]⟩ : ByteArray),0,0,(-1))))))) else (none)) else (none))) else (if x6.length < 140737488355328 then (spec_l3str.l0 k x0 x1 (x6 ++ [bt x0 x7]) (wrap64 (x7 + 1))) else (none))))) else (none)) else (some (0,(⟨#[]⟩ : ByteArray),0,0,(-1)))
def spec_l3str.f (k : Nat) (a0 : ByteArray) (a1 : Int) : Option (Int × ByteArray × Int × Int × Int):=spec_l3str.l0 k a0 a1 ([] : List Int) (wrap64 (a1 + 1))
set_option maxHeartbeats 8000000 in
set_option maxRecDepth 100000 in
theorem spec_l3str.calls (k : Nat) (a0 : ByteArray) (a1 : Int) (r1 : Int) (r2 : ByteArray) (r3 : Int) (r4 : Int) (r5 : Int) (w : World) (h : spec_l3str.f k a0 a1 = some (r1,r2,r3,r4,r5)) :
  Calls Tryd.prog 81 #[.string a0,.int .i64 a1] w fun e w'=>e = .returned (.tuple #[.agg #[.int .i64 r1,.string r2,.int .i64 r3,.int .i64 r4],.int .i64 r5]) ∧ Below w.heap.size w w':=by
 have hu60:=Tryd.underlying60
 have HB:=Aside0.mk (Below.refl w.heap.size w)
 have H : (spec_l3str.l0 k a0 a1 ([] : List Int) (wrap64 (a1 + 1))) = some (r1,r2,r3,r4,r5):=h
 clear h
 have H':=Aside0.mk H
 clear H
 go_enter Tryd.func81,Tryd.ntmps81
 go_wp2_with (first|((with_reducible refine gate_dst (N:=4) rfl ?_);refine box_event ?hg (N:=4) ?hd (cs:=#[.int .i64 0,.string (⟨#[]⟩ : ByteArray),.int .i64 0,.int .i64 0]) (t:=60) ?hr ?_;(case hd=>rfl);(case hg=>rfl);(case hr=>first|(go_simp;done)|(go_simp;rfl));intro gb779 hg w3 hbox hb;have n0_:=Aside0.mk (below_step (by repeat (first|(with_reducible first|exact HB.out|apply below_alloc|apply pw_below_drewN|apply below_drew1)|exact HB.out)) hb);have n1_:=Aside0.mk (hbox);have n2_:=Aside0.mk ((by rw [hg];exact (below_size (by repeat (first|(with_reducible first|exact HB.out|apply below_alloc|apply pw_below_drewN|apply below_drew1)|exact HB.out))) : w.heap.size ≤ gb779));have n3_:=Aside0.mk ((by rw [hg];exact (below_size (by repeat (first|(with_reducible first|exact HB.out|apply below_alloc|apply pw_below_drewN|apply below_drew1)|exact HB.out))) : w.heap.size ≤ gb779));clear HB;have HB:=n0_;have BK779:=n1_;have GW779:=n2_;have GE779:=n3_;clear n0_ n1_ n2_ n3_;clear hb hbox hg))
 go_loopg [6,7] k (fun kq v6 v7 w'=>∃ (x6_1 : List Int) (x7_1 : Int) (x780000_1 : Int) (x780001_1 : ByteArray) (x780002_1 : Int) (x780003_1 : Int),v7 = .int .i64 x7_1 ∧ Aside0 (spec_l3str.l0 kq a0 a1 x6_1 x7_1 = some (r1,r2,r3,r4,r5)) ∧ Aside0 (kq ≤ k) ∧ Aside0 (Kd.R (Kd.int .u8) 5 w' w.heap.size (fun _=>True) v6 x6_1) ∧ Aside0 (w'.heap[gb779]? = some (.cells #[.int .i64 x780000_1,.string x780001_1,.int .i64 x780002_1,.int .i64 x780003_1] 60 (0,0))) ∧ Aside0 (Below w.heap.size w w'))
 case atStart=>exact ⟨(([] : List Int)),(wrap64 (a1 + 1)),(0),((⟨#[]⟩ : ByteArray)),(0),(0),(by first|rfl|(simp;done)|(simp [*];done)),H',⟨Nat.le_refl _⟩,⟨by first|exact Kd.R_nil _ _ _ _ _|exact Kd.N_nil _ _ _ _ _|exact Kd.V_nil _ _ _ _ _|exact Kd.Q_nil _ _ _ _ _|exact Kd.S_nil _ _ _ _ _⟩,⟨by (with_reducible repeat (first|refine blk_drewN ?_ _|refine blk_drew ?_|refine blk_alloc ?_ _));exact BK779.out⟩,⟨by repeat (first|(with_reducible first|exact HB.out|apply below_alloc|apply pw_below_drewN|apply below_drew1|refine below_set ?_ GE779.out)|exact HB.out)⟩⟩
 case round =>
  clear H'
  try clear p2
  obtain ⟨x6_1,x7_1,x780000_1,x780001_1,x780002_1,x780003_1,rfl,HA,HK1,HO_6,BK779,HB⟩:=hrel
  cases gk with
  | zero=>exact absurd HA.out (by simp [spec_l3str.l0])
  | succ k1 =>
   have H:=HA.out
   clear HA
   simp only [spec_l3str.l0] at H
   by_cases c4 : x7_1 < (a0.size : Int)
   ·rw [if_pos c4] at H
    have c4b0 : decide (x7_1 < (a0.size : Int)) = true:=decide_eq_true c4
    clear c4
    by_cases c5 : 0 ≤ x7_1
    ·rw [if_pos c5] at H
     have c5b0 : decide (0 ≤ x7_1) = true:=decide_eq_true c5
     clear c5
     by_cases c7 : (bt a0 x7_1) = 34
     ·rw [if_pos c7] at H
      have c7b0 : ((bt a0 x7_1) == 34) = true:=beq_iff_eq.mpr c7
      have c7b1 : ((bt a0 x7_1) != 34) = false:=bne_eq_false_iff_eq.mpr c7
      clear c7
      simp only [Option.some.injEq,Prod.mk.injEq] at H
      obtain ⟨rfl,rfl,rfl,rfl,rfl⟩:=H
      have p6 : 0 ≤ (x7_1 : Int):=of_decide_eq_true (by first|(with_reducible assumption)|assumption)
      have q6 : x7_1 < (a0.size : Int):=of_decide_eq_true (by first|(with_reducible assumption)|assumption)
      have hx6:=bt_at a0 x7_1
      replace p6:=eq_true p6
      replace q6:=eq_true q6
      have hcv8:=own_string (P:=Tryd.prog) Tryd.underlying31 Tryd.underlying5 Tryd.underlying9 (Kd.own_of_R HO_6.out)
      have hcz9_0 : wr.cell? ⟨gb779,0,none⟩ = some (.int .i64 x780000_1):=(blk_cell BK779.out 0).trans rfl
      have hcz9_1 : wr.cell? ⟨gb779,1,none⟩ = some (.string x780001_1):=(blk_cell BK779.out 1).trans rfl
      have hcz9_2 : wr.cell? ⟨gb779,2,none⟩ = some (.int .i64 x780002_1):=(blk_cell BK779.out 2).trans rfl
      have hcz9_3 : wr.cell? ⟨gb779,3,none⟩ = some (.int .i64 x780003_1):=(blk_cell BK779.out 3).trans rfl
      have hfz9_0:=blk_frozen BK779.out 0
      have hfz9_1:=blk_frozen BK779.out 1
      have hfz9_2:=blk_frozen BK779.out 2
      have hfz9_3:=blk_frozen BK779.out 3
      go_wp2
      refine bodyPost_ret (results_ct rfl _ _ gb779 60 #[.int .i64 2,.string (strOfNums x6_1),.int .i64 0,.int .i64 a1] (0,0) _ rfl (by (with_reducible repeat (first|refine blk_drewN ?_ _|refine blk_drew ?_|refine blk_alloc ?_ _));refine blk_put (cs:=#[.int .i64 2,.string (strOfNums x6_1),.int .i64 0,.int .i64 x780003_1]) ?_ 3 _ rfl;(with_reducible repeat (first|refine blk_drewN ?_ _|refine blk_drew ?_|refine blk_alloc ?_ _));refine blk_put (cs:=#[.int .i64 2,.string (strOfNums x6_1),.int .i64 x780002_1,.int .i64 x780003_1]) ?_ 2 _ rfl;(with_reducible repeat (first|refine blk_drewN ?_ _|refine blk_drew ?_|refine blk_alloc ?_ _));refine blk_put (cs:=#[.int .i64 2,.string x780001_1,.int .i64 x780002_1,.int .i64 x780003_1]) ?_ 1 _ rfl;(with_reducible repeat (first|refine blk_drewN ?_ _|refine blk_drew ?_|refine blk_alloc ?_ _));refine blk_put (cs:=#[.int .i64 x780000_1,.string x780001_1,.int .i64 x780002_1,.int .i64 x780003_1]) ?_ 0 _ rfl;(with_reducible repeat (first|refine blk_drewN ?_ _|refine blk_drew ?_|refine blk_alloc ?_ _));exact BK779.out) Tryd.underlying60 rfl (by kernel_rfl)) rfl ?_
      exact ⟨by first|rfl|(simp [errW_none,errW_some] <;> rfl)|(simp [*,errW_none,errW_some] <;> rfl),by repeat (first|(with_reducible first|exact HB.out|apply below_alloc|apply pw_below_drewN|apply below_drew1|refine below_set ?_ GE779.out)|exact HB.out)⟩
     ·rw [if_neg c7] at H
      have c7b0 : ((bt a0 x7_1) == 34) = false:=beq_eq_false_iff_ne.mpr c7
      have c7b1 : ((bt a0 x7_1) != 34) = true:=bne_iff_ne.mpr c7
      by_cases c10 : (bt a0 x7_1) = 10
      ·rw [if_pos c10] at H
       have c10b0 : ((bt a0 x7_1) == 10) = true:=beq_iff_eq.mpr c10
       have c10b1 : ((bt a0 x7_1) != 10) = false:=bne_eq_false_iff_eq.mpr c10
       clear c10
       simp only [Option.some.injEq,Prod.mk.injEq] at H
       obtain ⟨rfl,rfl,rfl,rfl,rfl⟩:=H
       have p6 : 0 ≤ (x7_1 : Int):=of_decide_eq_true (by first|(with_reducible assumption)|assumption)
       have q6 : x7_1 < (a0.size : Int):=of_decide_eq_true (by first|(with_reducible assumption)|assumption)
       have hx6:=bt_at a0 x7_1
       replace p6:=eq_true p6
       replace q6:=eq_true q6
       have hcz11_0 : wr.cell? ⟨gb779,0,none⟩ = some (.int .i64 x780000_1):=(blk_cell BK779.out 0).trans rfl
       have hcz11_1 : wr.cell? ⟨gb779,1,none⟩ = some (.string x780001_1):=(blk_cell BK779.out 1).trans rfl
       have hcz11_2 : wr.cell? ⟨gb779,2,none⟩ = some (.int .i64 x780002_1):=(blk_cell BK779.out 2).trans rfl
       have hcz11_3 : wr.cell? ⟨gb779,3,none⟩ = some (.int .i64 x780003_1):=(blk_cell BK779.out 3).trans rfl
       have hfz11_0:=blk_frozen BK779.out 0
       have hfz11_1:=blk_frozen BK779.out 1
       have hfz11_2:=blk_frozen BK779.out 2
       have hfz11_3:=blk_frozen BK779.out 3
       go_wp2
       refine bodyPost_ret (results_ct rfl _ _ gb779 60 #[.int .i64 0,.string (⟨#[]⟩ : ByteArray),.int .i64 0,.int .i64 0] (0,0) _ rfl (by (with_reducible repeat (first|refine blk_drewN ?_ _|refine blk_drew ?_|refine blk_alloc ?_ _));refine blk_put (cs:=#[.int .i64 0,.string (⟨#[]⟩ : ByteArray),.int .i64 0,.int .i64 x780003_1]) ?_ 3 _ rfl;(with_reducible repeat (first|refine blk_drewN ?_ _|refine blk_drew ?_|refine blk_alloc ?_ _));refine blk_put (cs:=#[.int .i64 0,.string (⟨#[]⟩ : ByteArray),.int .i64 x780002_1,.int .i64 x780003_1]) ?_ 2 _ rfl;(with_reducible repeat (first|refine blk_drewN ?_ _|refine blk_drew ?_|refine blk_alloc ?_ _));refine blk_put (cs:=#[.int .i64 0,.string x780001_1,.int .i64 x780002_1,.int .i64 x780003_1]) ?_ 1 _ rfl;(with_reducible repeat (first|refine blk_drewN ?_ _|refine blk_drew ?_|refine blk_alloc ?_ _));refine blk_put (cs:=#[.int .i64 x780000_1,.string x780001_1,.int .i64 x780002_1,.int .i64 x780003_1]) ?_ 0 _ rfl;(with_reducible repeat (first|refine blk_drewN ?_ _|refine blk_drew ?_|refine blk_alloc ?_ _));exact BK779.out) Tryd.underlying60 rfl (by kernel_rfl)) rfl ?_
       exact ⟨by first|rfl|(simp [errW_none,errW_some] <;> rfl)|(simp [*,errW_none,errW_some] <;> rfl),by repeat (first|(with_reducible first|exact HB.out|apply below_alloc|apply pw_below_drewN|apply below_drew1|refine below_set ?_ GE779.out)|exact HB.out)⟩
      ·rw [if_neg c10] at H
       have c10b0 : ((bt a0 x7_1) == 10) = false:=beq_eq_false_iff_ne.mpr c10
       have c10b1 : ((bt a0 x7_1) != 10) = true:=bne_iff_ne.mpr c10
       by_cases c12 : (bt a0 x7_1) = 92
       ·rw [if_pos c12] at H
        have c12b0 : ((bt a0 x7_1) == 92) = true:=beq_iff_eq.mpr c12
        have c12b1 : ((bt a0 x7_1) != 92) = false:=bne_eq_false_iff_eq.mpr c12
        clear c12
        by_cases c13 : (wrap64 (x7_1 + 1)) = (a0.size : Int)
        ·rw [if_pos c13] at H
         have c13b0 : ((wrap64 (x7_1 + 1)) == (a0.size : Int)) = true:=beq_iff_eq.mpr c13
         have c13b1 : ((wrap64 (x7_1 + 1)) != (a0.size : Int)) = false:=bne_eq_false_iff_eq.mpr c13
         clear c13
         simp only [Option.some.injEq,Prod.mk.injEq] at H
         obtain ⟨rfl,rfl,rfl,rfl,rfl⟩:=H
         have p6 : 0 ≤ (x7_1 : Int):=of_decide_eq_true (by first|(with_reducible assumption)|assumption)
         have q6 : x7_1 < (a0.size : Int):=of_decide_eq_true (by first|(with_reducible assumption)|assumption)
         have hx6:=bt_at a0 x7_1
         replace p6:=eq_true p6
         replace q6:=eq_true q6
         have hcz14_0 : wr.cell? ⟨gb779,0,none⟩ = some (.int .i64 x780000_1):=(blk_cell BK779.out 0).trans rfl
         have hcz14_1 : wr.cell? ⟨gb779,1,none⟩ = some (.string x780001_1):=(blk_cell BK779.out 1).trans rfl
         have hcz14_2 : wr.cell? ⟨gb779,2,none⟩ = some (.int .i64 x780002_1):=(blk_cell BK779.out 2).trans rfl
         have hcz14_3 : wr.cell? ⟨gb779,3,none⟩ = some (.int .i64 x780003_1):=(blk_cell BK779.out 3).trans rfl
         have hfz14_0:=blk_frozen BK779.out 0
         have hfz14_1:=blk_frozen BK779.out 1
         have hfz14_2:=blk_frozen BK779.out 2
         have hfz14_3:=blk_frozen BK779.out 3
         go_wp2
         refine bodyPost_ret (results_ct rfl _ _ gb779 60 #[.int .i64 0,.string (⟨#[]⟩ : ByteArray),.int .i64 0,.int .i64 0] (0,0) _ rfl (by (with_reducible repeat (first|refine blk_drewN ?_ _|refine blk_drew ?_|refine blk_alloc ?_ _));refine blk_put (cs:=#[.int .i64 0,.string (⟨#[]⟩ : ByteArray),.int .i64 0,.int .i64 x780003_1]) ?_ 3 _ rfl;(with_reducible repeat (first|refine blk_drewN ?_ _|refine blk_drew ?_|refine blk_alloc ?_ _));refine blk_put (cs:=#[.int .i64 0,.string (⟨#[]⟩ : ByteArray),.int .i64 x780002_1,.int .i64 x780003_1]) ?_ 2 _ rfl;(with_reducible repeat (first|refine blk_drewN ?_ _|refine blk_drew ?_|refine blk_alloc ?_ _));refine blk_put (cs:=#[.int .i64 0,.string x780001_1,.int .i64 x780002_1,.int .i64 x780003_1]) ?_ 1 _ rfl;(with_reducible repeat (first|refine blk_drewN ?_ _|refine blk_drew ?_|refine blk_alloc ?_ _));refine blk_put (cs:=#[.int .i64 x780000_1,.string x780001_1,.int .i64 x780002_1,.int .i64 x780003_1]) ?_ 0 _ rfl;(with_reducible repeat (first|refine blk_drewN ?_ _|refine blk_drew ?_|refine blk_alloc ?_ _));exact BK779.out) Tryd.underlying60 rfl (by kernel_rfl)) rfl ?_
         exact ⟨by first|rfl|(simp [errW_none,errW_some] <;> rfl)|(simp [*,errW_none,errW_some] <;> rfl),by repeat (first|(with_reducible first|exact HB.out|apply below_alloc|apply pw_below_drewN|apply below_drew1|refine below_set ?_ GE779.out)|exact HB.out)⟩
        ·rw [if_neg c13] at H
         have c13b0 : ((wrap64 (x7_1 + 1)) == (a0.size : Int)) = false:=beq_eq_false_iff_ne.mpr c13
         have c13b1 : ((wrap64 (x7_1 + 1)) != (a0.size : Int)) = true:=bne_iff_ne.mpr c13
         obtain ⟨ji15,hji15⟩ : ∃ j_ : Int,(wrap64 (x7_1 + 1)) = j_:=⟨_,rfl⟩
         replace H : (if 0 ≤ (ji15) then (if (ji15) < (a0.size : Int) then (if (bt a0 (ji15)) = 110 then (if x6_1.length < 140737488355328 then (spec_l3str.l0 k1 a0 a1 (x6_1 ++ [10]) (wrap64 ((ji15) + 1))) else (none)) else (if (bt a0 (ji15)) = 116 then (if x6_1.length < 140737488355328 then (spec_l3str.l0 k1 a0 a1 (x6_1 ++ [9]) (wrap64 ((ji15) + 1))) else (none)) else (if (bt a0 (ji15)) = 34 then (if x6_1.length < 140737488355328 then (spec_l3str.l0 k1 a0 a1 (x6_1 ++ [bt a0 (ji15)]) (wrap64 ((ji15) + 1))) else (none)) else (if (bt a0 (ji15)) = 92 then (if x6_1.length < 140737488355328 then (spec_l3str.l0 k1 a0 a1 (x6_1 ++ [bt a0 (ji15)]) (wrap64 ((ji15) + 1))) else (none)) else (some (0,(⟨#[]⟩ : ByteArray),0,0,(-1))))))) else (none)) else (none)) = some (r1,r2,r3,r4,r5):=by first|(rw [hji15] at H;exact H)|(simp only [hji15] at H ⊢;exact H)
         (try rw [hji15] at c13b0)
         (try rw [hji15] at c13b1)
         have hji15w : (IntKind.i64.wrap (x7_1 + 1)) = ji15:=(i64_w _).trans hji15
         by_cases c16 : 0 ≤ (ji15)
         ·rw [if_pos c16] at H
          have c16b0 : decide (0 ≤ (ji15)) = true:=decide_eq_true c16
          clear c16
          by_cases c17 : (ji15) < (a0.size : Int)
          ·rw [if_pos c17] at H
           have c17b0 : decide ((ji15) < (a0.size : Int)) = true:=decide_eq_true c17
           clear c17
           by_cases c19 : (bt a0 (ji15)) = 110
           ·rw [if_pos c19] at H
            have c19b0 : ((bt a0 (ji15)) == 110) = true:=beq_iff_eq.mpr c19
            have c19b1 : ((bt a0 (ji15)) != 110) = false:=bne_eq_false_iff_eq.mpr c19
            clear c19
            by_cases c20 : x6_1.length < 140737488355328
            ·rw [if_pos c20] at H
             have LMc20:=Aside0.mk c20
             clear c20
             obtain ⟨y780,hy780⟩ : ∃ y_ : List Int,y_ = (x6_1 ++ [10]):=⟨_,rfl⟩
             replace H : (spec_l3str.l0 k1 a0 a1 y780 (wrap64 ((ji15) + 1))) = some (r1,r2,r3,r4,r5):=by first|(rw [hy780];with_reducible exact H)|(have H2_:=(Option.bind_some _ _).symm.trans H;rw [hy780];with_reducible exact H2_)|(have H2_:=(Option.bind_some _ _).symm.trans H;with_reducible exact H2_)|with_reducible exact H|(rw [hy780];exact H)|exact H
             have Ny780:=Aside0.mk hy780
             clear hy780
             have H':=Aside0.mk H
             clear H
             have p6 : 0 ≤ (x7_1 : Int):=of_decide_eq_true (by first|(with_reducible assumption)|assumption)
             have q6 : x7_1 < (a0.size : Int):=of_decide_eq_true (by first|(with_reducible assumption)|assumption)
             have hx6:=bt_at a0 x7_1
             replace p6:=eq_true p6
             replace q6:=eq_true q6
             have p18 : 0 ≤ ((ji15) : Int):=of_decide_eq_true (by first|(with_reducible assumption)|assumption)
             have q18 : (ji15) < (a0.size : Int):=of_decide_eq_true (by first|(with_reducible assumption)|assumption)
             have hx18:=bt_at a0 (ji15)
             replace p18:=eq_true p18
             replace q18:=eq_true q18
             go_wp2_with (first|((with_reducible refine gate_builtin (b:=.append) (xs:=#[.tmp 54,.tmp 56]) rfl ?_);at_builtin;refine Kd.R_append (Kd.int .u8) (w0:=w) w.heap.size rfl (.tmp 54) (.tmp 56) 31 5 (.int .u8 0) 1 rfl Tryd.underlying31 info5 rfl (by decide) (by omega) u6 x6_1 10 [.int .u8 10] (fun _=>True) (fun _=>False) rfl rfl ?aP (fun _ hk=>hk.elim) ?aF ?aO ?aB ?aS ?aL ?_;(case aP=>exact rfl);(case aB=>exact (by repeat (first|(with_reducible first|exact HB.out|apply below_alloc|apply pw_below_drewN|apply below_drew1|refine below_set ?_ GE779.out)|exact HB.out)));(case aF=>exact (fun _ _=>trivial));(case aO=>exact (by (with_reducible repeat (first|apply Kd.R_alloc|apply Kd.R_drewN|apply Kd.R_drew));exact HO_6.out));(case aS=>exact (below_size (by repeat (first|(with_reducible first|exact HB.out|apply below_alloc|apply pw_below_drewN|apply below_drew1|refine below_set ?_ GE779.out)|exact HB.out))));(case aL=>have:=LMc20.out;omega);intro v781 w21 ho hb hg hat;rw [← Ny780.out] at ho;have n0_:=Aside0.mk (blk_grown (g:=gb779) (o:=.cells #[.int .i64 x780000_1,.string x780001_1,.int .i64 x780002_1,.int .i64 x780003_1] 60 (0,0)) (by (with_reducible repeat (first|refine blk_drewN ?_ _|refine blk_drew ?_|refine blk_alloc ?_ _));exact BK779.out) hg (Kd.R_ne HO_6.out BK779.out (by decide)));have n1_:=Aside0.mk (hb);have n2_:=Aside0.mk (ho);clear BK779;clear HB;clear HO_6;have BK779:=n0_;have HB:=n1_;have HO782:=n2_;clear n0_ n1_ n2_;clear ho hb hg hat))
             go_roundg k1
             case measure=>have:=HK1.out;omega
             case rel=>exact ⟨(y780),(wrap64 ((ji15) + 1)),(x780000_1),(x780001_1),(x780002_1),(x780003_1),(by first|rfl|(simp;done)|(simp only [← hji15] <;> (first|rfl|simp))|(simp [*];done)),H',⟨by have:=HK1.out;omega⟩,⟨by (with_reducible repeat (first|apply Kd.R_alloc|apply Kd.R_drewN|apply Kd.R_drew));exact HO782.out⟩,⟨by (with_reducible repeat (first|refine blk_drewN ?_ _|refine blk_drew ?_|refine blk_alloc ?_ _));exact BK779.out⟩,⟨by repeat (first|(with_reducible first|exact HB.out|apply below_alloc|apply pw_below_drewN|apply below_drew1|refine below_set ?_ GE779.out)|exact HB.out)⟩⟩
            ·rw [if_neg c20] at H
             exact absurd H (by simp)
           ·rw [if_neg c19] at H
            have c19b0 : ((bt a0 (ji15)) == 110) = false:=beq_eq_false_iff_ne.mpr c19
            have c19b1 : ((bt a0 (ji15)) != 110) = true:=bne_iff_ne.mpr c19
            by_cases c22 : (bt a0 (ji15)) = 116
            ·rw [if_pos c22] at H
             have c22b0 : ((bt a0 (ji15)) == 116) = true:=beq_iff_eq.mpr c22
             have c22b1 : ((bt a0 (ji15)) != 116) = false:=bne_eq_false_iff_eq.mpr c22
             clear c22
             by_cases c23 : x6_1.length < 140737488355328
             ·rw [if_pos c23] at H
              have LMc23:=Aside0.mk c23
              clear c23
              obtain ⟨y783,hy783⟩ : ∃ y_ : List Int,y_ = (x6_1 ++ [9]):=⟨_,rfl⟩
              replace H : (spec_l3str.l0 k1 a0 a1 y783 (wrap64 ((ji15) + 1))) = some (r1,r2,r3,r4,r5):=by first|(rw [hy783];with_reducible exact H)|(have H2_:=(Option.bind_some _ _).symm.trans H;rw [hy783];with_reducible exact H2_)|(have H2_:=(Option.bind_some _ _).symm.trans H;with_reducible exact H2_)|with_reducible exact H|(rw [hy783];exact H)|exact H
              have Ny783:=Aside0.mk hy783
              clear hy783
              have H':=Aside0.mk H
              clear H
              have p6 : 0 ≤ (x7_1 : Int):=of_decide_eq_true (by first|(with_reducible assumption)|assumption)
              have q6 : x7_1 < (a0.size : Int):=of_decide_eq_true (by first|(with_reducible assumption)|assumption)
              have hx6:=bt_at a0 x7_1
              replace p6:=eq_true p6
              replace q6:=eq_true q6
              have p18 : 0 ≤ ((ji15) : Int):=of_decide_eq_true (by first|(with_reducible assumption)|assumption)
              have q18 : (ji15) < (a0.size : Int):=of_decide_eq_true (by first|(with_reducible assumption)|assumption)
              have hx18:=bt_at a0 (ji15)
              replace p18:=eq_true p18
              replace q18:=eq_true q18
              go_wp2_with (first|((with_reducible refine gate_builtin (b:=.append) (xs:=#[.tmp 54,.tmp 56]) rfl ?_);at_builtin;refine Kd.R_append (Kd.int .u8) (w0:=w) w.heap.size rfl (.tmp 54) (.tmp 56) 31 5 (.int .u8 0) 1 rfl Tryd.underlying31 info5 rfl (by decide) (by omega) u6 x6_1 9 [.int .u8 9] (fun _=>True) (fun _=>False) rfl rfl ?aP (fun _ hk=>hk.elim) ?aF ?aO ?aB ?aS ?aL ?_;(case aP=>exact rfl);(case aB=>exact (by repeat (first|(with_reducible first|exact HB.out|apply below_alloc|apply pw_below_drewN|apply below_drew1|refine below_set ?_ GE779.out)|exact HB.out)));(case aF=>exact (fun _ _=>trivial));(case aO=>exact (by (with_reducible repeat (first|apply Kd.R_alloc|apply Kd.R_drewN|apply Kd.R_drew));exact HO_6.out));(case aS=>exact (below_size (by repeat (first|(with_reducible first|exact HB.out|apply below_alloc|apply pw_below_drewN|apply below_drew1|refine below_set ?_ GE779.out)|exact HB.out))));(case aL=>have:=LMc23.out;omega);intro v784 w24 ho hb hg hat;rw [← Ny783.out] at ho;have n0_:=Aside0.mk (blk_grown (g:=gb779) (o:=.cells #[.int .i64 x780000_1,.string x780001_1,.int .i64 x780002_1,.int .i64 x780003_1] 60 (0,0)) (by (with_reducible repeat (first|refine blk_drewN ?_ _|refine blk_drew ?_|refine blk_alloc ?_ _));exact BK779.out) hg (Kd.R_ne HO_6.out BK779.out (by decide)));have n1_:=Aside0.mk (hb);have n2_:=Aside0.mk (ho);clear BK779;clear HB;clear HO_6;have BK779:=n0_;have HB:=n1_;have HO785:=n2_;clear n0_ n1_ n2_;clear ho hb hg hat))
              go_roundg k1
              case measure=>have:=HK1.out;omega
              case rel=>exact ⟨(y783),(wrap64 ((ji15) + 1)),(x780000_1),(x780001_1),(x780002_1),(x780003_1),(by first|rfl|(simp;done)|(simp only [← hji15] <;> (first|rfl|simp))|(simp [*];done)),H',⟨by have:=HK1.out;omega⟩,⟨by (with_reducible repeat (first|apply Kd.R_alloc|apply Kd.R_drewN|apply Kd.R_drew));exact HO785.out⟩,⟨by (with_reducible repeat (first|refine blk_drewN ?_ _|refine blk_drew ?_|refine blk_alloc ?_ _));exact BK779.out⟩,⟨by repeat (first|(with_reducible first|exact HB.out|apply below_alloc|apply pw_below_drewN|apply below_drew1|refine below_set ?_ GE779.out)|exact HB.out)⟩⟩
             ·rw [if_neg c23] at H
              exact absurd H (by simp)
            ·rw [if_neg c22] at H
             have c22b0 : ((bt a0 (ji15)) == 116) = false:=beq_eq_false_iff_ne.mpr c22
             have c22b1 : ((bt a0 (ji15)) != 116) = true:=bne_iff_ne.mpr c22
             by_cases c25 : (bt a0 (ji15)) = 34
             ·rw [if_pos c25] at H
              have c25b0 : ((bt a0 (ji15)) == 34) = true:=beq_iff_eq.mpr c25
              have c25b1 : ((bt a0 (ji15)) != 34) = false:=bne_eq_false_iff_eq.mpr c25
              clear c25
              by_cases c27 : x6_1.length < 140737488355328
              ·rw [if_pos c27] at H
               have LMc27:=Aside0.mk c27
               clear c27
               obtain ⟨y786,hy786⟩ : ∃ y_ : List Int,y_ = (x6_1 ++ [bt a0 (ji15)]):=⟨_,rfl⟩
               replace H : (spec_l3str.l0 k1 a0 a1 y786 (wrap64 ((ji15) + 1))) = some (r1,r2,r3,r4,r5):=by first|(rw [hy786];with_reducible exact H)|(have H2_:=(Option.bind_some _ _).symm.trans H;rw [hy786];with_reducible exact H2_)|(have H2_:=(Option.bind_some _ _).symm.trans H;with_reducible exact H2_)|with_reducible exact H|(rw [hy786];exact H)|exact H
               have Ny786:=Aside0.mk hy786
               clear hy786
               have H':=Aside0.mk H
               clear H
               have p6 : 0 ≤ (x7_1 : Int):=of_decide_eq_true (by first|(with_reducible assumption)|assumption)
               have q6 : x7_1 < (a0.size : Int):=of_decide_eq_true (by first|(with_reducible assumption)|assumption)
               have hx6:=bt_at a0 x7_1
               replace p6:=eq_true p6
               replace q6:=eq_true q6
               have p18 : 0 ≤ ((ji15) : Int):=of_decide_eq_true (by first|(with_reducible assumption)|assumption)
               have q18 : (ji15) < (a0.size : Int):=of_decide_eq_true (by first|(with_reducible assumption)|assumption)
               have hx18:=bt_at a0 (ji15)
               replace p18:=eq_true p18
               replace q18:=eq_true q18
               have p26 : 0 ≤ ((ji15) : Int):=of_decide_eq_true (by first|(with_reducible assumption)|assumption)
               have q26 : (ji15) < (a0.size : Int):=of_decide_eq_true (by first|(with_reducible assumption)|assumption)
               have hx26:=bt_at a0 (ji15)
               replace p26:=eq_true p26
               replace q26:=eq_true q26
               go_wp2_with (first|((with_reducible refine gate_builtin (b:=.append) (xs:=#[.tmp 54,.tmp 56]) rfl ?_);at_builtin;refine Kd.R_append (Kd.int .u8) (w0:=w) w.heap.size rfl (.tmp 54) (.tmp 56) 31 5 (.int .u8 0) 1 rfl Tryd.underlying31 info5 rfl (by decide) (by omega) u6 x6_1 (bt a0 (ji15)) [.int .u8 (bt a0 (ji15))] (fun _=>True) (fun _=>False) rfl rfl ?aP (fun _ hk=>hk.elim) ?aF ?aO ?aB ?aS ?aL ?_;(case aP=>exact rfl);(case aB=>exact (by repeat (first|(with_reducible first|exact HB.out|apply below_alloc|apply pw_below_drewN|apply below_drew1|refine below_set ?_ GE779.out)|exact HB.out)));(case aF=>exact (fun _ _=>trivial));(case aO=>exact (by (with_reducible repeat (first|apply Kd.R_alloc|apply Kd.R_drewN|apply Kd.R_drew));exact HO_6.out));(case aS=>exact (below_size (by repeat (first|(with_reducible first|exact HB.out|apply below_alloc|apply pw_below_drewN|apply below_drew1|refine below_set ?_ GE779.out)|exact HB.out))));(case aL=>have:=LMc27.out;omega);intro v787 w28 ho hb hg hat;rw [← Ny786.out] at ho;have n0_:=Aside0.mk (blk_grown (g:=gb779) (o:=.cells #[.int .i64 x780000_1,.string x780001_1,.int .i64 x780002_1,.int .i64 x780003_1] 60 (0,0)) (by (with_reducible repeat (first|refine blk_drewN ?_ _|refine blk_drew ?_|refine blk_alloc ?_ _));exact BK779.out) hg (Kd.R_ne HO_6.out BK779.out (by decide)));have n1_:=Aside0.mk (hb);have n2_:=Aside0.mk (ho);clear BK779;clear HB;clear HO_6;have BK779:=n0_;have HB:=n1_;have HO788:=n2_;clear n0_ n1_ n2_;clear ho hb hg hat))
               go_roundg k1
               case measure=>have:=HK1.out;omega
               case rel=>exact ⟨(y786),(wrap64 ((ji15) + 1)),(x780000_1),(x780001_1),(x780002_1),(x780003_1),(by first|rfl|(simp;done)|(simp only [← hji15] <;> (first|rfl|simp))|(simp [*];done)),H',⟨by have:=HK1.out;omega⟩,⟨by (with_reducible repeat (first|apply Kd.R_alloc|apply Kd.R_drewN|apply Kd.R_drew));exact HO788.out⟩,⟨by (with_reducible repeat (first|refine blk_drewN ?_ _|refine blk_drew ?_|refine blk_alloc ?_ _));exact BK779.out⟩,⟨by repeat (first|(with_reducible first|exact HB.out|apply below_alloc|apply pw_below_drewN|apply below_drew1|refine below_set ?_ GE779.out)|exact HB.out)⟩⟩
              ·rw [if_neg c27] at H
               exact absurd H (by simp)
             ·rw [if_neg c25] at H
              have c25b0 : ((bt a0 (ji15)) == 34) = false:=beq_eq_false_iff_ne.mpr c25
              have c25b1 : ((bt a0 (ji15)) != 34) = true:=bne_iff_ne.mpr c25
              by_cases c29 : (bt a0 (ji15)) = 92
              ·rw [if_pos c29] at H
               have c29b0 : ((bt a0 (ji15)) == 92) = true:=beq_iff_eq.mpr c29
               have c29b1 : ((bt a0 (ji15)) != 92) = false:=bne_eq_false_iff_eq.mpr c29
               clear c29
               by_cases c31 : x6_1.length < 140737488355328
               ·rw [if_pos c31] at H
                have LMc31:=Aside0.mk c31
                clear c31
                obtain ⟨y789,hy789⟩ : ∃ y_ : List Int,y_ = (x6_1 ++ [bt a0 (ji15)]):=⟨_,rfl⟩
                replace H : (spec_l3str.l0 k1 a0 a1 y789 (wrap64 ((ji15) + 1))) = some (r1,r2,r3,r4,r5):=by first|(rw [hy789];with_reducible exact H)|(have H2_:=(Option.bind_some _ _).symm.trans H;rw [hy789];with_reducible exact H2_)|(have H2_:=(Option.bind_some _ _).symm.trans H;with_reducible exact H2_)|with_reducible exact H|(rw [hy789];exact H)|exact H
                have Ny789:=Aside0.mk hy789
                clear hy789
                have H':=Aside0.mk H
                clear H
                have p6 : 0 ≤ (x7_1 : Int):=of_decide_eq_true (by first|(with_reducible assumption)|assumption)
                have q6 : x7_1 < (a0.size : Int):=of_decide_eq_true (by first|(with_reducible assumption)|assumption)
                have hx6:=bt_at a0 x7_1
                replace p6:=eq_true p6
                replace q6:=eq_true q6
                have p18 : 0 ≤ ((ji15) : Int):=of_decide_eq_true (by first|(with_reducible assumption)|assumption)
                have q18 : (ji15) < (a0.size : Int):=of_decide_eq_true (by first|(with_reducible assumption)|assumption)
                have hx18:=bt_at a0 (ji15)
                replace p18:=eq_true p18
                replace q18:=eq_true q18
                have p30 : 0 ≤ ((ji15) : Int):=of_decide_eq_true (by first|(with_reducible assumption)|assumption)
                have q30 : (ji15) < (a0.size : Int):=of_decide_eq_true (by first|(with_reducible assumption)|assumption)
                have hx30:=bt_at a0 (ji15)
                replace p30:=eq_true p30
                replace q30:=eq_true q30
                go_wp2_with (first|((with_reducible refine gate_builtin (b:=.append) (xs:=#[.tmp 54,.tmp 56]) rfl ?_);at_builtin;refine Kd.R_append (Kd.int .u8) (w0:=w) w.heap.size rfl (.tmp 54) (.tmp 56) 31 5 (.int .u8 0) 1 rfl Tryd.underlying31 info5 rfl (by decide) (by omega) u6 x6_1 (bt a0 (ji15)) [.int .u8 (bt a0 (ji15))] (fun _=>True) (fun _=>False) rfl rfl ?aP (fun _ hk=>hk.elim) ?aF ?aO ?aB ?aS ?aL ?_;(case aP=>exact rfl);(case aB=>exact (by repeat (first|(with_reducible first|exact HB.out|apply below_alloc|apply pw_below_drewN|apply below_drew1|refine below_set ?_ GE779.out)|exact HB.out)));(case aF=>exact (fun _ _=>trivial));(case aO=>exact (by (with_reducible repeat (first|apply Kd.R_alloc|apply Kd.R_drewN|apply Kd.R_drew));exact HO_6.out));(case aS=>exact (below_size (by repeat (first|(with_reducible first|exact HB.out|apply below_alloc|apply pw_below_drewN|apply below_drew1|refine below_set ?_ GE779.out)|exact HB.out))));(case aL=>have:=LMc31.out;omega);intro v790 w32 ho hb hg hat;rw [← Ny789.out] at ho;have n0_:=Aside0.mk (blk_grown (g:=gb779) (o:=.cells #[.int .i64 x780000_1,.string x780001_1,.int .i64 x780002_1,.int .i64 x780003_1] 60 (0,0)) (by (with_reducible repeat (first|refine blk_drewN ?_ _|refine blk_drew ?_|refine blk_alloc ?_ _));exact BK779.out) hg (Kd.R_ne HO_6.out BK779.out (by decide)));have n1_:=Aside0.mk (hb);have n2_:=Aside0.mk (ho);clear BK779;clear HB;clear HO_6;have BK779:=n0_;have HB:=n1_;have HO791:=n2_;clear n0_ n1_ n2_;clear ho hb hg hat))
                go_roundg k1
                case measure=>have:=HK1.out;omega
                case rel=>exact ⟨(y789),(wrap64 ((ji15) + 1)),(x780000_1),(x780001_1),(x780002_1),(x780003_1),(by first|rfl|(simp;done)|(simp only [← hji15] <;> (first|rfl|simp))|(simp [*];done)),H',⟨by have:=HK1.out;omega⟩,⟨by (with_reducible repeat (first|apply Kd.R_alloc|apply Kd.R_drewN|apply Kd.R_drew));exact HO791.out⟩,⟨by (with_reducible repeat (first|refine blk_drewN ?_ _|refine blk_drew ?_|refine blk_alloc ?_ _));exact BK779.out⟩,⟨by repeat (first|(with_reducible first|exact HB.out|apply below_alloc|apply pw_below_drewN|apply below_drew1|refine below_set ?_ GE779.out)|exact HB.out)⟩⟩
               ·rw [if_neg c31] at H
                exact absurd H (by simp)
              ·rw [if_neg c29] at H
               have c29b0 : ((bt a0 (ji15)) == 92) = false:=beq_eq_false_iff_ne.mpr c29
               have c29b1 : ((bt a0 (ji15)) != 92) = true:=bne_iff_ne.mpr c29
               simp only [Option.some.injEq,Prod.mk.injEq] at H
               obtain ⟨rfl,rfl,rfl,rfl,rfl⟩:=H
               have p6 : 0 ≤ (x7_1 : Int):=of_decide_eq_true (by first|(with_reducible assumption)|assumption)
               have q6 : x7_1 < (a0.size : Int):=of_decide_eq_true (by first|(with_reducible assumption)|assumption)
               have hx6:=bt_at a0 x7_1
               replace p6:=eq_true p6
               replace q6:=eq_true q6
               have p18 : 0 ≤ ((ji15) : Int):=of_decide_eq_true (by first|(with_reducible assumption)|assumption)
               have q18 : (ji15) < (a0.size : Int):=of_decide_eq_true (by first|(with_reducible assumption)|assumption)
               have hx18:=bt_at a0 (ji15)
               replace p18:=eq_true p18
               replace q18:=eq_true q18
               have hcz33_0 : wr.cell? ⟨gb779,0,none⟩ = some (.int .i64 x780000_1):=(blk_cell BK779.out 0).trans rfl
               have hcz33_1 : wr.cell? ⟨gb779,1,none⟩ = some (.string x780001_1):=(blk_cell BK779.out 1).trans rfl
               have hcz33_2 : wr.cell? ⟨gb779,2,none⟩ = some (.int .i64 x780002_1):=(blk_cell BK779.out 2).trans rfl
               have hcz33_3 : wr.cell? ⟨gb779,3,none⟩ = some (.int .i64 x780003_1):=(blk_cell BK779.out 3).trans rfl
               have hfz33_0:=blk_frozen BK779.out 0
               have hfz33_1:=blk_frozen BK779.out 1
               have hfz33_2:=blk_frozen BK779.out 2
               have hfz33_3:=blk_frozen BK779.out 3
               go_wp2
               refine bodyPost_ret (results_ct rfl _ _ gb779 60 #[.int .i64 0,.string (⟨#[]⟩ : ByteArray),.int .i64 0,.int .i64 0] (0,0) _ rfl (by (with_reducible repeat (first|refine blk_drewN ?_ _|refine blk_drew ?_|refine blk_alloc ?_ _));refine blk_put (cs:=#[.int .i64 0,.string (⟨#[]⟩ : ByteArray),.int .i64 0,.int .i64 x780003_1]) ?_ 3 _ rfl;(with_reducible repeat (first|refine blk_drewN ?_ _|refine blk_drew ?_|refine blk_alloc ?_ _));refine blk_put (cs:=#[.int .i64 0,.string (⟨#[]⟩ : ByteArray),.int .i64 x780002_1,.int .i64 x780003_1]) ?_ 2 _ rfl;(with_reducible repeat (first|refine blk_drewN ?_ _|refine blk_drew ?_|refine blk_alloc ?_ _));refine blk_put (cs:=#[.int .i64 0,.string x780001_1,.int .i64 x780002_1,.int .i64 x780003_1]) ?_ 1 _ rfl;(with_reducible repeat (first|refine blk_drewN ?_ _|refine blk_drew ?_|refine blk_alloc ?_ _));refine blk_put (cs:=#[.int .i64 x780000_1,.string x780001_1,.int .i64 x780002_1,.int .i64 x780003_1]) ?_ 0 _ rfl;(with_reducible repeat (first|refine blk_drewN ?_ _|refine blk_drew ?_|refine blk_alloc ?_ _));exact BK779.out) Tryd.underlying60 rfl (by kernel_rfl)) rfl ?_
               exact ⟨by first|rfl|(simp [errW_none,errW_some] <;> rfl)|(simp only [← hji15];first|rfl|(simp [errW_none,errW_some] <;> rfl))|(simp [*,errW_none,errW_some] <;> rfl),by repeat (first|(with_reducible first|exact HB.out|apply below_alloc|apply pw_below_drewN|apply below_drew1|refine below_set ?_ GE779.out)|exact HB.out)⟩
          ·rw [if_neg c17] at H
           exact absurd H (by simp)
         ·rw [if_neg c16] at H
          exact absurd H (by simp)
       ·rw [if_neg c12] at H
        have c12b0 : ((bt a0 x7_1) == 92) = false:=beq_eq_false_iff_ne.mpr c12
        have c12b1 : ((bt a0 x7_1) != 92) = true:=bne_iff_ne.mpr c12
        by_cases c34 : x6_1.length < 140737488355328
        ·rw [if_pos c34] at H
         have LMc34:=Aside0.mk c34
         clear c34
         obtain ⟨y792,hy792⟩ : ∃ y_ : List Int,y_ = (x6_1 ++ [bt a0 x7_1]):=⟨_,rfl⟩
         replace H : (spec_l3str.l0 k1 a0 a1 y792 (wrap64 (x7_1 + 1))) = some (r1,r2,r3,r4,r5):=by first|(rw [hy792];with_reducible exact H)|(have H2_:=(Option.bind_some _ _).symm.trans H;rw [hy792];with_reducible exact H2_)|(have H2_:=(Option.bind_some _ _).symm.trans H;with_reducible exact H2_)|with_reducible exact H|(rw [hy792];exact H)|exact H
         have Ny792:=Aside0.mk hy792
         clear hy792
         have H':=Aside0.mk H
         clear H
         have p6 : 0 ≤ (x7_1 : Int):=of_decide_eq_true (by first|(with_reducible assumption)|assumption)
         have q6 : x7_1 < (a0.size : Int):=of_decide_eq_true (by first|(with_reducible assumption)|assumption)
         have hx6:=bt_at a0 x7_1
         replace p6:=eq_true p6
         replace q6:=eq_true q6
         go_wp2_with (first|((with_reducible refine gate_builtin (b:=.append) (xs:=#[.tmp 54,.tmp 56]) rfl ?_);at_builtin;refine Kd.R_append (Kd.int .u8) (w0:=w) w.heap.size rfl (.tmp 54) (.tmp 56) 31 5 (.int .u8 0) 1 rfl Tryd.underlying31 info5 rfl (by decide) (by omega) u6 x6_1 (bt a0 x7_1) [.int .u8 (bt a0 x7_1)] (fun _=>True) (fun _=>False) rfl rfl ?aP (fun _ hk=>hk.elim) ?aF ?aO ?aB ?aS ?aL ?_;(case aP=>exact rfl);(case aB=>exact (by repeat (first|(with_reducible first|exact HB.out|apply below_alloc|apply pw_below_drewN|apply below_drew1|refine below_set ?_ GE779.out)|exact HB.out)));(case aF=>exact (fun _ _=>trivial));(case aO=>exact (by (with_reducible repeat (first|apply Kd.R_alloc|apply Kd.R_drewN|apply Kd.R_drew));exact HO_6.out));(case aS=>exact (below_size (by repeat (first|(with_reducible first|exact HB.out|apply below_alloc|apply pw_below_drewN|apply below_drew1|refine below_set ?_ GE779.out)|exact HB.out))));(case aL=>have:=LMc34.out;omega);intro v793 w35 ho hb hg hat;rw [← Ny792.out] at ho;have n0_:=Aside0.mk (blk_grown (g:=gb779) (o:=.cells #[.int .i64 x780000_1,.string x780001_1,.int .i64 x780002_1,.int .i64 x780003_1] 60 (0,0)) (by (with_reducible repeat (first|refine blk_drewN ?_ _|refine blk_drew ?_|refine blk_alloc ?_ _));exact BK779.out) hg (Kd.R_ne HO_6.out BK779.out (by decide)));have n1_:=Aside0.mk (hb);have n2_:=Aside0.mk (ho);clear BK779;clear HB;clear HO_6;have BK779:=n0_;have HB:=n1_;have HO794:=n2_;clear n0_ n1_ n2_;clear ho hb hg hat))
         go_roundg k1
         case measure=>have:=HK1.out;omega
         case rel=>exact ⟨(y792),(wrap64 (x7_1 + 1)),(x780000_1),(x780001_1),(x780002_1),(x780003_1),(by first|rfl|(simp;done)|(simp [*];done)),H',⟨by have:=HK1.out;omega⟩,⟨by (with_reducible repeat (first|apply Kd.R_alloc|apply Kd.R_drewN|apply Kd.R_drew));exact HO794.out⟩,⟨by (with_reducible repeat (first|refine blk_drewN ?_ _|refine blk_drew ?_|refine blk_alloc ?_ _));exact BK779.out⟩,⟨by repeat (first|(with_reducible first|exact HB.out|apply below_alloc|apply pw_below_drewN|apply below_drew1|refine below_set ?_ GE779.out)|exact HB.out)⟩⟩
        ·rw [if_neg c34] at H
         exact absurd H (by simp)
    ·rw [if_neg c5] at H
     exact absurd H (by simp)
   ·rw [if_neg c4] at H
    have c4b0 : decide (x7_1 < (a0.size : Int)) = false:=decide_eq_false c4
    clear c4
    simp only [Option.some.injEq,Prod.mk.injEq] at H
    obtain ⟨rfl,rfl,rfl,rfl,rfl⟩:=H
    have hcz36_0 : wr.cell? ⟨gb779,0,none⟩ = some (.int .i64 x780000_1):=(blk_cell BK779.out 0).trans rfl
    have hcz36_1 : wr.cell? ⟨gb779,1,none⟩ = some (.string x780001_1):=(blk_cell BK779.out 1).trans rfl
    have hcz36_2 : wr.cell? ⟨gb779,2,none⟩ = some (.int .i64 x780002_1):=(blk_cell BK779.out 2).trans rfl
    have hcz36_3 : wr.cell? ⟨gb779,3,none⟩ = some (.int .i64 x780003_1):=(blk_cell BK779.out 3).trans rfl
    have hfz36_0:=blk_frozen BK779.out 0
    have hfz36_1:=blk_frozen BK779.out 1
    have hfz36_2:=blk_frozen BK779.out 2
    have hfz36_3:=blk_frozen BK779.out 3
    go_wp2
    refine bodyPost_ret (results_ct rfl _ _ gb779 60 #[.int .i64 0,.string (⟨#[]⟩ : ByteArray),.int .i64 0,.int .i64 0] (0,0) _ rfl (by (with_reducible repeat (first|refine blk_drewN ?_ _|refine blk_drew ?_|refine blk_alloc ?_ _));refine blk_put (cs:=#[.int .i64 0,.string (⟨#[]⟩ : ByteArray),.int .i64 0,.int .i64 x780003_1]) ?_ 3 _ rfl;(with_reducible repeat (first|refine blk_drewN ?_ _|refine blk_drew ?_|refine blk_alloc ?_ _));refine blk_put (cs:=#[.int .i64 0,.string (⟨#[]⟩ : ByteArray),.int .i64 x780002_1,.int .i64 x780003_1]) ?_ 2 _ rfl;(with_reducible repeat (first|refine blk_drewN ?_ _|refine blk_drew ?_|refine blk_alloc ?_ _));refine blk_put (cs:=#[.int .i64 0,.string x780001_1,.int .i64 x780002_1,.int .i64 x780003_1]) ?_ 1 _ rfl;(with_reducible repeat (first|refine blk_drewN ?_ _|refine blk_drew ?_|refine blk_alloc ?_ _));refine blk_put (cs:=#[.int .i64 x780000_1,.string x780001_1,.int .i64 x780002_1,.int .i64 x780003_1]) ?_ 0 _ rfl;(with_reducible repeat (first|refine blk_drewN ?_ _|refine blk_drew ?_|refine blk_alloc ?_ _));exact BK779.out) Tryd.underlying60 rfl (by kernel_rfl)) rfl ?_
    exact ⟨by first|rfl|(simp [errW_none,errW_some] <;> rfl)|(simp [*,errW_none,errW_some] <;> rfl),by repeat (first|(with_reducible first|exact HB.out|apply below_alloc|apply pw_below_drewN|apply below_drew1|refine below_set ?_ GE779.out)|exact HB.out)⟩
def spec_l3letter.f (a0 : Int) : Option (Bool):=if a0 ≥ 65 then (if a0 ≤ 90 then (some true) else (if a0 ≥ 97 then (if a0 ≤ 122 then (some true) else (some (a0 == 95))) else (some (a0 == 95)))) else (if a0 ≥ 97 then (if a0 ≤ 122 then (some true) else (some (a0 == 95))) else (some (a0 == 95)))
set_option maxHeartbeats 8000000 in
set_option maxRecDepth 100000 in
theorem spec_l3letter.calls (a0 : Int) (r : Bool) (w : World) (h : spec_l3letter.f a0 = some r) :
  Calls Tryd.prog 82 #[.int .u8 a0] w fun e w'=>e = .returned (.bool r) ∧ Drawn0 w w':=by
 have H : (if a0 ≥ 65 then (if a0 ≤ 90 then (some true) else (if a0 ≥ 97 then (if a0 ≤ 122 then (some true) else (some (a0 == 95))) else (some (a0 == 95)))) else (if a0 ≥ 97 then (if a0 ≤ 122 then (some true) else (some (a0 == 95))) else (some (a0 == 95)))) = some r:=h
 clear h
 by_cases c2 : a0 ≥ 65
 ·rw [if_pos c2] at H
  have c2b0 : decide (65 ≤ a0) = true:=decide_eq_true c2
  clear c2
  by_cases c3 : a0 ≤ 90
  ·rw [if_pos c3] at H
   have c3b0 : decide (a0 ≤ 90) = true:=decide_eq_true c3
   clear c3
   obtain rfl:=Option.some.inj H
   go_enter Tryd.func82,Tryd.ntmps82
   go_wp2
   go_ret
   exact ⟨by first|rfl|(simp;done)|(simp [*];done),by repeat (first|exact Drawn0.refl _|apply Drawn0.step)⟩
  ·rw [if_neg c3] at H
   have c3b0 : decide (a0 ≤ 90) = false:=decide_eq_false c3
   clear c3
   by_cases c4 : a0 ≥ 97
   ·rw [if_pos c4] at H
    have c4b0 : decide (97 ≤ a0) = true:=decide_eq_true c4
    clear c4
    by_cases c5 : a0 ≤ 122
    ·rw [if_pos c5] at H
     have c5b0 : decide (a0 ≤ 122) = true:=decide_eq_true c5
     clear c5
     obtain rfl:=Option.some.inj H
     go_enter Tryd.func82,Tryd.ntmps82
     go_wp2
     go_ret
     exact ⟨by first|rfl|(simp;done)|(simp [*];done),by repeat (first|exact Drawn0.refl _|apply Drawn0.step)⟩
    ·rw [if_neg c5] at H
     have c5b0 : decide (a0 ≤ 122) = false:=decide_eq_false c5
     clear c5
     obtain rfl:=Option.some.inj H
     go_enter Tryd.func82,Tryd.ntmps82
     go_wp2
     go_ret
     exact ⟨by first|rfl|(simp;done)|(simp [*];done),by repeat (first|exact Drawn0.refl _|apply Drawn0.step)⟩
   ·rw [if_neg c4] at H
    have c4b0 : decide (97 ≤ a0) = false:=decide_eq_false c4
    clear c4
    obtain rfl:=Option.some.inj H
    go_enter Tryd.func82,Tryd.ntmps82
    go_wp2
    go_ret
    exact ⟨by first|rfl|(simp;done)|(simp [*];done),by repeat (first|exact Drawn0.refl _|apply Drawn0.step)⟩
 ·rw [if_neg c2] at H
  have c2b0 : decide (65 ≤ a0) = false:=decide_eq_false c2
  clear c2
  by_cases c6 : a0 ≥ 97
  ·rw [if_pos c6] at H
   have c6b0 : decide (97 ≤ a0) = true:=decide_eq_true c6
   clear c6
   by_cases c7 : a0 ≤ 122
   ·rw [if_pos c7] at H
    have c7b0 : decide (a0 ≤ 122) = true:=decide_eq_true c7
    clear c7
    obtain rfl:=Option.some.inj H
    go_enter Tryd.func82,Tryd.ntmps82
    go_wp2
    go_ret
    exact ⟨by first|rfl|(simp;done)|(simp [*];done),by repeat (first|exact Drawn0.refl _|apply Drawn0.step)⟩
   ·rw [if_neg c7] at H
    have c7b0 : decide (a0 ≤ 122) = false:=decide_eq_false c7
    clear c7
    obtain rfl:=Option.some.inj H
    go_enter Tryd.func82,Tryd.ntmps82
    go_wp2
    go_ret
    exact ⟨by first|rfl|(simp;done)|(simp [*];done),by repeat (first|exact Drawn0.refl _|apply Drawn0.step)⟩
  ·rw [if_neg c6] at H
   have c6b0 : decide (97 ≤ a0) = false:=decide_eq_false c6
   clear c6
   obtain rfl:=Option.some.inj H
   go_enter Tryd.func82,Tryd.ntmps82
   go_wp2
   go_ret
   exact ⟨by first|rfl|(simp;done)|(simp [*];done),by repeat (first|exact Drawn0.refl _|apply Drawn0.step)⟩
def spec_l3inner.f (a0 : Int) : Option (Bool):=(spec_l3letter.f a0).bind fun t795=>(if t795 = true then (some true) else ((spec_l1digit.f a0).bind fun t796=>(some t796)))
set_option maxHeartbeats 8000000 in
set_option maxRecDepth 100000 in
theorem spec_l3inner.calls (a0 : Int) (r : Bool) (w : World) (h : spec_l3inner.f a0 = some r) :
  Calls Tryd.prog 118 #[.int .u8 a0] w fun e w'=>e = .returned (.bool r) ∧ Drawn0 w w':=by
 have H : ((spec_l3letter.f a0).bind fun t795=>(if t795 = true then (some true) else ((spec_l1digit.f a0).bind fun t796=>(some t796)))) = some r:=h
 clear h
 replace H:=Option.bind_eq_some_iff.mp H
 obtain ⟨t795,A20,H⟩:=H
 replace H : (if t795 = true then (some true) else ((spec_l1digit.f a0).bind fun t796=>(some t796))) = some r:=H
 have A2:=Aside0.mk A20
 clear A20
 by_cases c3 : t795 = true
 ·subst c3
  have H1 : (some true) = some r:=by rw [if_pos rfl] at H;exact H
  clear H
  have H:=H1
  clear H1
  obtain rfl:=Option.some.inj H
  go_enter Tryd.func118,Tryd.ntmps118
  go_wp2_with (first|((with_reducible refine gate_callee (f:=82) rfl ?_);refine goesL_ (some 4) rfl rfl Tryd.func82 (by kernel_rfl) rfl #[.int .u8 a0] rfl (by (try simp only [List.map_toArray,List.map_cons,List.map_nil]);first|done|rfl|(simp only [List.length_drop,List.length_take];rfl)) ?_;(with_reducible refine (spec_l3letter.calls a0 true _ A2.out).mono ?_);rintro e w' ⟨rfl,⟨nd,rfl⟩⟩;refine ⟨_,rfl,?_⟩))
  go_ret
  exact ⟨by first|rfl|(simp;done)|(simp [*];done),by repeat (first|exact Drawn0.refl _|apply Drawn0.step)⟩
 ·replace c3:=Bool.eq_false_iff.mpr c3
  subst c3
  have H1 : ((spec_l1digit.f a0).bind fun t796=>(some t796)) = some r:=by rw [if_neg (show ¬ (false = true) by decide)] at H;exact H
  clear H
  have H:=H1
  clear H1
  replace H:=Option.bind_eq_some_iff.mp H
  obtain ⟨t796,A40,H⟩:=H
  replace H : (some t796) = some r:=H
  have A4:=Aside0.mk A40
  clear A40
  obtain rfl:=Option.some.inj H
  go_enter Tryd.func118,Tryd.ntmps118
  go_wp2_with (first|((with_reducible refine gate_callee (f:=82) rfl ?_);refine goesL_ (some 4) rfl rfl Tryd.func82 (by kernel_rfl) rfl #[.int .u8 a0] rfl (by (try simp only [List.map_toArray,List.map_cons,List.map_nil]);first|done|rfl|(simp only [List.length_drop,List.length_take];rfl)) ?_;(with_reducible refine (spec_l3letter.calls a0 false _ A2.out).mono ?_);rintro e w' ⟨rfl,⟨nd,rfl⟩⟩;refine ⟨_,rfl,?_⟩)|(go_at_call 54;(with_reducible refine (spec_l1digit.calls a0 t796 _ A4.out).mono ?_);rintro e w' ⟨rfl,⟨nd,rfl⟩⟩))
  go_ret
  exact ⟨by first|rfl|(simp;done)|(simp [*];done),by repeat (first|exact Drawn0.refl _|apply Drawn0.step)⟩
def spec_IsWord.l0 : Nat → ByteArray → List ByteArray → Int → Option (Bool)
 | 0,_,_,_=>none
 | k + 1,x0,x3,x4=>if x4 < (x3.length : Int) then (if 0 ≤ x4 then (if (rdOf ByteArray.empty x3 x4).toList = x0.toList then (some true) else (spec_IsWord.l0 k x0 x3 (wrap64 (x4 + 1)))) else (none)) else (some false)
def spec_IsWord.f (k : Nat) (a0 : ByteArray) : Option (Bool):=(spec_l3words.f).bind fun t797=>(spec_IsWord.l0 k a0 t797 0)
set_option maxHeartbeats 8000000 in
set_option maxRecDepth 100000 in
theorem spec_IsWord.calls (k : Nat) (a0 : ByteArray) (r : Bool) (w : World) (h : spec_IsWord.f k a0 = some r) :
  Calls Tryd.prog 119 #[.string a0] w fun e w'=>e = .returned (.bool r) ∧ Below w.heap.size w w':=by
 have HB:=Aside0.mk (Below.refl w.heap.size w)
 have H : ((spec_l3words.f).bind fun t797=>(spec_IsWord.l0 k a0 t797 0)) = some r:=h
 clear h
 replace H:=Option.bind_eq_some_iff.mp H
 obtain ⟨t797,A20,H⟩:=H
 replace H : (spec_IsWord.l0 k a0 t797 0) = some r:=H
 have A2:=Aside0.mk A20
 clear A20
 have H':=Aside0.mk H
 clear H
 go_enter Tryd.func119,Tryd.ntmps119
 go_wp2_with (first|((with_reducible refine gate_callee (f:=111) rfl ?_);refine goesL_ (some 5) rfl rfl Tryd.func111 (by kernel_rfl) rfl #[] rfl (by (try simp only [List.map_toArray,List.map_cons,List.map_nil]);first|done|rfl|(simp only [List.length_drop,List.length_take];rfl)) ?_;(with_reducible refine (spec_l3words.calls  t797 _ A2.out).mono ?_);rintro e w3 ⟨v798,rfl,ho0,hb⟩;refine ⟨_,rfl,?_⟩;have n0_:=Aside0.mk (Kd.R_lower ho0 (below_size (by repeat (first|(with_reducible first|exact HB.out|apply below_alloc|apply pw_below_drewN|apply below_drew1)|exact HB.out))));have n1_:=Aside0.mk (below_step (by repeat (first|(with_reducible first|exact HB.out|apply below_alloc|apply pw_below_drewN|apply below_drew1)|exact HB.out)) hb);clear HB;have HO799:=n0_;have HB:=n1_;clear n0_ n1_;(try clear hb);(try clear hb2);(try clear hk);(try clear hi);(try clear ho0)))
 go_loopg [4] k (fun kq v4 w'=>∃ (x4_1 : Int),v4 = .int .i64 x4_1 ∧ Aside0 (spec_IsWord.l0 kq a0 t797 x4_1 = some r) ∧ Aside0 (kq ≤ k) ∧ Aside0 (Kd.R Kd.string 9 w' w.heap.size (fun _=>True) v798 t797) ∧ Aside0 (Below w.heap.size w w'))
 case atStart=>exact ⟨(0),(by first|rfl|(simp;done)|(simp [*];done)),H',⟨Nat.le_refl _⟩,⟨by (with_reducible repeat (first|apply Kd.R_alloc|apply Kd.R_drewN|apply Kd.R_drew));exact HO799.out⟩,⟨by repeat (first|(with_reducible first|exact HB.out|apply below_alloc|apply pw_below_drewN|apply below_drew1)|exact HB.out)⟩⟩
 case round =>
  clear H'
  try clear c1
  try clear p2
  obtain ⟨x4_1,rfl,HA,HK1,HO_3,HB⟩:=hrel
  cases gk with
  | zero=>exact absurd HA.out (by simp [spec_IsWord.l0])
  | succ k1 =>
   have H:=HA.out
   clear HA
   simp only [spec_IsWord.l0] at H
   by_cases c4 : x4_1 < (t797.length : Int)
   ·rw [if_pos c4] at H
    have c4b0 : decide (x4_1 < (t797.length : Int)) = true:=decide_eq_true c4
    clear c4
    by_cases c5 : 0 ≤ x4_1
    ·rw [if_pos c5] at H
     have c5b0 : decide (0 ≤ x4_1) = true:=decide_eq_true c5
     clear c5
     by_cases c6 : (rdOf ByteArray.empty t797 x4_1).toList = a0.toList
     ·rw [if_pos c6] at H
      have c6b0 : ((rdOf ByteArray.empty t797 x4_1).toList == a0.toList) = true:=beq_iff_eq.mpr c6
      have c6b1 : ((rdOf ByteArray.empty t797 x4_1).toList != a0.toList) = false:=bne_eq_false_iff_eq.mpr c6
      clear c6
      obtain rfl:=Option.some.inj H
      obtain ⟨Ao7,co7,eo7⟩:=Kd.R_slice HO_3.out
      subst eo7
      have p800 : 0 ≤ (x4_1 : Int):=of_decide_eq_true (by first|(with_reducible assumption)|assumption)
      have q800 : x4_1 < (t797.length : Int):=of_decide_eq_true (by first|(with_reducible assumption)|assumption)
      obtain ⟨ad800,e800,hx800_0⟩:=Kd.at_string (Kd.R_reads' HO_3.out).2.2 x4_1 p800 q800
      cases e800
      replace p800:=eq_true p800
      replace q800:=eq_true q800
      go_wp2
      go_ret
      exact ⟨by first|rfl|(simp [errW_none,errW_some] <;> rfl)|(simp [*,errW_none,errW_some] <;> rfl),by repeat (first|(with_reducible first|exact HB.out|apply below_alloc|apply pw_below_drewN|apply below_drew1)|exact HB.out)⟩
     ·rw [if_neg c6] at H
      have c6b0 : ((rdOf ByteArray.empty t797 x4_1).toList == a0.toList) = false:=beq_eq_false_iff_ne.mpr c6
      have c6b1 : ((rdOf ByteArray.empty t797 x4_1).toList != a0.toList) = true:=bne_iff_ne.mpr c6
      have H':=Aside0.mk H
      clear H
      obtain ⟨Ao8,co8,eo8⟩:=Kd.R_slice HO_3.out
      subst eo8
      have p800 : 0 ≤ (x4_1 : Int):=of_decide_eq_true (by first|(with_reducible assumption)|assumption)
      have q800 : x4_1 < (t797.length : Int):=of_decide_eq_true (by first|(with_reducible assumption)|assumption)
      obtain ⟨ad800,e800,hx800_0⟩:=Kd.at_string (Kd.R_reads' HO_3.out).2.2 x4_1 p800 q800
      cases e800
      replace p800:=eq_true p800
      replace q800:=eq_true q800
      go_wp2
      go_roundg k1
      case measure=>have:=HK1.out;omega
      case rel=>exact ⟨(wrap64 (x4_1 + 1)),(by first|rfl|(simp;done)|(simp [*];done)),H',⟨by have:=HK1.out;omega⟩,⟨by (with_reducible repeat (first|apply Kd.R_alloc|apply Kd.R_drewN|apply Kd.R_drew));exact HO_3.out⟩,⟨by repeat (first|(with_reducible first|exact HB.out|apply below_alloc|apply pw_below_drewN|apply below_drew1)|exact HB.out)⟩⟩
    ·rw [if_neg c5] at H
     exact absurd H (by simp)
   ·rw [if_neg c4] at H
    have c4b0 : decide (x4_1 < (t797.length : Int)) = false:=decide_eq_false c4
    clear c4
    obtain rfl:=Option.some.inj H
    obtain ⟨Ao9,co9,eo9⟩:=Kd.R_slice HO_3.out
    subst eo9
    go_wp2
    go_ret
    exact ⟨by first|rfl|(simp [errW_none,errW_some] <;> rfl)|(simp [*,errW_none,errW_some] <;> rfl),by repeat (first|(with_reducible first|exact HB.out|apply below_alloc|apply pw_below_drewN|apply below_drew1)|exact HB.out)⟩
mutual
def spec_l3name.j1 : Nat → ByteArray → Int → Int → Option (Int × ByteArray × Int × Int × Int)
 | 0,_,_,_=>none
 | k + 1,x0,x1,x6=>if 0 ≤ x1 then (if x1 ≤ x6 then (if x6 ≤ (x0.size : Int) then (if (wrap64 (x6 - x1)) > 40 then (some (0,(⟨#[]⟩ : ByteArray),0,0,(-1))) else ((spec_IsWord.f k (x0.extract (x1 : Int).toNat (x6 : Int).toNat)).bind fun t804=>(if t804 = true then (some (6,x0.extract (x1 : Int).toNat (x6 : Int).toNat,0,x1,x6)) else (if x6 < (x0.size : Int) then (if 0 ≤ x6 then (if (bt x0 x6) = 40 then (some (5,x0.extract (x1 : Int).toNat (x6 : Int).toNat,0,x1,x6)) else (some (4,x0.extract (x1 : Int).toNat (x6 : Int).toNat,0,x1,x6))) else (none)) else (some (4,x0.extract (x1 : Int).toNat (x6 : Int).toNat,0,x1,x6)))))) else (none)) else (none)) else (none)
def spec_l3name.l0 : Nat → ByteArray → Int → Int → Option (Int × ByteArray × Int × Int × Int)
 | 0,_,_,_=>none
 | k + 1,x0,x1,x6=>if x6 < (x0.size : Int) then (if 0 ≤ x6 then ((spec_l3inner.f (bt x0 x6)).bind fun t802=>(if t802 = true then (spec_l3name.l0 k x0 x1 (wrap64 (x6 + 1))) else (spec_l3name.j1 k x0 x1 x6))) else (none)) else (spec_l3name.j1 k x0 x1 x6)
end
def spec_l3name.f (k : Nat) (a0 : ByteArray) (a1 : Int) : Option (Int × ByteArray × Int × Int × Int):=spec_l3name.l0 k a0 a1 a1
set_option maxHeartbeats 8000000 in
set_option maxRecDepth 100000 in
theorem spec_l3name.calls (k : Nat) (a0 : ByteArray) (a1 : Int) (r1 : Int) (r2 : ByteArray) (r3 : Int) (r4 : Int) (r5 : Int) (w : World) (h : spec_l3name.f k a0 a1 = some (r1,r2,r3,r4,r5)) :
  Calls Tryd.prog 83 #[.string a0,.int .i64 a1] w fun e w'=>e = .returned (.tuple #[.agg #[.int .i64 r1,.string r2,.int .i64 r3,.int .i64 r4],.int .i64 r5]) ∧ Below w.heap.size w w':=by
 have hu60:=Tryd.underlying60
 have HB:=Aside0.mk (Below.refl w.heap.size w)
 have H : (spec_l3name.l0 k a0 a1 a1) = some (r1,r2,r3,r4,r5):=h
 clear h
 have HC3:=Aside0.mk H
 clear H
 go_enter Tryd.func83,Tryd.ntmps83
 go_upto_block 0 with (first|((with_reducible refine gate_dst (N:=4) rfl ?_);refine box_event ?hg (N:=4) ?hd (cs:=#[.int .i64 0,.string (⟨#[]⟩ : ByteArray),.int .i64 0,.int .i64 0]) (t:=60) ?hr ?_;(case hd=>rfl);(case hg=>rfl);(case hr=>first|(go_simp;done)|(go_simp;rfl));intro gb801 hg w4 hbox hb;have n0_:=Aside0.mk (below_step (by repeat (first|(with_reducible first|exact HB.out|apply below_alloc|apply pw_below_drewN|apply below_drew1)|exact HB.out)) hb);have n1_:=Aside0.mk (hbox);have n2_:=Aside0.mk ((by rw [hg];exact (below_size (by repeat (first|(with_reducible first|exact HB.out|apply below_alloc|apply pw_below_drewN|apply below_drew1)|exact HB.out))) : w.heap.size ≤ gb801));have n3_:=Aside0.mk ((by rw [hg];exact (below_size (by repeat (first|(with_reducible first|exact HB.out|apply below_alloc|apply pw_below_drewN|apply below_drew1)|exact HB.out))) : w.heap.size ≤ gb801));clear HB;have HB:=n0_;have BK801:=n1_;have GW801:=n2_;have GE801:=n3_;clear n0_ n1_ n2_ n3_;clear hb hbox hg))
 (try simp only [Act.put,List.setIfInBounds_toArray,List.set_cons_zero,List.set_cons_succ])
 go_cut [6] (fun v6 wc=>∃ (kq : Nat) (x6_2 : Int),v6 = .int .i64 x6_2 ∧ Aside0 (spec_l3name.j1 kq a0 a1 x6_2 = some (r1,r2,r3,r4,r5)) ∧ Aside0 (kq ≤ k) ∧ Aside0 (wc.heap[gb801]? = some (.cells #[.int .i64 0,.string (⟨#[]⟩ : ByteArray),.int .i64 0,.int .i64 0] 60 (0,0))) ∧ Aside0 (Below w.heap.size w wc))
 case first =>
  have H:=HC3.out
  clear HC3
  have H':=Aside0.mk H
  clear H
  go_wp2
  go_loopg [6] k (fun kq v6 w'=>∃ (x6_1 : Int),v6 = .int .i64 x6_1 ∧ Aside0 (spec_l3name.l0 kq a0 a1 x6_1 = some (r1,r2,r3,r4,r5)) ∧ Aside0 (kq ≤ k) ∧ Aside0 (w'.heap[gb801]? = some (.cells #[.int .i64 0,.string (⟨#[]⟩ : ByteArray),.int .i64 0,.int .i64 0] 60 (0,0))) ∧ Aside0 (Below w.heap.size w w'))
  case atStart=>exact ⟨(a1),(by first|rfl|(simp;done)|(simp [*];done)),H',⟨Nat.le_refl _⟩,⟨by (with_reducible repeat (first|refine blk_drewN ?_ _|refine blk_drew ?_|refine blk_alloc ?_ _));exact BK801.out⟩,⟨by repeat (first|(with_reducible first|exact HB.out|apply below_alloc|apply pw_below_drewN|apply below_drew1|refine below_set ?_ GE801.out)|exact HB.out)⟩⟩
  case round =>
   clear H'
   try clear p2
   obtain ⟨x6_1,rfl,HA,HK1,BK801,HB⟩:=hrel
   cases gk with
   | zero=>exact absurd HA.out (by simp [spec_l3name.l0])
   | succ k1 =>
    have H:=HA.out
    clear HA
    simp only [spec_l3name.l0] at H
    by_cases c5 : x6_1 < (a0.size : Int)
    ·rw [if_pos c5] at H
     have c5b0 : decide (x6_1 < (a0.size : Int)) = true:=decide_eq_true c5
     clear c5
     (first|rw [c5b0]|(simp only [i64_w,i32_w];rw [c5b0])|skip)
     by_cases c6 : 0 ≤ x6_1
     ·rw [if_pos c6] at H
      have c6b0 : decide (0 ≤ x6_1) = true:=decide_eq_true c6
      clear c6
      replace H:=Option.bind_eq_some_iff.mp H
      obtain ⟨t802,A80,H⟩:=H
      replace H : (if t802 = true then (spec_l3name.l0 k1 a0 a1 (wrap64 (x6_1 + 1))) else (spec_l3name.j1 k1 a0 a1 x6_1)) = some (r1,r2,r3,r4,r5):=H
      have A8:=Aside0.mk A80
      clear A80
      by_cases c9 : t802 = true
      ·subst c9
       have H1 : (spec_l3name.l0 k1 a0 a1 (wrap64 (x6_1 + 1))) = some (r1,r2,r3,r4,r5):=by rw [if_pos rfl] at H;exact H
       clear H
       have H:=H1
       clear H1
       have H':=Aside0.mk H
       clear H
       have p7 : 0 ≤ (x6_1 : Int):=of_decide_eq_true (by first|(with_reducible assumption)|assumption)
       have q7 : x6_1 < (a0.size : Int):=of_decide_eq_true (by first|(with_reducible assumption)|assumption)
       have hx7:=bt_at a0 x6_1
       replace p7:=eq_true p7
       replace q7:=eq_true q7
       go_wp2_with (first|(go_at_call 118;(with_reducible refine (spec_l3inner.calls (bt a0 x6_1) true _ A8.out).mono ?_);rintro e w' ⟨rfl,⟨nd,rfl⟩⟩))
       go_roundg k1
       case measure=>have:=HK1.out;omega
       case rel=>exact ⟨(wrap64 (x6_1 + 1)),(by first|rfl|(simp;done)|(simp [*];done)),H',⟨by have:=HK1.out;omega⟩,⟨by (with_reducible repeat (first|refine blk_drewN ?_ _|refine blk_drew ?_|refine blk_alloc ?_ _));exact BK801.out⟩,⟨by repeat (first|(with_reducible first|exact HB.out|apply below_alloc|apply pw_below_drewN|apply below_drew1|refine below_set ?_ GE801.out)|exact HB.out)⟩⟩
      ·replace c9:=Bool.eq_false_iff.mpr c9
       subst c9
       have H1 : (spec_l3name.j1 k1 a0 a1 x6_1) = some (r1,r2,r3,r4,r5):=by rw [if_neg (show ¬ (false = true) by decide)] at H;exact H
       clear H
       have H:=H1
       clear H1
       have H':=Aside0.mk H
       clear H
       have p7 : 0 ≤ (x6_1 : Int):=of_decide_eq_true (by first|(with_reducible assumption)|assumption)
       have q7 : x6_1 < (a0.size : Int):=of_decide_eq_true (by first|(with_reducible assumption)|assumption)
       have hx7:=bt_at a0 x6_1
       replace p7:=eq_true p7
       replace q7:=eq_true q7
       go_wp2_with (first|(go_at_call 118;(with_reducible refine (spec_l3inner.calls (bt a0 x6_1) false _ A8.out).mono ?_);rintro e w' ⟨rfl,⟨nd,rfl⟩⟩))
       go_meet
       case rel=>exact ⟨_,(x6_1),(by first|rfl|(simp;done)|(simp [*];done)),H',⟨by have:=HK1.out;first|omega|exact Nat.le_refl _⟩,⟨by (with_reducible repeat (first|refine blk_drewN ?_ _|refine blk_drew ?_|refine blk_alloc ?_ _));exact BK801.out⟩,⟨by repeat (first|(with_reducible first|exact HB.out|apply below_alloc|apply pw_below_drewN|apply below_drew1|refine below_set ?_ GE801.out)|exact HB.out)⟩⟩
     ·rw [if_neg c6] at H
      exact absurd H (by simp)
    ·rw [if_neg c5] at H
     have c5b0 : decide (x6_1 < (a0.size : Int)) = false:=decide_eq_false c5
     clear c5
     (first|rw [c5b0]|(simp only [i64_w,i32_w];rw [c5b0])|skip)
     have H':=Aside0.mk H
     clear H
     go_wp2
     go_meet
     case rel=>exact ⟨_,(x6_1),(by first|rfl|(simp;done)|(simp [*];done)),H',⟨by have:=HK1.out;first|omega|exact Nat.le_refl _⟩,⟨by (with_reducible repeat (first|refine blk_drewN ?_ _|refine blk_drew ?_|refine blk_alloc ?_ _));exact BK801.out⟩,⟨by repeat (first|(with_reducible first|exact HB.out|apply below_alloc|apply pw_below_drewN|apply below_drew1|refine below_set ?_ GE801.out)|exact HB.out)⟩⟩
 case rest =>
  clear HC3
  try clear p2
  try clear c5
  try clear c5b0
  try clear c6
  try clear c6b0
  try clear p6
  try clear p7
  try clear q7
  try clear hx7
  try clear c8
  try clear c9
  try clear p2
  try clear p7
  try clear q7
  obtain ⟨kq,x6_2,rfl,HA,HJ2,BK801,HB⟩:=hcut
  cases kq with
  | zero=>exact absurd HA.out (by simp [spec_l3name.j1])
  | succ kj2 =>
   have H:=HA.out
   clear HA
   simp only [spec_l3name.j1] at H
   by_cases c10 : 0 ≤ a1
   ·rw [if_pos c10] at H
    have c10b0:=eq_true c10
    have c10b1 : decide (0 ≤ a1) = true:=decide_eq_true c10
    clear c10
    by_cases c11 : a1 ≤ x6_2
    ·rw [if_pos c11] at H
     have c11b0:=eq_true c11
     have c11b1 : decide (a1 ≤ x6_2) = true:=decide_eq_true c11
     clear c11
     by_cases c12 : x6_2 ≤ (a0.size : Int)
     ·rw [if_pos c12] at H
      have c12b0:=eq_true c12
      have c12b1 : decide (x6_2 ≤ (a0.size : Int)) = true:=decide_eq_true c12
      clear c12
      by_cases c13 : (wrap64 (x6_2 - a1)) > 40
      ·rw [if_pos c13] at H
       have c13b0 : decide (40 < (wrap64 (x6_2 - a1))) = true:=decide_eq_true c13
       clear c13
       simp only [Option.some.injEq,Prod.mk.injEq] at H
       obtain ⟨rfl,rfl,rfl,rfl,rfl⟩:=H
       go_wp2_with (first|((with_reducible refine gate_dst (N:=7) rfl ?_);refine box_event ?hg (N:=7) ?hd (cs:=#[.int .i64 0,.string (⟨#[]⟩ : ByteArray),.int .i64 0,.int .i64 0]) (t:=60) ?hr ?_;(case hd=>rfl);(case hg=>rfl);(case hr=>first|(go_simp;done)|(go_simp;rfl));intro gb803 hg w14 hbox hb;have n0_:=Aside0.mk (blk_below (g:=gb801) (o:=.cells #[.int .i64 0,.string (⟨#[]⟩ : ByteArray),.int .i64 0,.int .i64 0] 60 (0,0)) (by (with_reducible repeat (first|refine blk_drewN ?_ _|refine blk_drew ?_|refine blk_alloc ?_ _));exact BK801.out) hb);have n1_:=Aside0.mk (below_step (by repeat (first|(with_reducible first|exact HB.out|apply below_alloc|apply pw_below_drewN|apply below_drew1|refine below_set ?_ GE801.out)|exact HB.out)) hb);have n2_:=Aside0.mk (hbox);have n3_:=Aside0.mk ((by rw [hg];exact (below_size (by repeat (first|(with_reducible first|exact HB.out|apply below_alloc|apply pw_below_drewN|apply below_drew1|refine below_set ?_ GE801.out)|exact HB.out))) : w.heap.size ≤ gb803));have n4_:=Aside0.mk ((by rw [hg];exact (below_size (by repeat (first|(with_reducible first|exact HB.out|apply below_alloc|apply pw_below_drewN|apply below_drew1|refine below_set ?_ GE801.out)|exact HB.out))) : w.heap.size ≤ gb803));have n5_:=Aside0.mk ((by rw [hg];exact Nat.ne_of_lt (blk_lt (g:=gb801) (o:=.cells #[.int .i64 0,.string (⟨#[]⟩ : ByteArray),.int .i64 0,.int .i64 0] 60 (0,0)) (by (with_reducible repeat (first|refine blk_drewN ?_ _|refine blk_drew ?_|refine blk_alloc ?_ _));exact BK801.out)) : gb801 ≠ gb803));have n6_:=Aside0.mk ((by rw [hg];exact Nat.ne_of_gt (blk_lt (g:=gb801) (o:=.cells #[.int .i64 0,.string (⟨#[]⟩ : ByteArray),.int .i64 0,.int .i64 0] 60 (0,0)) (by (with_reducible repeat (first|refine blk_drewN ?_ _|refine blk_drew ?_|refine blk_alloc ?_ _));exact BK801.out)) : gb803 ≠ gb801));clear BK801;clear HB;have BK801:=n0_;have HB:=n1_;have BK803:=n2_;have GW803:=n3_;have GE803:=n4_;have NB801_803:=n5_;have NB803_801:=n6_;clear n0_ n1_ n2_ n3_ n4_ n5_ n6_;clear hb hbox hg;have hnb15:=NB803_801.out;have hnc15:=NB801_803.out;have hcz16_0 : w14.cell? ⟨gb803,0,none⟩ = some (.int .i64 0):=(blk_cell BK803.out 0).trans rfl;have hcz16_1 : w14.cell? ⟨gb803,1,none⟩ = some (.string (⟨#[]⟩ : ByteArray)):=(blk_cell BK803.out 1).trans rfl;have hcz16_2 : w14.cell? ⟨gb803,2,none⟩ = some (.int .i64 0):=(blk_cell BK803.out 2).trans rfl;have hcz16_3 : w14.cell? ⟨gb803,3,none⟩ = some (.int .i64 0):=(blk_cell BK803.out 3).trans rfl;have hfz16_0:=blk_frozen BK803.out 0;have hfz16_1:=blk_frozen BK803.out 1;have hfz16_2:=blk_frozen BK803.out 2;have hfz16_3:=blk_frozen BK803.out 3;have hcz17_0 : w14.cell? ⟨gb801,0,none⟩ = some (.int .i64 0):=(blk_cell BK801.out 0).trans rfl;have hcz17_1 : w14.cell? ⟨gb801,1,none⟩ = some (.string (⟨#[]⟩ : ByteArray)):=(blk_cell BK801.out 1).trans rfl;have hcz17_2 : w14.cell? ⟨gb801,2,none⟩ = some (.int .i64 0):=(blk_cell BK801.out 2).trans rfl;have hcz17_3 : w14.cell? ⟨gb801,3,none⟩ = some (.int .i64 0):=(blk_cell BK801.out 3).trans rfl;have hfz17_0:=blk_frozen BK801.out 0;have hfz17_1:=blk_frozen BK801.out 1;have hfz17_2:=blk_frozen BK801.out 2;have hfz17_3:=blk_frozen BK801.out 3))
       refine bodyPost_ret (results_ct rfl _ _ gb801 60 #[.int .i64 0,.string (⟨#[]⟩ : ByteArray),.int .i64 0,.int .i64 0] (0,0) _ rfl (by (with_reducible repeat (first|refine blk_drewN ?_ _|refine blk_drew ?_|refine blk_alloc ?_ _));refine blk_put (cs:=#[.int .i64 0,.string (⟨#[]⟩ : ByteArray),.int .i64 0,.int .i64 0]) ?_ 3 _ rfl;(with_reducible repeat (first|refine blk_drewN ?_ _|refine blk_drew ?_|refine blk_alloc ?_ _));refine blk_put (cs:=#[.int .i64 0,.string (⟨#[]⟩ : ByteArray),.int .i64 0,.int .i64 0]) ?_ 2 _ rfl;(with_reducible repeat (first|refine blk_drewN ?_ _|refine blk_drew ?_|refine blk_alloc ?_ _));refine blk_put (cs:=#[.int .i64 0,.string (⟨#[]⟩ : ByteArray),.int .i64 0,.int .i64 0]) ?_ 1 _ rfl;(with_reducible repeat (first|refine blk_drewN ?_ _|refine blk_drew ?_|refine blk_alloc ?_ _));refine blk_put (cs:=#[.int .i64 0,.string (⟨#[]⟩ : ByteArray),.int .i64 0,.int .i64 0]) ?_ 0 _ rfl;(with_reducible repeat (first|refine blk_drewN ?_ _|refine blk_drew ?_|refine blk_alloc ?_ _));refine blk_far ?_ NB801_803.out _;(with_reducible repeat (first|refine blk_drewN ?_ _|refine blk_drew ?_|refine blk_alloc ?_ _));refine blk_far ?_ NB801_803.out _;(with_reducible repeat (first|refine blk_drewN ?_ _|refine blk_drew ?_|refine blk_alloc ?_ _));refine blk_far ?_ NB801_803.out _;(with_reducible repeat (first|refine blk_drewN ?_ _|refine blk_drew ?_|refine blk_alloc ?_ _));refine blk_far ?_ NB801_803.out _;(with_reducible repeat (first|refine blk_drewN ?_ _|refine blk_drew ?_|refine blk_alloc ?_ _));exact BK801.out) Tryd.underlying60 rfl (by kernel_rfl)) rfl ?_
       exact ⟨by first|rfl|(simp [errW_none,errW_some] <;> rfl)|(simp [*,errW_none,errW_some] <;> rfl),by repeat (first|(with_reducible first|exact HB.out|apply below_alloc|apply pw_below_drewN|apply below_drew1|refine below_set ?_ GE801.out|refine below_set ?_ GE803.out)|exact HB.out)⟩
      ·rw [if_neg c13] at H
       have c13b0 : decide (40 < (wrap64 (x6_2 - a1))) = false:=decide_eq_false c13
       clear c13
       replace H:=Option.bind_eq_some_iff.mp H
       obtain ⟨t804,A180,H⟩:=H
       replace H : (if t804 = true then (some (6,a0.extract (a1 : Int).toNat (x6_2 : Int).toNat,0,a1,x6_2)) else (if x6_2 < (a0.size : Int) then (if 0 ≤ x6_2 then (if (bt a0 x6_2) = 40 then (some (5,a0.extract (a1 : Int).toNat (x6_2 : Int).toNat,0,a1,x6_2)) else (some (4,a0.extract (a1 : Int).toNat (x6_2 : Int).toNat,0,a1,x6_2))) else (none)) else (some (4,a0.extract (a1 : Int).toNat (x6_2 : Int).toNat,0,a1,x6_2)))) = some (r1,r2,r3,r4,r5):=H
       have A18:=Aside0.mk A180
       clear A180
       by_cases c19 : t804 = true
       ·subst c19
        have H1 : (some (6,a0.extract (a1 : Int).toNat (x6_2 : Int).toNat,0,a1,x6_2)) = some (r1,r2,r3,r4,r5):=by rw [if_pos rfl] at H;exact H
        clear H
        have H:=H1
        clear H1
        simp only [Option.some.injEq,Prod.mk.injEq] at H
        obtain ⟨rfl,rfl,rfl,rfl,rfl⟩:=H
        go_wp2_with (first|((with_reducible refine gate_dst (N:=7) rfl ?_);refine box_event ?hg (N:=7) ?hd (cs:=#[.int .i64 0,.string (⟨#[]⟩ : ByteArray),.int .i64 0,.int .i64 0]) (t:=60) ?hr ?_;(case hd=>rfl);(case hg=>rfl);(case hr=>first|(go_simp;done)|(go_simp;rfl));intro gb803 hg w20 hbox hb;have n0_:=Aside0.mk (blk_below (g:=gb801) (o:=.cells #[.int .i64 0,.string (⟨#[]⟩ : ByteArray),.int .i64 0,.int .i64 0] 60 (0,0)) (by (with_reducible repeat (first|refine blk_drewN ?_ _|refine blk_drew ?_|refine blk_alloc ?_ _));exact BK801.out) hb);have n1_:=Aside0.mk (below_step (by repeat (first|(with_reducible first|exact HB.out|apply below_alloc|apply pw_below_drewN|apply below_drew1|refine below_set ?_ GE801.out)|exact HB.out)) hb);have n2_:=Aside0.mk (hbox);have n3_:=Aside0.mk ((by rw [hg];exact (below_size (by repeat (first|(with_reducible first|exact HB.out|apply below_alloc|apply pw_below_drewN|apply below_drew1|refine below_set ?_ GE801.out)|exact HB.out))) : w.heap.size ≤ gb803));have n4_:=Aside0.mk ((by rw [hg];exact (below_size (by repeat (first|(with_reducible first|exact HB.out|apply below_alloc|apply pw_below_drewN|apply below_drew1|refine below_set ?_ GE801.out)|exact HB.out))) : w.heap.size ≤ gb803));have n5_:=Aside0.mk ((by rw [hg];exact Nat.ne_of_lt (blk_lt (g:=gb801) (o:=.cells #[.int .i64 0,.string (⟨#[]⟩ : ByteArray),.int .i64 0,.int .i64 0] 60 (0,0)) (by (with_reducible repeat (first|refine blk_drewN ?_ _|refine blk_drew ?_|refine blk_alloc ?_ _));exact BK801.out)) : gb801 ≠ gb803));have n6_:=Aside0.mk ((by rw [hg];exact Nat.ne_of_gt (blk_lt (g:=gb801) (o:=.cells #[.int .i64 0,.string (⟨#[]⟩ : ByteArray),.int .i64 0,.int .i64 0] 60 (0,0)) (by (with_reducible repeat (first|refine blk_drewN ?_ _|refine blk_drew ?_|refine blk_alloc ?_ _));exact BK801.out)) : gb803 ≠ gb801));clear BK801;clear HB;have BK801:=n0_;have HB:=n1_;have BK803:=n2_;have GW803:=n3_;have GE803:=n4_;have NB801_803:=n5_;have NB803_801:=n6_;clear n0_ n1_ n2_ n3_ n4_ n5_ n6_;clear hb hbox hg;have hnb21:=NB803_801.out;have hnc21:=NB801_803.out;have hcz22_0 : w20.cell? ⟨gb803,0,none⟩ = some (.int .i64 0):=(blk_cell BK803.out 0).trans rfl;have hcz22_1 : w20.cell? ⟨gb803,1,none⟩ = some (.string (⟨#[]⟩ : ByteArray)):=(blk_cell BK803.out 1).trans rfl;have hcz22_2 : w20.cell? ⟨gb803,2,none⟩ = some (.int .i64 0):=(blk_cell BK803.out 2).trans rfl;have hcz22_3 : w20.cell? ⟨gb803,3,none⟩ = some (.int .i64 0):=(blk_cell BK803.out 3).trans rfl;have hfz22_0:=blk_frozen BK803.out 0;have hfz22_1:=blk_frozen BK803.out 1;have hfz22_2:=blk_frozen BK803.out 2;have hfz22_3:=blk_frozen BK803.out 3)|((with_reducible refine gate_callee (f:=119) rfl ?_);refine goesL_ (some 34) rfl rfl Tryd.func119 (by kernel_rfl) rfl #[.string (a0.extract (a1 : Int).toNat (x6_2 : Int).toNat)] rfl (by (try simp only [List.map_toArray,List.map_cons,List.map_nil]);first|done|rfl|(simp only [List.length_drop,List.length_take];rfl)) ?_;(with_reducible refine (spec_IsWord.calls kj2 (a0.extract (a1 : Int).toNat (x6_2 : Int).toNat) true _ A18.out).mono ?_);rintro e w23 ⟨rfl,hb⟩;refine ⟨_,rfl,?_⟩;have n0_:=Aside0.mk (blk_below (g:=gb801) (o:=.cells #[.int .i64 0,.string (⟨#[]⟩ : ByteArray),.int .i64 0,.int .i64 0] 60 (0,0)) (by (with_reducible repeat (first|refine blk_drewN ?_ _|refine blk_drew ?_|refine blk_alloc ?_ _));refine blk_far ?_ NB801_803.out _;(with_reducible repeat (first|refine blk_drewN ?_ _|refine blk_drew ?_|refine blk_alloc ?_ _));refine blk_far ?_ NB801_803.out _;(with_reducible repeat (first|refine blk_drewN ?_ _|refine blk_drew ?_|refine blk_alloc ?_ _));refine blk_far ?_ NB801_803.out _;(with_reducible repeat (first|refine blk_drewN ?_ _|refine blk_drew ?_|refine blk_alloc ?_ _));refine blk_far ?_ NB801_803.out _;(with_reducible repeat (first|refine blk_drewN ?_ _|refine blk_drew ?_|refine blk_alloc ?_ _));exact BK801.out) hb);have n1_:=Aside0.mk (blk_below (g:=gb803) (o:=.cells #[.int .i64 4,.string (a0.extract (a1 : Int).toNat (x6_2 : Int).toNat),.int .i64 0,.int .i64 a1] 60 (0,0)) (by (with_reducible repeat (first|refine blk_drewN ?_ _|refine blk_drew ?_|refine blk_alloc ?_ _));refine blk_put (cs:=#[.int .i64 4,.string (a0.extract (a1 : Int).toNat (x6_2 : Int).toNat),.int .i64 0,.int .i64 0]) ?_ 3 _ rfl;(with_reducible repeat (first|refine blk_drewN ?_ _|refine blk_drew ?_|refine blk_alloc ?_ _));refine blk_put (cs:=#[.int .i64 4,.string (a0.extract (a1 : Int).toNat (x6_2 : Int).toNat),.int .i64 0,.int .i64 0]) ?_ 2 _ rfl;(with_reducible repeat (first|refine blk_drewN ?_ _|refine blk_drew ?_|refine blk_alloc ?_ _));refine blk_put (cs:=#[.int .i64 4,.string (⟨#[]⟩ : ByteArray),.int .i64 0,.int .i64 0]) ?_ 1 _ rfl;(with_reducible repeat (first|refine blk_drewN ?_ _|refine blk_drew ?_|refine blk_alloc ?_ _));refine blk_put (cs:=#[.int .i64 0,.string (⟨#[]⟩ : ByteArray),.int .i64 0,.int .i64 0]) ?_ 0 _ rfl;(with_reducible repeat (first|refine blk_drewN ?_ _|refine blk_drew ?_|refine blk_alloc ?_ _));exact BK803.out) hb);have n2_:=Aside0.mk (below_step (by repeat (first|(with_reducible first|exact HB.out|apply below_alloc|apply pw_below_drewN|apply below_drew1|refine below_set ?_ GE801.out|refine below_set ?_ GE803.out)|exact HB.out)) hb);clear BK801;clear BK803;clear HB;have BK801:=n0_;have BK803:=n1_;have HB:=n2_;clear n0_ n1_ n2_;(try clear hb);(try clear hb2);(try clear hk);(try clear hi);have hcz24_0 : w23.cell? ⟨gb803,0,none⟩ = some (.int .i64 4):=(blk_cell BK803.out 0).trans rfl;have hcz24_1 : w23.cell? ⟨gb803,1,none⟩ = some (.string (a0.extract (a1 : Int).toNat (x6_2 : Int).toNat)):=(blk_cell BK803.out 1).trans rfl;have hcz24_2 : w23.cell? ⟨gb803,2,none⟩ = some (.int .i64 0):=(blk_cell BK803.out 2).trans rfl;have hcz24_3 : w23.cell? ⟨gb803,3,none⟩ = some (.int .i64 a1):=(blk_cell BK803.out 3).trans rfl;have hfz24_0:=blk_frozen BK803.out 0;have hfz24_1:=blk_frozen BK803.out 1;have hfz24_2:=blk_frozen BK803.out 2;have hfz24_3:=blk_frozen BK803.out 3;have hcz25_0 : w23.cell? ⟨gb801,0,none⟩ = some (.int .i64 0):=(blk_cell BK801.out 0).trans rfl;have hcz25_1 : w23.cell? ⟨gb801,1,none⟩ = some (.string (⟨#[]⟩ : ByteArray)):=(blk_cell BK801.out 1).trans rfl;have hcz25_2 : w23.cell? ⟨gb801,2,none⟩ = some (.int .i64 0):=(blk_cell BK801.out 2).trans rfl;have hcz25_3 : w23.cell? ⟨gb801,3,none⟩ = some (.int .i64 0):=(blk_cell BK801.out 3).trans rfl;have hfz25_0:=blk_frozen BK801.out 0;have hfz25_1:=blk_frozen BK801.out 1;have hfz25_2:=blk_frozen BK801.out 2;have hfz25_3:=blk_frozen BK801.out 3))
        refine bodyPost_ret (results_ct rfl _ _ gb801 60 #[.int .i64 6,.string (a0.extract (a1 : Int).toNat (x6_2 : Int).toNat),.int .i64 0,.int .i64 a1] (0,0) _ rfl (by (with_reducible repeat (first|refine blk_drewN ?_ _|refine blk_drew ?_|refine blk_alloc ?_ _));refine blk_put (cs:=#[.int .i64 6,.string (a0.extract (a1 : Int).toNat (x6_2 : Int).toNat),.int .i64 0,.int .i64 0]) ?_ 3 _ rfl;(with_reducible repeat (first|refine blk_drewN ?_ _|refine blk_drew ?_|refine blk_alloc ?_ _));refine blk_put (cs:=#[.int .i64 6,.string (a0.extract (a1 : Int).toNat (x6_2 : Int).toNat),.int .i64 0,.int .i64 0]) ?_ 2 _ rfl;(with_reducible repeat (first|refine blk_drewN ?_ _|refine blk_drew ?_|refine blk_alloc ?_ _));refine blk_put (cs:=#[.int .i64 6,.string (⟨#[]⟩ : ByteArray),.int .i64 0,.int .i64 0]) ?_ 1 _ rfl;(with_reducible repeat (first|refine blk_drewN ?_ _|refine blk_drew ?_|refine blk_alloc ?_ _));refine blk_put (cs:=#[.int .i64 0,.string (⟨#[]⟩ : ByteArray),.int .i64 0,.int .i64 0]) ?_ 0 _ rfl;(with_reducible repeat (first|refine blk_drewN ?_ _|refine blk_drew ?_|refine blk_alloc ?_ _));refine blk_far ?_ NB801_803.out _;(with_reducible repeat (first|refine blk_drewN ?_ _|refine blk_drew ?_|refine blk_alloc ?_ _));exact BK801.out) Tryd.underlying60 rfl (by kernel_rfl)) rfl ?_
        exact ⟨by first|rfl|(simp [errW_none,errW_some] <;> rfl)|(simp [*,errW_none,errW_some] <;> rfl),by repeat (first|(with_reducible first|exact HB.out|apply below_alloc|apply pw_below_drewN|apply below_drew1|refine below_set ?_ GE801.out|refine below_set ?_ GE803.out)|exact HB.out)⟩
       ·replace c19:=Bool.eq_false_iff.mpr c19
        subst c19
        have H1 : (if x6_2 < (a0.size : Int) then (if 0 ≤ x6_2 then (if (bt a0 x6_2) = 40 then (some (5,a0.extract (a1 : Int).toNat (x6_2 : Int).toNat,0,a1,x6_2)) else (some (4,a0.extract (a1 : Int).toNat (x6_2 : Int).toNat,0,a1,x6_2))) else (none)) else (some (4,a0.extract (a1 : Int).toNat (x6_2 : Int).toNat,0,a1,x6_2))) = some (r1,r2,r3,r4,r5):=by rw [if_neg (show ¬ (false = true) by decide)] at H;exact H
        clear H
        have H:=H1
        clear H1
        by_cases c26 : x6_2 < (a0.size : Int)
        ·rw [if_pos c26] at H
         have c26b0 : decide (x6_2 < (a0.size : Int)) = true:=decide_eq_true c26
         clear c26
         by_cases c27 : 0 ≤ x6_2
         ·rw [if_pos c27] at H
          have c27b0 : decide (0 ≤ x6_2) = true:=decide_eq_true c27
          clear c27
          by_cases c29 : (bt a0 x6_2) = 40
          ·rw [if_pos c29] at H
           have c29b0 : ((bt a0 x6_2) == 40) = true:=beq_iff_eq.mpr c29
           have c29b1 : ((bt a0 x6_2) != 40) = false:=bne_eq_false_iff_eq.mpr c29
           clear c29
           simp only [Option.some.injEq,Prod.mk.injEq] at H
           obtain ⟨rfl,rfl,rfl,rfl,rfl⟩:=H
           go_wp2_with (first|((with_reducible refine gate_dst (N:=7) rfl ?_);refine box_event ?hg (N:=7) ?hd (cs:=#[.int .i64 0,.string (⟨#[]⟩ : ByteArray),.int .i64 0,.int .i64 0]) (t:=60) ?hr ?_;(case hd=>rfl);(case hg=>rfl);(case hr=>first|(go_simp;done)|(go_simp;rfl));intro gb803 hg w30 hbox hb;have n0_:=Aside0.mk (blk_below (g:=gb801) (o:=.cells #[.int .i64 0,.string (⟨#[]⟩ : ByteArray),.int .i64 0,.int .i64 0] 60 (0,0)) (by (with_reducible repeat (first|refine blk_drewN ?_ _|refine blk_drew ?_|refine blk_alloc ?_ _));exact BK801.out) hb);have n1_:=Aside0.mk (below_step (by repeat (first|(with_reducible first|exact HB.out|apply below_alloc|apply pw_below_drewN|apply below_drew1|refine below_set ?_ GE801.out)|exact HB.out)) hb);have n2_:=Aside0.mk (hbox);have n3_:=Aside0.mk ((by rw [hg];exact (below_size (by repeat (first|(with_reducible first|exact HB.out|apply below_alloc|apply pw_below_drewN|apply below_drew1|refine below_set ?_ GE801.out)|exact HB.out))) : w.heap.size ≤ gb803));have n4_:=Aside0.mk ((by rw [hg];exact (below_size (by repeat (first|(with_reducible first|exact HB.out|apply below_alloc|apply pw_below_drewN|apply below_drew1|refine below_set ?_ GE801.out)|exact HB.out))) : w.heap.size ≤ gb803));have n5_:=Aside0.mk ((by rw [hg];exact Nat.ne_of_lt (blk_lt (g:=gb801) (o:=.cells #[.int .i64 0,.string (⟨#[]⟩ : ByteArray),.int .i64 0,.int .i64 0] 60 (0,0)) (by (with_reducible repeat (first|refine blk_drewN ?_ _|refine blk_drew ?_|refine blk_alloc ?_ _));exact BK801.out)) : gb801 ≠ gb803));have n6_:=Aside0.mk ((by rw [hg];exact Nat.ne_of_gt (blk_lt (g:=gb801) (o:=.cells #[.int .i64 0,.string (⟨#[]⟩ : ByteArray),.int .i64 0,.int .i64 0] 60 (0,0)) (by (with_reducible repeat (first|refine blk_drewN ?_ _|refine blk_drew ?_|refine blk_alloc ?_ _));exact BK801.out)) : gb803 ≠ gb801));clear BK801;clear HB;have BK801:=n0_;have HB:=n1_;have BK803:=n2_;have GW803:=n3_;have GE803:=n4_;have NB801_803:=n5_;have NB803_801:=n6_;clear n0_ n1_ n2_ n3_ n4_ n5_ n6_;clear hb hbox hg;have hnb31:=NB803_801.out;have hnc31:=NB801_803.out;have hcz32_0 : w30.cell? ⟨gb803,0,none⟩ = some (.int .i64 0):=(blk_cell BK803.out 0).trans rfl;have hcz32_1 : w30.cell? ⟨gb803,1,none⟩ = some (.string (⟨#[]⟩ : ByteArray)):=(blk_cell BK803.out 1).trans rfl;have hcz32_2 : w30.cell? ⟨gb803,2,none⟩ = some (.int .i64 0):=(blk_cell BK803.out 2).trans rfl;have hcz32_3 : w30.cell? ⟨gb803,3,none⟩ = some (.int .i64 0):=(blk_cell BK803.out 3).trans rfl;have hfz32_0:=blk_frozen BK803.out 0;have hfz32_1:=blk_frozen BK803.out 1;have hfz32_2:=blk_frozen BK803.out 2;have hfz32_3:=blk_frozen BK803.out 3)|((with_reducible refine gate_callee (f:=119) rfl ?_);refine goesL_ (some 34) rfl rfl Tryd.func119 (by kernel_rfl) rfl #[.string (a0.extract (a1 : Int).toNat (x6_2 : Int).toNat)] rfl (by (try simp only [List.map_toArray,List.map_cons,List.map_nil]);first|done|rfl|(simp only [List.length_drop,List.length_take];rfl)) ?_;(with_reducible refine (spec_IsWord.calls kj2 (a0.extract (a1 : Int).toNat (x6_2 : Int).toNat) false _ A18.out).mono ?_);rintro e w33 ⟨rfl,hb⟩;refine ⟨_,rfl,?_⟩;have n0_:=Aside0.mk (blk_below (g:=gb801) (o:=.cells #[.int .i64 0,.string (⟨#[]⟩ : ByteArray),.int .i64 0,.int .i64 0] 60 (0,0)) (by (with_reducible repeat (first|refine blk_drewN ?_ _|refine blk_drew ?_|refine blk_alloc ?_ _));refine blk_far ?_ NB801_803.out _;(with_reducible repeat (first|refine blk_drewN ?_ _|refine blk_drew ?_|refine blk_alloc ?_ _));refine blk_far ?_ NB801_803.out _;(with_reducible repeat (first|refine blk_drewN ?_ _|refine blk_drew ?_|refine blk_alloc ?_ _));refine blk_far ?_ NB801_803.out _;(with_reducible repeat (first|refine blk_drewN ?_ _|refine blk_drew ?_|refine blk_alloc ?_ _));refine blk_far ?_ NB801_803.out _;(with_reducible repeat (first|refine blk_drewN ?_ _|refine blk_drew ?_|refine blk_alloc ?_ _));exact BK801.out) hb);have n1_:=Aside0.mk (blk_below (g:=gb803) (o:=.cells #[.int .i64 4,.string (a0.extract (a1 : Int).toNat (x6_2 : Int).toNat),.int .i64 0,.int .i64 a1] 60 (0,0)) (by (with_reducible repeat (first|refine blk_drewN ?_ _|refine blk_drew ?_|refine blk_alloc ?_ _));refine blk_put (cs:=#[.int .i64 4,.string (a0.extract (a1 : Int).toNat (x6_2 : Int).toNat),.int .i64 0,.int .i64 0]) ?_ 3 _ rfl;(with_reducible repeat (first|refine blk_drewN ?_ _|refine blk_drew ?_|refine blk_alloc ?_ _));refine blk_put (cs:=#[.int .i64 4,.string (a0.extract (a1 : Int).toNat (x6_2 : Int).toNat),.int .i64 0,.int .i64 0]) ?_ 2 _ rfl;(with_reducible repeat (first|refine blk_drewN ?_ _|refine blk_drew ?_|refine blk_alloc ?_ _));refine blk_put (cs:=#[.int .i64 4,.string (⟨#[]⟩ : ByteArray),.int .i64 0,.int .i64 0]) ?_ 1 _ rfl;(with_reducible repeat (first|refine blk_drewN ?_ _|refine blk_drew ?_|refine blk_alloc ?_ _));refine blk_put (cs:=#[.int .i64 0,.string (⟨#[]⟩ : ByteArray),.int .i64 0,.int .i64 0]) ?_ 0 _ rfl;(with_reducible repeat (first|refine blk_drewN ?_ _|refine blk_drew ?_|refine blk_alloc ?_ _));exact BK803.out) hb);have n2_:=Aside0.mk (below_step (by repeat (first|(with_reducible first|exact HB.out|apply below_alloc|apply pw_below_drewN|apply below_drew1|refine below_set ?_ GE801.out|refine below_set ?_ GE803.out)|exact HB.out)) hb);clear BK801;clear BK803;clear HB;have BK801:=n0_;have BK803:=n1_;have HB:=n2_;clear n0_ n1_ n2_;(try clear hb);(try clear hb2);(try clear hk);(try clear hi);have p28 : 0 ≤ (x6_2 : Int):=of_decide_eq_true (by first|(with_reducible assumption)|assumption);have q28 : x6_2 < (a0.size : Int):=of_decide_eq_true (by first|(with_reducible assumption)|assumption);have hx28:=bt_at a0 x6_2;replace p28:=eq_true p28;replace q28:=eq_true q28;have hcz34_0 : w33.cell? ⟨gb803,0,none⟩ = some (.int .i64 4):=(blk_cell BK803.out 0).trans rfl;have hcz34_1 : w33.cell? ⟨gb803,1,none⟩ = some (.string (a0.extract (a1 : Int).toNat (x6_2 : Int).toNat)):=(blk_cell BK803.out 1).trans rfl;have hcz34_2 : w33.cell? ⟨gb803,2,none⟩ = some (.int .i64 0):=(blk_cell BK803.out 2).trans rfl;have hcz34_3 : w33.cell? ⟨gb803,3,none⟩ = some (.int .i64 a1):=(blk_cell BK803.out 3).trans rfl;have hfz34_0:=blk_frozen BK803.out 0;have hfz34_1:=blk_frozen BK803.out 1;have hfz34_2:=blk_frozen BK803.out 2;have hfz34_3:=blk_frozen BK803.out 3;have hcz35_0 : w33.cell? ⟨gb801,0,none⟩ = some (.int .i64 0):=(blk_cell BK801.out 0).trans rfl;have hcz35_1 : w33.cell? ⟨gb801,1,none⟩ = some (.string (⟨#[]⟩ : ByteArray)):=(blk_cell BK801.out 1).trans rfl;have hcz35_2 : w33.cell? ⟨gb801,2,none⟩ = some (.int .i64 0):=(blk_cell BK801.out 2).trans rfl;have hcz35_3 : w33.cell? ⟨gb801,3,none⟩ = some (.int .i64 0):=(blk_cell BK801.out 3).trans rfl;have hfz35_0:=blk_frozen BK801.out 0;have hfz35_1:=blk_frozen BK801.out 1;have hfz35_2:=blk_frozen BK801.out 2;have hfz35_3:=blk_frozen BK801.out 3))
           refine bodyPost_ret (results_ct rfl _ _ gb801 60 #[.int .i64 5,.string (a0.extract (a1 : Int).toNat (x6_2 : Int).toNat),.int .i64 0,.int .i64 a1] (0,0) _ rfl (by (with_reducible repeat (first|refine blk_drewN ?_ _|refine blk_drew ?_|refine blk_alloc ?_ _));refine blk_put (cs:=#[.int .i64 5,.string (a0.extract (a1 : Int).toNat (x6_2 : Int).toNat),.int .i64 0,.int .i64 0]) ?_ 3 _ rfl;(with_reducible repeat (first|refine blk_drewN ?_ _|refine blk_drew ?_|refine blk_alloc ?_ _));refine blk_put (cs:=#[.int .i64 5,.string (a0.extract (a1 : Int).toNat (x6_2 : Int).toNat),.int .i64 0,.int .i64 0]) ?_ 2 _ rfl;(with_reducible repeat (first|refine blk_drewN ?_ _|refine blk_drew ?_|refine blk_alloc ?_ _));refine blk_put (cs:=#[.int .i64 5,.string (⟨#[]⟩ : ByteArray),.int .i64 0,.int .i64 0]) ?_ 1 _ rfl;(with_reducible repeat (first|refine blk_drewN ?_ _|refine blk_drew ?_|refine blk_alloc ?_ _));refine blk_put (cs:=#[.int .i64 0,.string (⟨#[]⟩ : ByteArray),.int .i64 0,.int .i64 0]) ?_ 0 _ rfl;(with_reducible repeat (first|refine blk_drewN ?_ _|refine blk_drew ?_|refine blk_alloc ?_ _));refine blk_far ?_ NB801_803.out _;(with_reducible repeat (first|refine blk_drewN ?_ _|refine blk_drew ?_|refine blk_alloc ?_ _));exact BK801.out) Tryd.underlying60 rfl (by kernel_rfl)) rfl ?_
           exact ⟨by first|rfl|(simp [errW_none,errW_some] <;> rfl)|(simp [*,errW_none,errW_some] <;> rfl),by repeat (first|(with_reducible first|exact HB.out|apply below_alloc|apply pw_below_drewN|apply below_drew1|refine below_set ?_ GE801.out|refine below_set ?_ GE803.out)|exact HB.out)⟩
          ·rw [if_neg c29] at H
           have c29b0 : ((bt a0 x6_2) == 40) = false:=beq_eq_false_iff_ne.mpr c29
           have c29b1 : ((bt a0 x6_2) != 40) = true:=bne_iff_ne.mpr c29
           simp only [Option.some.injEq,Prod.mk.injEq] at H
           obtain ⟨rfl,rfl,rfl,rfl,rfl⟩:=H
           go_wp2_with (first|((with_reducible refine gate_dst (N:=7) rfl ?_);refine box_event ?hg (N:=7) ?hd (cs:=#[.int .i64 0,.string (⟨#[]⟩ : ByteArray),.int .i64 0,.int .i64 0]) (t:=60) ?hr ?_;(case hd=>rfl);(case hg=>rfl);(case hr=>first|(go_simp;done)|(go_simp;rfl));intro gb803 hg w36 hbox hb;have n0_:=Aside0.mk (blk_below (g:=gb801) (o:=.cells #[.int .i64 0,.string (⟨#[]⟩ : ByteArray),.int .i64 0,.int .i64 0] 60 (0,0)) (by (with_reducible repeat (first|refine blk_drewN ?_ _|refine blk_drew ?_|refine blk_alloc ?_ _));exact BK801.out) hb);have n1_:=Aside0.mk (below_step (by repeat (first|(with_reducible first|exact HB.out|apply below_alloc|apply pw_below_drewN|apply below_drew1|refine below_set ?_ GE801.out)|exact HB.out)) hb);have n2_:=Aside0.mk (hbox);have n3_:=Aside0.mk ((by rw [hg];exact (below_size (by repeat (first|(with_reducible first|exact HB.out|apply below_alloc|apply pw_below_drewN|apply below_drew1|refine below_set ?_ GE801.out)|exact HB.out))) : w.heap.size ≤ gb803));have n4_:=Aside0.mk ((by rw [hg];exact (below_size (by repeat (first|(with_reducible first|exact HB.out|apply below_alloc|apply pw_below_drewN|apply below_drew1|refine below_set ?_ GE801.out)|exact HB.out))) : w.heap.size ≤ gb803));have n5_:=Aside0.mk ((by rw [hg];exact Nat.ne_of_lt (blk_lt (g:=gb801) (o:=.cells #[.int .i64 0,.string (⟨#[]⟩ : ByteArray),.int .i64 0,.int .i64 0] 60 (0,0)) (by (with_reducible repeat (first|refine blk_drewN ?_ _|refine blk_drew ?_|refine blk_alloc ?_ _));exact BK801.out)) : gb801 ≠ gb803));have n6_:=Aside0.mk ((by rw [hg];exact Nat.ne_of_gt (blk_lt (g:=gb801) (o:=.cells #[.int .i64 0,.string (⟨#[]⟩ : ByteArray),.int .i64 0,.int .i64 0] 60 (0,0)) (by (with_reducible repeat (first|refine blk_drewN ?_ _|refine blk_drew ?_|refine blk_alloc ?_ _));exact BK801.out)) : gb803 ≠ gb801));clear BK801;clear HB;have BK801:=n0_;have HB:=n1_;have BK803:=n2_;have GW803:=n3_;have GE803:=n4_;have NB801_803:=n5_;have NB803_801:=n6_;clear n0_ n1_ n2_ n3_ n4_ n5_ n6_;clear hb hbox hg;have hnb37:=NB803_801.out;have hnc37:=NB801_803.out;have hcz38_0 : w36.cell? ⟨gb803,0,none⟩ = some (.int .i64 0):=(blk_cell BK803.out 0).trans rfl;have hcz38_1 : w36.cell? ⟨gb803,1,none⟩ = some (.string (⟨#[]⟩ : ByteArray)):=(blk_cell BK803.out 1).trans rfl;have hcz38_2 : w36.cell? ⟨gb803,2,none⟩ = some (.int .i64 0):=(blk_cell BK803.out 2).trans rfl;have hcz38_3 : w36.cell? ⟨gb803,3,none⟩ = some (.int .i64 0):=(blk_cell BK803.out 3).trans rfl;have hfz38_0:=blk_frozen BK803.out 0;have hfz38_1:=blk_frozen BK803.out 1;have hfz38_2:=blk_frozen BK803.out 2;have hfz38_3:=blk_frozen BK803.out 3)|((with_reducible refine gate_callee (f:=119) rfl ?_);refine goesL_ (some 34) rfl rfl Tryd.func119 (by kernel_rfl) rfl #[.string (a0.extract (a1 : Int).toNat (x6_2 : Int).toNat)] rfl (by (try simp only [List.map_toArray,List.map_cons,List.map_nil]);first|done|rfl|(simp only [List.length_drop,List.length_take];rfl)) ?_;(with_reducible refine (spec_IsWord.calls kj2 (a0.extract (a1 : Int).toNat (x6_2 : Int).toNat) false _ A18.out).mono ?_);rintro e w39 ⟨rfl,hb⟩;refine ⟨_,rfl,?_⟩;have n0_:=Aside0.mk (blk_below (g:=gb801) (o:=.cells #[.int .i64 0,.string (⟨#[]⟩ : ByteArray),.int .i64 0,.int .i64 0] 60 (0,0)) (by (with_reducible repeat (first|refine blk_drewN ?_ _|refine blk_drew ?_|refine blk_alloc ?_ _));refine blk_far ?_ NB801_803.out _;(with_reducible repeat (first|refine blk_drewN ?_ _|refine blk_drew ?_|refine blk_alloc ?_ _));refine blk_far ?_ NB801_803.out _;(with_reducible repeat (first|refine blk_drewN ?_ _|refine blk_drew ?_|refine blk_alloc ?_ _));refine blk_far ?_ NB801_803.out _;(with_reducible repeat (first|refine blk_drewN ?_ _|refine blk_drew ?_|refine blk_alloc ?_ _));refine blk_far ?_ NB801_803.out _;(with_reducible repeat (first|refine blk_drewN ?_ _|refine blk_drew ?_|refine blk_alloc ?_ _));exact BK801.out) hb);have n1_:=Aside0.mk (blk_below (g:=gb803) (o:=.cells #[.int .i64 4,.string (a0.extract (a1 : Int).toNat (x6_2 : Int).toNat),.int .i64 0,.int .i64 a1] 60 (0,0)) (by (with_reducible repeat (first|refine blk_drewN ?_ _|refine blk_drew ?_|refine blk_alloc ?_ _));refine blk_put (cs:=#[.int .i64 4,.string (a0.extract (a1 : Int).toNat (x6_2 : Int).toNat),.int .i64 0,.int .i64 0]) ?_ 3 _ rfl;(with_reducible repeat (first|refine blk_drewN ?_ _|refine blk_drew ?_|refine blk_alloc ?_ _));refine blk_put (cs:=#[.int .i64 4,.string (a0.extract (a1 : Int).toNat (x6_2 : Int).toNat),.int .i64 0,.int .i64 0]) ?_ 2 _ rfl;(with_reducible repeat (first|refine blk_drewN ?_ _|refine blk_drew ?_|refine blk_alloc ?_ _));refine blk_put (cs:=#[.int .i64 4,.string (⟨#[]⟩ : ByteArray),.int .i64 0,.int .i64 0]) ?_ 1 _ rfl;(with_reducible repeat (first|refine blk_drewN ?_ _|refine blk_drew ?_|refine blk_alloc ?_ _));refine blk_put (cs:=#[.int .i64 0,.string (⟨#[]⟩ : ByteArray),.int .i64 0,.int .i64 0]) ?_ 0 _ rfl;(with_reducible repeat (first|refine blk_drewN ?_ _|refine blk_drew ?_|refine blk_alloc ?_ _));exact BK803.out) hb);have n2_:=Aside0.mk (below_step (by repeat (first|(with_reducible first|exact HB.out|apply below_alloc|apply pw_below_drewN|apply below_drew1|refine below_set ?_ GE801.out|refine below_set ?_ GE803.out)|exact HB.out)) hb);clear BK801;clear BK803;clear HB;have BK801:=n0_;have BK803:=n1_;have HB:=n2_;clear n0_ n1_ n2_;(try clear hb);(try clear hb2);(try clear hk);(try clear hi);have p28 : 0 ≤ (x6_2 : Int):=of_decide_eq_true (by first|(with_reducible assumption)|assumption);have q28 : x6_2 < (a0.size : Int):=of_decide_eq_true (by first|(with_reducible assumption)|assumption);have hx28:=bt_at a0 x6_2;replace p28:=eq_true p28;replace q28:=eq_true q28;have hcz40_0 : w39.cell? ⟨gb803,0,none⟩ = some (.int .i64 4):=(blk_cell BK803.out 0).trans rfl;have hcz40_1 : w39.cell? ⟨gb803,1,none⟩ = some (.string (a0.extract (a1 : Int).toNat (x6_2 : Int).toNat)):=(blk_cell BK803.out 1).trans rfl;have hcz40_2 : w39.cell? ⟨gb803,2,none⟩ = some (.int .i64 0):=(blk_cell BK803.out 2).trans rfl;have hcz40_3 : w39.cell? ⟨gb803,3,none⟩ = some (.int .i64 a1):=(blk_cell BK803.out 3).trans rfl;have hfz40_0:=blk_frozen BK803.out 0;have hfz40_1:=blk_frozen BK803.out 1;have hfz40_2:=blk_frozen BK803.out 2;have hfz40_3:=blk_frozen BK803.out 3;have hcz41_0 : w39.cell? ⟨gb801,0,none⟩ = some (.int .i64 0):=(blk_cell BK801.out 0).trans rfl;have hcz41_1 : w39.cell? ⟨gb801,1,none⟩ = some (.string (⟨#[]⟩ : ByteArray)):=(blk_cell BK801.out 1).trans rfl;have hcz41_2 : w39.cell? ⟨gb801,2,none⟩ = some (.int .i64 0):=(blk_cell BK801.out 2).trans rfl;have hcz41_3 : w39.cell? ⟨gb801,3,none⟩ = some (.int .i64 0):=(blk_cell BK801.out 3).trans rfl;have hfz41_0:=blk_frozen BK801.out 0;have hfz41_1:=blk_frozen BK801.out 1;have hfz41_2:=blk_frozen BK801.out 2;have hfz41_3:=blk_frozen BK801.out 3))
           refine bodyPost_ret (results_ct rfl _ _ gb801 60 #[.int .i64 4,.string (a0.extract (a1 : Int).toNat (x6_2 : Int).toNat),.int .i64 0,.int .i64 a1] (0,0) _ rfl (by (with_reducible repeat (first|refine blk_drewN ?_ _|refine blk_drew ?_|refine blk_alloc ?_ _));refine blk_put (cs:=#[.int .i64 4,.string (a0.extract (a1 : Int).toNat (x6_2 : Int).toNat),.int .i64 0,.int .i64 0]) ?_ 3 _ rfl;(with_reducible repeat (first|refine blk_drewN ?_ _|refine blk_drew ?_|refine blk_alloc ?_ _));refine blk_put (cs:=#[.int .i64 4,.string (a0.extract (a1 : Int).toNat (x6_2 : Int).toNat),.int .i64 0,.int .i64 0]) ?_ 2 _ rfl;(with_reducible repeat (first|refine blk_drewN ?_ _|refine blk_drew ?_|refine blk_alloc ?_ _));refine blk_put (cs:=#[.int .i64 4,.string (⟨#[]⟩ : ByteArray),.int .i64 0,.int .i64 0]) ?_ 1 _ rfl;(with_reducible repeat (first|refine blk_drewN ?_ _|refine blk_drew ?_|refine blk_alloc ?_ _));refine blk_put (cs:=#[.int .i64 0,.string (⟨#[]⟩ : ByteArray),.int .i64 0,.int .i64 0]) ?_ 0 _ rfl;(with_reducible repeat (first|refine blk_drewN ?_ _|refine blk_drew ?_|refine blk_alloc ?_ _));exact BK801.out) Tryd.underlying60 rfl (by kernel_rfl)) rfl ?_
           exact ⟨by first|rfl|(simp [errW_none,errW_some] <;> rfl)|(simp [*,errW_none,errW_some] <;> rfl),by repeat (first|(with_reducible first|exact HB.out|apply below_alloc|apply pw_below_drewN|apply below_drew1|refine below_set ?_ GE801.out|refine below_set ?_ GE803.out)|exact HB.out)⟩
         ·rw [if_neg c27] at H
          exact absurd H (by simp)
        ·rw [if_neg c26] at H
         have c26b0 : decide (x6_2 < (a0.size : Int)) = false:=decide_eq_false c26
         clear c26
         simp only [Option.some.injEq,Prod.mk.injEq] at H
         obtain ⟨rfl,rfl,rfl,rfl,rfl⟩:=H
         go_wp2_with (first|((with_reducible refine gate_dst (N:=7) rfl ?_);refine box_event ?hg (N:=7) ?hd (cs:=#[.int .i64 0,.string (⟨#[]⟩ : ByteArray),.int .i64 0,.int .i64 0]) (t:=60) ?hr ?_;(case hd=>rfl);(case hg=>rfl);(case hr=>first|(go_simp;done)|(go_simp;rfl));intro gb803 hg w42 hbox hb;have n0_:=Aside0.mk (blk_below (g:=gb801) (o:=.cells #[.int .i64 0,.string (⟨#[]⟩ : ByteArray),.int .i64 0,.int .i64 0] 60 (0,0)) (by (with_reducible repeat (first|refine blk_drewN ?_ _|refine blk_drew ?_|refine blk_alloc ?_ _));exact BK801.out) hb);have n1_:=Aside0.mk (below_step (by repeat (first|(with_reducible first|exact HB.out|apply below_alloc|apply pw_below_drewN|apply below_drew1|refine below_set ?_ GE801.out)|exact HB.out)) hb);have n2_:=Aside0.mk (hbox);have n3_:=Aside0.mk ((by rw [hg];exact (below_size (by repeat (first|(with_reducible first|exact HB.out|apply below_alloc|apply pw_below_drewN|apply below_drew1|refine below_set ?_ GE801.out)|exact HB.out))) : w.heap.size ≤ gb803));have n4_:=Aside0.mk ((by rw [hg];exact (below_size (by repeat (first|(with_reducible first|exact HB.out|apply below_alloc|apply pw_below_drewN|apply below_drew1|refine below_set ?_ GE801.out)|exact HB.out))) : w.heap.size ≤ gb803));have n5_:=Aside0.mk ((by rw [hg];exact Nat.ne_of_lt (blk_lt (g:=gb801) (o:=.cells #[.int .i64 0,.string (⟨#[]⟩ : ByteArray),.int .i64 0,.int .i64 0] 60 (0,0)) (by (with_reducible repeat (first|refine blk_drewN ?_ _|refine blk_drew ?_|refine blk_alloc ?_ _));exact BK801.out)) : gb801 ≠ gb803));have n6_:=Aside0.mk ((by rw [hg];exact Nat.ne_of_gt (blk_lt (g:=gb801) (o:=.cells #[.int .i64 0,.string (⟨#[]⟩ : ByteArray),.int .i64 0,.int .i64 0] 60 (0,0)) (by (with_reducible repeat (first|refine blk_drewN ?_ _|refine blk_drew ?_|refine blk_alloc ?_ _));exact BK801.out)) : gb803 ≠ gb801));clear BK801;clear HB;have BK801:=n0_;have HB:=n1_;have BK803:=n2_;have GW803:=n3_;have GE803:=n4_;have NB801_803:=n5_;have NB803_801:=n6_;clear n0_ n1_ n2_ n3_ n4_ n5_ n6_;clear hb hbox hg;have hnb43:=NB803_801.out;have hnc43:=NB801_803.out;have hcz44_0 : w42.cell? ⟨gb803,0,none⟩ = some (.int .i64 0):=(blk_cell BK803.out 0).trans rfl;have hcz44_1 : w42.cell? ⟨gb803,1,none⟩ = some (.string (⟨#[]⟩ : ByteArray)):=(blk_cell BK803.out 1).trans rfl;have hcz44_2 : w42.cell? ⟨gb803,2,none⟩ = some (.int .i64 0):=(blk_cell BK803.out 2).trans rfl;have hcz44_3 : w42.cell? ⟨gb803,3,none⟩ = some (.int .i64 0):=(blk_cell BK803.out 3).trans rfl;have hfz44_0:=blk_frozen BK803.out 0;have hfz44_1:=blk_frozen BK803.out 1;have hfz44_2:=blk_frozen BK803.out 2;have hfz44_3:=blk_frozen BK803.out 3)|((with_reducible refine gate_callee (f:=119) rfl ?_);refine goesL_ (some 34) rfl rfl Tryd.func119 (by kernel_rfl) rfl #[.string (a0.extract (a1 : Int).toNat (x6_2 : Int).toNat)] rfl (by (try simp only [List.map_toArray,List.map_cons,List.map_nil]);first|done|rfl|(simp only [List.length_drop,List.length_take];rfl)) ?_;(with_reducible refine (spec_IsWord.calls kj2 (a0.extract (a1 : Int).toNat (x6_2 : Int).toNat) false _ A18.out).mono ?_);rintro e w45 ⟨rfl,hb⟩;refine ⟨_,rfl,?_⟩;have n0_:=Aside0.mk (blk_below (g:=gb801) (o:=.cells #[.int .i64 0,.string (⟨#[]⟩ : ByteArray),.int .i64 0,.int .i64 0] 60 (0,0)) (by (with_reducible repeat (first|refine blk_drewN ?_ _|refine blk_drew ?_|refine blk_alloc ?_ _));refine blk_far ?_ NB801_803.out _;(with_reducible repeat (first|refine blk_drewN ?_ _|refine blk_drew ?_|refine blk_alloc ?_ _));refine blk_far ?_ NB801_803.out _;(with_reducible repeat (first|refine blk_drewN ?_ _|refine blk_drew ?_|refine blk_alloc ?_ _));refine blk_far ?_ NB801_803.out _;(with_reducible repeat (first|refine blk_drewN ?_ _|refine blk_drew ?_|refine blk_alloc ?_ _));refine blk_far ?_ NB801_803.out _;(with_reducible repeat (first|refine blk_drewN ?_ _|refine blk_drew ?_|refine blk_alloc ?_ _));exact BK801.out) hb);have n1_:=Aside0.mk (blk_below (g:=gb803) (o:=.cells #[.int .i64 4,.string (a0.extract (a1 : Int).toNat (x6_2 : Int).toNat),.int .i64 0,.int .i64 a1] 60 (0,0)) (by (with_reducible repeat (first|refine blk_drewN ?_ _|refine blk_drew ?_|refine blk_alloc ?_ _));refine blk_put (cs:=#[.int .i64 4,.string (a0.extract (a1 : Int).toNat (x6_2 : Int).toNat),.int .i64 0,.int .i64 0]) ?_ 3 _ rfl;(with_reducible repeat (first|refine blk_drewN ?_ _|refine blk_drew ?_|refine blk_alloc ?_ _));refine blk_put (cs:=#[.int .i64 4,.string (a0.extract (a1 : Int).toNat (x6_2 : Int).toNat),.int .i64 0,.int .i64 0]) ?_ 2 _ rfl;(with_reducible repeat (first|refine blk_drewN ?_ _|refine blk_drew ?_|refine blk_alloc ?_ _));refine blk_put (cs:=#[.int .i64 4,.string (⟨#[]⟩ : ByteArray),.int .i64 0,.int .i64 0]) ?_ 1 _ rfl;(with_reducible repeat (first|refine blk_drewN ?_ _|refine blk_drew ?_|refine blk_alloc ?_ _));refine blk_put (cs:=#[.int .i64 0,.string (⟨#[]⟩ : ByteArray),.int .i64 0,.int .i64 0]) ?_ 0 _ rfl;(with_reducible repeat (first|refine blk_drewN ?_ _|refine blk_drew ?_|refine blk_alloc ?_ _));exact BK803.out) hb);have n2_:=Aside0.mk (below_step (by repeat (first|(with_reducible first|exact HB.out|apply below_alloc|apply pw_below_drewN|apply below_drew1|refine below_set ?_ GE801.out|refine below_set ?_ GE803.out)|exact HB.out)) hb);clear BK801;clear BK803;clear HB;have BK801:=n0_;have BK803:=n1_;have HB:=n2_;clear n0_ n1_ n2_;(try clear hb);(try clear hb2);(try clear hk);(try clear hi);have hcz46_0 : w45.cell? ⟨gb803,0,none⟩ = some (.int .i64 4):=(blk_cell BK803.out 0).trans rfl;have hcz46_1 : w45.cell? ⟨gb803,1,none⟩ = some (.string (a0.extract (a1 : Int).toNat (x6_2 : Int).toNat)):=(blk_cell BK803.out 1).trans rfl;have hcz46_2 : w45.cell? ⟨gb803,2,none⟩ = some (.int .i64 0):=(blk_cell BK803.out 2).trans rfl;have hcz46_3 : w45.cell? ⟨gb803,3,none⟩ = some (.int .i64 a1):=(blk_cell BK803.out 3).trans rfl;have hfz46_0:=blk_frozen BK803.out 0;have hfz46_1:=blk_frozen BK803.out 1;have hfz46_2:=blk_frozen BK803.out 2;have hfz46_3:=blk_frozen BK803.out 3;have hcz47_0 : w45.cell? ⟨gb801,0,none⟩ = some (.int .i64 0):=(blk_cell BK801.out 0).trans rfl;have hcz47_1 : w45.cell? ⟨gb801,1,none⟩ = some (.string (⟨#[]⟩ : ByteArray)):=(blk_cell BK801.out 1).trans rfl;have hcz47_2 : w45.cell? ⟨gb801,2,none⟩ = some (.int .i64 0):=(blk_cell BK801.out 2).trans rfl;have hcz47_3 : w45.cell? ⟨gb801,3,none⟩ = some (.int .i64 0):=(blk_cell BK801.out 3).trans rfl;have hfz47_0:=blk_frozen BK801.out 0;have hfz47_1:=blk_frozen BK801.out 1;have hfz47_2:=blk_frozen BK801.out 2;have hfz47_3:=blk_frozen BK801.out 3))
         refine bodyPost_ret (results_ct rfl _ _ gb801 60 #[.int .i64 4,.string (a0.extract (a1 : Int).toNat (x6_2 : Int).toNat),.int .i64 0,.int .i64 a1] (0,0) _ rfl (by (with_reducible repeat (first|refine blk_drewN ?_ _|refine blk_drew ?_|refine blk_alloc ?_ _));refine blk_put (cs:=#[.int .i64 4,.string (a0.extract (a1 : Int).toNat (x6_2 : Int).toNat),.int .i64 0,.int .i64 0]) ?_ 3 _ rfl;(with_reducible repeat (first|refine blk_drewN ?_ _|refine blk_drew ?_|refine blk_alloc ?_ _));refine blk_put (cs:=#[.int .i64 4,.string (a0.extract (a1 : Int).toNat (x6_2 : Int).toNat),.int .i64 0,.int .i64 0]) ?_ 2 _ rfl;(with_reducible repeat (first|refine blk_drewN ?_ _|refine blk_drew ?_|refine blk_alloc ?_ _));refine blk_put (cs:=#[.int .i64 4,.string (⟨#[]⟩ : ByteArray),.int .i64 0,.int .i64 0]) ?_ 1 _ rfl;(with_reducible repeat (first|refine blk_drewN ?_ _|refine blk_drew ?_|refine blk_alloc ?_ _));refine blk_put (cs:=#[.int .i64 0,.string (⟨#[]⟩ : ByteArray),.int .i64 0,.int .i64 0]) ?_ 0 _ rfl;(with_reducible repeat (first|refine blk_drewN ?_ _|refine blk_drew ?_|refine blk_alloc ?_ _));exact BK801.out) Tryd.underlying60 rfl (by kernel_rfl)) rfl ?_
         exact ⟨by first|rfl|(simp [errW_none,errW_some] <;> rfl)|(simp [*,errW_none,errW_some] <;> rfl),by repeat (first|(with_reducible first|exact HB.out|apply below_alloc|apply pw_below_drewN|apply below_drew1|refine below_set ?_ GE801.out|refine below_set ?_ GE803.out)|exact HB.out)⟩
     ·rw [if_neg c12] at H
      exact absurd H (by simp)
    ·rw [if_neg c11] at H
     exact absurd H (by simp)
   ·rw [if_neg c10] at H
    exact absurd H (by simp)
def spec_l3operand.f (l0 : List (S60)) : Option (Bool):=if (l0.length : Int) = 0 then (some false) else (if 0 ≤ (wrap64 ((l0.length : Int) - 1)) then (if (wrap64 ((l0.length : Int) - 1)) < (l0.length : Int) then (if ((rd_T60 l0 (wrap64 ((l0.length : Int) - 1))).f0) = 1 then (some true) else (if ((rd_T60 l0 (wrap64 ((l0.length : Int) - 1))).f0) = 2 then (some true) else (if ((rd_T60 l0 (wrap64 ((l0.length : Int) - 1))).f0) = 3 then (some true) else (if ((rd_T60 l0 (wrap64 ((l0.length : Int) - 1))).f0) = 4 then (some true) else (if ((rd_T60 l0 (wrap64 ((l0.length : Int) - 1))).f0) = 7 then (if ((rd_T60 l0 (wrap64 ((l0.length : Int) - 1))).f1).toList = ([41] : List UInt8) then (some true) else (some (((rd_T60 l0 (wrap64 ((l0.length : Int) - 1))).f1).toList == ([93] : List UInt8)))) else (some false)))))) else (none)) else (none))
set_option maxHeartbeats 8000000 in
set_option maxRecDepth 100000 in
theorem spec_l3operand.calls (A0 : Option Addr) (c0 : Nat) (l0 : List (S60)) (r : Bool) (w : World) (hr0 : Kd.C k60 w A0 l0.length l0) (hc0 : l0.length ≤ c0) (h : spec_l3operand.f l0 = some r) :
  Calls Tryd.prog 84 #[.slice A0 l0.length c0] w fun e w'=>e = .returned (.bool r) ∧ Below w.heap.size w w':=by
 have hu60:=Tryd.underlying60
 have HR0:=Aside0.mk hr0
 have HC0:=Aside0.mk hc0
 clear hr0 hc0
 have HB:=Aside0.mk (Below.refl w.heap.size w)
 have H : (if (l0.length : Int) = 0 then (some false) else (if 0 ≤ (wrap64 ((l0.length : Int) - 1)) then (if (wrap64 ((l0.length : Int) - 1)) < (l0.length : Int) then (if ((rd_T60 l0 (wrap64 ((l0.length : Int) - 1))).f0) = 1 then (some true) else (if ((rd_T60 l0 (wrap64 ((l0.length : Int) - 1))).f0) = 2 then (some true) else (if ((rd_T60 l0 (wrap64 ((l0.length : Int) - 1))).f0) = 3 then (some true) else (if ((rd_T60 l0 (wrap64 ((l0.length : Int) - 1))).f0) = 4 then (some true) else (if ((rd_T60 l0 (wrap64 ((l0.length : Int) - 1))).f0) = 7 then (if ((rd_T60 l0 (wrap64 ((l0.length : Int) - 1))).f1).toList = ([41] : List UInt8) then (some true) else (some (((rd_T60 l0 (wrap64 ((l0.length : Int) - 1))).f1).toList == ([93] : List UInt8)))) else (some false)))))) else (none)) else (none))) = some r:=h
 clear h
 by_cases c2 : (l0.length : Int) = 0
 ·rw [if_pos c2] at H
  have c2b0 : ((l0.length : Int) == 0) = true:=beq_iff_eq.mpr c2
  have c2b1 : ((l0.length : Int) != 0) = false:=bne_eq_false_iff_eq.mpr c2
  clear c2
  obtain rfl:=Option.some.inj H
  go_enter Tryd.func84,Tryd.ntmps84
  go_wp2
  go_ret
  exact ⟨by first|rfl|(simp [errW_none,errW_some] <;> rfl)|(simp [*,errW_none,errW_some] <;> rfl),by repeat (first|(with_reducible first|exact HB.out|apply below_alloc|apply pw_below_drewN|apply below_drew1)|exact HB.out)⟩
 ·rw [if_neg c2] at H
  have c2b0 : ((l0.length : Int) == 0) = false:=beq_eq_false_iff_ne.mpr c2
  have c2b1 : ((l0.length : Int) != 0) = true:=bne_iff_ne.mpr c2
  have c2b2 : ¬ (l0 = []):=fun h_=>c2 (by rw [h_];rfl)
  obtain ⟨ji3,hji3⟩ : ∃ j_ : Int,(wrap64 ((l0.length : Int) - 1)) = j_:=⟨_,rfl⟩
  replace H : (if 0 ≤ (ji3) then (if (ji3) < (l0.length : Int) then (if ((rd_T60 l0 (ji3)).f0) = 1 then (some true) else (if ((rd_T60 l0 (ji3)).f0) = 2 then (some true) else (if ((rd_T60 l0 (ji3)).f0) = 3 then (some true) else (if ((rd_T60 l0 (ji3)).f0) = 4 then (some true) else (if ((rd_T60 l0 (ji3)).f0) = 7 then (if ((rd_T60 l0 (ji3)).f1).toList = ([41] : List UInt8) then (some true) else (some (((rd_T60 l0 (ji3)).f1).toList == ([93] : List UInt8)))) else (some false)))))) else (none)) else (none)) = some r:=by first|(rw [hji3] at H;exact H)|(simp only [hji3] at H ⊢;exact H)
  have hji3w : (IntKind.i64.wrap ((l0.length : Int) - 1)) = ji3:=(i64_w _).trans hji3
  by_cases c4 : 0 ≤ (ji3)
  ·rw [if_pos c4] at H
   have c4b0 : decide (0 ≤ (ji3)) = true:=decide_eq_true c4
   clear c4
   by_cases c5 : (ji3) < (l0.length : Int)
   ·rw [if_pos c5] at H
    have c5b0 : decide ((ji3) < (l0.length : Int)) = true:=decide_eq_true c5
    clear c5
    by_cases c6 : ((rd_T60 l0 (ji3)).f0) = 1
    ·rw [if_pos c6] at H
     have c6b0 : (((rd_T60 l0 (ji3)).f0) == 1) = true:=beq_iff_eq.mpr c6
     have c6b1 : (((rd_T60 l0 (ji3)).f0) != 1) = false:=bne_eq_false_iff_eq.mpr c6
     clear c6
     obtain rfl:=Option.some.inj H
     have p805 : 0 ≤ ((ji3) : Int):=of_decide_eq_true (by first|(with_reducible assumption)|assumption)
     have q805 : (ji3) < (l0.length : Int):=of_decide_eq_true (by first|(with_reducible assumption)|assumption)
     obtain ⟨ad805,e805,hx805_0,hx805_1,hx805_2,hx805_3⟩:=at_T60 HR0.out (ji3) p805 q805
     cases e805
     replace p805:=eq_true p805
     replace q805:=eq_true q805
     go_enter Tryd.func84,Tryd.ntmps84
     go_wp2_with (first|((with_reducible refine gate_dst (N:=3) rfl ?_);refine box_event ?hg (N:=3) ?hd (cs:=#[.int .i64 0,.string (⟨#[]⟩ : ByteArray),.int .i64 0,.int .i64 0]) (t:=60) ?hr ?_;(case hd=>rfl);(case hg=>rfl);(case hr=>first|(go_simp;done)|(go_simp;rfl));intro gb806 hg w7 hbox hb;have n0_:=Aside0.mk (below_step (by repeat (first|(with_reducible first|exact HB.out|apply below_alloc|apply pw_below_drewN|apply below_drew1)|exact HB.out)) hb);have n1_:=Aside0.mk (hbox);have n2_:=Aside0.mk ((by rw [hg];exact (below_size (by repeat (first|(with_reducible first|exact HB.out|apply below_alloc|apply pw_below_drewN|apply below_drew1)|exact HB.out))) : w.heap.size ≤ gb806));have n3_:=Aside0.mk ((by rw [hg];exact (below_size (by repeat (first|(with_reducible first|exact HB.out|apply below_alloc|apply pw_below_drewN|apply below_drew1)|exact HB.out))) : w.heap.size ≤ gb806));clear HB;have HB:=n0_;have BK806:=n1_;have GW806:=n2_;have GE806:=n3_;clear n0_ n1_ n2_ n3_;clear hb hbox hg;have hcz8_0 : w7.cell? ⟨gb806,0,none⟩ = some (.int .i64 0):=(blk_cell BK806.out 0).trans rfl;have hcz8_1 : w7.cell? ⟨gb806,1,none⟩ = some (.string (⟨#[]⟩ : ByteArray)):=(blk_cell BK806.out 1).trans rfl;have hcz8_2 : w7.cell? ⟨gb806,2,none⟩ = some (.int .i64 0):=(blk_cell BK806.out 2).trans rfl;have hcz8_3 : w7.cell? ⟨gb806,3,none⟩ = some (.int .i64 0):=(blk_cell BK806.out 3).trans rfl;have hfz8_0:=blk_frozen BK806.out 0;have hfz8_1:=blk_frozen BK806.out 1;have hfz8_2:=blk_frozen BK806.out 2;have hfz8_3:=blk_frozen BK806.out 3))
     go_ret
     exact ⟨by first|rfl|(simp [errW_none,errW_some] <;> rfl)|(simp only [← hji3];first|rfl|(simp [errW_none,errW_some] <;> rfl))|(simp [*,errW_none,errW_some] <;> rfl),by repeat (first|(with_reducible first|exact HB.out|apply below_alloc|apply pw_below_drewN|apply below_drew1|refine below_set ?_ GE806.out)|exact HB.out)⟩
    ·rw [if_neg c6] at H
     have c6b0 : (((rd_T60 l0 (ji3)).f0) == 1) = false:=beq_eq_false_iff_ne.mpr c6
     have c6b1 : (((rd_T60 l0 (ji3)).f0) != 1) = true:=bne_iff_ne.mpr c6
     by_cases c9 : ((rd_T60 l0 (ji3)).f0) = 2
     ·rw [if_pos c9] at H
      have c9b0 : (((rd_T60 l0 (ji3)).f0) == 2) = true:=beq_iff_eq.mpr c9
      have c9b1 : (((rd_T60 l0 (ji3)).f0) != 2) = false:=bne_eq_false_iff_eq.mpr c9
      clear c9
      obtain rfl:=Option.some.inj H
      have p805 : 0 ≤ ((ji3) : Int):=of_decide_eq_true (by first|(with_reducible assumption)|assumption)
      have q805 : (ji3) < (l0.length : Int):=of_decide_eq_true (by first|(with_reducible assumption)|assumption)
      obtain ⟨ad805,e805,hx805_0,hx805_1,hx805_2,hx805_3⟩:=at_T60 HR0.out (ji3) p805 q805
      cases e805
      replace p805:=eq_true p805
      replace q805:=eq_true q805
      go_enter Tryd.func84,Tryd.ntmps84
      go_wp2_with (first|((with_reducible refine gate_dst (N:=3) rfl ?_);refine box_event ?hg (N:=3) ?hd (cs:=#[.int .i64 0,.string (⟨#[]⟩ : ByteArray),.int .i64 0,.int .i64 0]) (t:=60) ?hr ?_;(case hd=>rfl);(case hg=>rfl);(case hr=>first|(go_simp;done)|(go_simp;rfl));intro gb806 hg w10 hbox hb;have n0_:=Aside0.mk (below_step (by repeat (first|(with_reducible first|exact HB.out|apply below_alloc|apply pw_below_drewN|apply below_drew1)|exact HB.out)) hb);have n1_:=Aside0.mk (hbox);have n2_:=Aside0.mk ((by rw [hg];exact (below_size (by repeat (first|(with_reducible first|exact HB.out|apply below_alloc|apply pw_below_drewN|apply below_drew1)|exact HB.out))) : w.heap.size ≤ gb806));have n3_:=Aside0.mk ((by rw [hg];exact (below_size (by repeat (first|(with_reducible first|exact HB.out|apply below_alloc|apply pw_below_drewN|apply below_drew1)|exact HB.out))) : w.heap.size ≤ gb806));clear HB;have HB:=n0_;have BK806:=n1_;have GW806:=n2_;have GE806:=n3_;clear n0_ n1_ n2_ n3_;clear hb hbox hg;have hcz11_0 : w10.cell? ⟨gb806,0,none⟩ = some (.int .i64 0):=(blk_cell BK806.out 0).trans rfl;have hcz11_1 : w10.cell? ⟨gb806,1,none⟩ = some (.string (⟨#[]⟩ : ByteArray)):=(blk_cell BK806.out 1).trans rfl;have hcz11_2 : w10.cell? ⟨gb806,2,none⟩ = some (.int .i64 0):=(blk_cell BK806.out 2).trans rfl;have hcz11_3 : w10.cell? ⟨gb806,3,none⟩ = some (.int .i64 0):=(blk_cell BK806.out 3).trans rfl;have hfz11_0:=blk_frozen BK806.out 0;have hfz11_1:=blk_frozen BK806.out 1;have hfz11_2:=blk_frozen BK806.out 2;have hfz11_3:=blk_frozen BK806.out 3))
      go_ret
      exact ⟨by first|rfl|(simp [errW_none,errW_some] <;> rfl)|(simp only [← hji3];first|rfl|(simp [errW_none,errW_some] <;> rfl))|(simp [*,errW_none,errW_some] <;> rfl),by repeat (first|(with_reducible first|exact HB.out|apply below_alloc|apply pw_below_drewN|apply below_drew1|refine below_set ?_ GE806.out)|exact HB.out)⟩
     ·rw [if_neg c9] at H
      have c9b0 : (((rd_T60 l0 (ji3)).f0) == 2) = false:=beq_eq_false_iff_ne.mpr c9
      have c9b1 : (((rd_T60 l0 (ji3)).f0) != 2) = true:=bne_iff_ne.mpr c9
      by_cases c12 : ((rd_T60 l0 (ji3)).f0) = 3
      ·rw [if_pos c12] at H
       have c12b0 : (((rd_T60 l0 (ji3)).f0) == 3) = true:=beq_iff_eq.mpr c12
       have c12b1 : (((rd_T60 l0 (ji3)).f0) != 3) = false:=bne_eq_false_iff_eq.mpr c12
       clear c12
       obtain rfl:=Option.some.inj H
       have p805 : 0 ≤ ((ji3) : Int):=of_decide_eq_true (by first|(with_reducible assumption)|assumption)
       have q805 : (ji3) < (l0.length : Int):=of_decide_eq_true (by first|(with_reducible assumption)|assumption)
       obtain ⟨ad805,e805,hx805_0,hx805_1,hx805_2,hx805_3⟩:=at_T60 HR0.out (ji3) p805 q805
       cases e805
       replace p805:=eq_true p805
       replace q805:=eq_true q805
       go_enter Tryd.func84,Tryd.ntmps84
       go_wp2_with (first|((with_reducible refine gate_dst (N:=3) rfl ?_);refine box_event ?hg (N:=3) ?hd (cs:=#[.int .i64 0,.string (⟨#[]⟩ : ByteArray),.int .i64 0,.int .i64 0]) (t:=60) ?hr ?_;(case hd=>rfl);(case hg=>rfl);(case hr=>first|(go_simp;done)|(go_simp;rfl));intro gb806 hg w13 hbox hb;have n0_:=Aside0.mk (below_step (by repeat (first|(with_reducible first|exact HB.out|apply below_alloc|apply pw_below_drewN|apply below_drew1)|exact HB.out)) hb);have n1_:=Aside0.mk (hbox);have n2_:=Aside0.mk ((by rw [hg];exact (below_size (by repeat (first|(with_reducible first|exact HB.out|apply below_alloc|apply pw_below_drewN|apply below_drew1)|exact HB.out))) : w.heap.size ≤ gb806));have n3_:=Aside0.mk ((by rw [hg];exact (below_size (by repeat (first|(with_reducible first|exact HB.out|apply below_alloc|apply pw_below_drewN|apply below_drew1)|exact HB.out))) : w.heap.size ≤ gb806));clear HB;have HB:=n0_;have BK806:=n1_;have GW806:=n2_;have GE806:=n3_;clear n0_ n1_ n2_ n3_;clear hb hbox hg;have hcz14_0 : w13.cell? ⟨gb806,0,none⟩ = some (.int .i64 0):=(blk_cell BK806.out 0).trans rfl;have hcz14_1 : w13.cell? ⟨gb806,1,none⟩ = some (.string (⟨#[]⟩ : ByteArray)):=(blk_cell BK806.out 1).trans rfl;have hcz14_2 : w13.cell? ⟨gb806,2,none⟩ = some (.int .i64 0):=(blk_cell BK806.out 2).trans rfl;have hcz14_3 : w13.cell? ⟨gb806,3,none⟩ = some (.int .i64 0):=(blk_cell BK806.out 3).trans rfl;have hfz14_0:=blk_frozen BK806.out 0;have hfz14_1:=blk_frozen BK806.out 1;have hfz14_2:=blk_frozen BK806.out 2;have hfz14_3:=blk_frozen BK806.out 3))
       go_ret
       exact ⟨by first|rfl|(simp [errW_none,errW_some] <;> rfl)|(simp only [← hji3];first|rfl|(simp [errW_none,errW_some] <;> rfl))|(simp [*,errW_none,errW_some] <;> rfl),by repeat (first|(with_reducible first|exact HB.out|apply below_alloc|apply pw_below_drewN|apply below_drew1|refine below_set ?_ GE806.out)|exact HB.out)⟩
      ·rw [if_neg c12] at H
       have c12b0 : (((rd_T60 l0 (ji3)).f0) == 3) = false:=beq_eq_false_iff_ne.mpr c12
       have c12b1 : (((rd_T60 l0 (ji3)).f0) != 3) = true:=bne_iff_ne.mpr c12
       by_cases c15 : ((rd_T60 l0 (ji3)).f0) = 4
       ·rw [if_pos c15] at H
        have c15b0 : (((rd_T60 l0 (ji3)).f0) == 4) = true:=beq_iff_eq.mpr c15
        have c15b1 : (((rd_T60 l0 (ji3)).f0) != 4) = false:=bne_eq_false_iff_eq.mpr c15
        clear c15
        obtain rfl:=Option.some.inj H
        have p805 : 0 ≤ ((ji3) : Int):=of_decide_eq_true (by first|(with_reducible assumption)|assumption)
        have q805 : (ji3) < (l0.length : Int):=of_decide_eq_true (by first|(with_reducible assumption)|assumption)
        obtain ⟨ad805,e805,hx805_0,hx805_1,hx805_2,hx805_3⟩:=at_T60 HR0.out (ji3) p805 q805
        cases e805
        replace p805:=eq_true p805
        replace q805:=eq_true q805
        go_enter Tryd.func84,Tryd.ntmps84
        go_wp2_with (first|((with_reducible refine gate_dst (N:=3) rfl ?_);refine box_event ?hg (N:=3) ?hd (cs:=#[.int .i64 0,.string (⟨#[]⟩ : ByteArray),.int .i64 0,.int .i64 0]) (t:=60) ?hr ?_;(case hd=>rfl);(case hg=>rfl);(case hr=>first|(go_simp;done)|(go_simp;rfl));intro gb806 hg w16 hbox hb;have n0_:=Aside0.mk (below_step (by repeat (first|(with_reducible first|exact HB.out|apply below_alloc|apply pw_below_drewN|apply below_drew1)|exact HB.out)) hb);have n1_:=Aside0.mk (hbox);have n2_:=Aside0.mk ((by rw [hg];exact (below_size (by repeat (first|(with_reducible first|exact HB.out|apply below_alloc|apply pw_below_drewN|apply below_drew1)|exact HB.out))) : w.heap.size ≤ gb806));have n3_:=Aside0.mk ((by rw [hg];exact (below_size (by repeat (first|(with_reducible first|exact HB.out|apply below_alloc|apply pw_below_drewN|apply below_drew1)|exact HB.out))) : w.heap.size ≤ gb806));clear HB;have HB:=n0_;have BK806:=n1_;have GW806:=n2_;have GE806:=n3_;clear n0_ n1_ n2_ n3_;clear hb hbox hg;have hcz17_0 : w16.cell? ⟨gb806,0,none⟩ = some (.int .i64 0):=(blk_cell BK806.out 0).trans rfl;have hcz17_1 : w16.cell? ⟨gb806,1,none⟩ = some (.string (⟨#[]⟩ : ByteArray)):=(blk_cell BK806.out 1).trans rfl;have hcz17_2 : w16.cell? ⟨gb806,2,none⟩ = some (.int .i64 0):=(blk_cell BK806.out 2).trans rfl;have hcz17_3 : w16.cell? ⟨gb806,3,none⟩ = some (.int .i64 0):=(blk_cell BK806.out 3).trans rfl;have hfz17_0:=blk_frozen BK806.out 0;have hfz17_1:=blk_frozen BK806.out 1;have hfz17_2:=blk_frozen BK806.out 2;have hfz17_3:=blk_frozen BK806.out 3))
        go_ret
        exact ⟨by first|rfl|(simp [errW_none,errW_some] <;> rfl)|(simp only [← hji3];first|rfl|(simp [errW_none,errW_some] <;> rfl))|(simp [*,errW_none,errW_some] <;> rfl),by repeat (first|(with_reducible first|exact HB.out|apply below_alloc|apply pw_below_drewN|apply below_drew1|refine below_set ?_ GE806.out)|exact HB.out)⟩
       ·rw [if_neg c15] at H
        have c15b0 : (((rd_T60 l0 (ji3)).f0) == 4) = false:=beq_eq_false_iff_ne.mpr c15
        have c15b1 : (((rd_T60 l0 (ji3)).f0) != 4) = true:=bne_iff_ne.mpr c15
        by_cases c18 : ((rd_T60 l0 (ji3)).f0) = 7
        ·rw [if_pos c18] at H
         have c18b0 : (((rd_T60 l0 (ji3)).f0) == 7) = true:=beq_iff_eq.mpr c18
         have c18b1 : (((rd_T60 l0 (ji3)).f0) != 7) = false:=bne_eq_false_iff_eq.mpr c18
         clear c18
         by_cases c19 : ((rd_T60 l0 (ji3)).f1).toList = ([41] : List UInt8)
         ·rw [if_pos c19] at H
          have c19b0 : (((rd_T60 l0 (ji3)).f1).toList == ([41] : List UInt8)) = true:=beq_iff_eq.mpr c19
          have c19b1 : (((rd_T60 l0 (ji3)).f1).toList != ([41] : List UInt8)) = false:=bne_eq_false_iff_eq.mpr c19
          clear c19
          obtain rfl:=Option.some.inj H
          have p805 : 0 ≤ ((ji3) : Int):=of_decide_eq_true (by first|(with_reducible assumption)|assumption)
          have q805 : (ji3) < (l0.length : Int):=of_decide_eq_true (by first|(with_reducible assumption)|assumption)
          obtain ⟨ad805,e805,hx805_0,hx805_1,hx805_2,hx805_3⟩:=at_T60 HR0.out (ji3) p805 q805
          cases e805
          replace p805:=eq_true p805
          replace q805:=eq_true q805
          go_enter Tryd.func84,Tryd.ntmps84
          go_wp2_with (first|((with_reducible refine gate_dst (N:=3) rfl ?_);refine box_event ?hg (N:=3) ?hd (cs:=#[.int .i64 0,.string (⟨#[]⟩ : ByteArray),.int .i64 0,.int .i64 0]) (t:=60) ?hr ?_;(case hd=>rfl);(case hg=>rfl);(case hr=>first|(go_simp;done)|(go_simp;rfl));intro gb806 hg w20 hbox hb;have n0_:=Aside0.mk (below_step (by repeat (first|(with_reducible first|exact HB.out|apply below_alloc|apply pw_below_drewN|apply below_drew1)|exact HB.out)) hb);have n1_:=Aside0.mk (hbox);have n2_:=Aside0.mk ((by rw [hg];exact (below_size (by repeat (first|(with_reducible first|exact HB.out|apply below_alloc|apply pw_below_drewN|apply below_drew1)|exact HB.out))) : w.heap.size ≤ gb806));have n3_:=Aside0.mk ((by rw [hg];exact (below_size (by repeat (first|(with_reducible first|exact HB.out|apply below_alloc|apply pw_below_drewN|apply below_drew1)|exact HB.out))) : w.heap.size ≤ gb806));clear HB;have HB:=n0_;have BK806:=n1_;have GW806:=n2_;have GE806:=n3_;clear n0_ n1_ n2_ n3_;clear hb hbox hg;have hcz21_0 : w20.cell? ⟨gb806,0,none⟩ = some (.int .i64 0):=(blk_cell BK806.out 0).trans rfl;have hcz21_1 : w20.cell? ⟨gb806,1,none⟩ = some (.string (⟨#[]⟩ : ByteArray)):=(blk_cell BK806.out 1).trans rfl;have hcz21_2 : w20.cell? ⟨gb806,2,none⟩ = some (.int .i64 0):=(blk_cell BK806.out 2).trans rfl;have hcz21_3 : w20.cell? ⟨gb806,3,none⟩ = some (.int .i64 0):=(blk_cell BK806.out 3).trans rfl;have hfz21_0:=blk_frozen BK806.out 0;have hfz21_1:=blk_frozen BK806.out 1;have hfz21_2:=blk_frozen BK806.out 2;have hfz21_3:=blk_frozen BK806.out 3))
          go_ret
          exact ⟨by first|rfl|(simp [errW_none,errW_some] <;> rfl)|(simp only [← hji3];first|rfl|(simp [errW_none,errW_some] <;> rfl))|(simp [*,errW_none,errW_some] <;> rfl),by repeat (first|(with_reducible first|exact HB.out|apply below_alloc|apply pw_below_drewN|apply below_drew1|refine below_set ?_ GE806.out)|exact HB.out)⟩
         ·rw [if_neg c19] at H
          have c19b0 : (((rd_T60 l0 (ji3)).f1).toList == ([41] : List UInt8)) = false:=beq_eq_false_iff_ne.mpr c19
          have c19b1 : (((rd_T60 l0 (ji3)).f1).toList != ([41] : List UInt8)) = true:=bne_iff_ne.mpr c19
          obtain rfl:=Option.some.inj H
          have p805 : 0 ≤ ((ji3) : Int):=of_decide_eq_true (by first|(with_reducible assumption)|assumption)
          have q805 : (ji3) < (l0.length : Int):=of_decide_eq_true (by first|(with_reducible assumption)|assumption)
          obtain ⟨ad805,e805,hx805_0,hx805_1,hx805_2,hx805_3⟩:=at_T60 HR0.out (ji3) p805 q805
          cases e805
          replace p805:=eq_true p805
          replace q805:=eq_true q805
          go_enter Tryd.func84,Tryd.ntmps84
          go_wp2_with (first|((with_reducible refine gate_dst (N:=3) rfl ?_);refine box_event ?hg (N:=3) ?hd (cs:=#[.int .i64 0,.string (⟨#[]⟩ : ByteArray),.int .i64 0,.int .i64 0]) (t:=60) ?hr ?_;(case hd=>rfl);(case hg=>rfl);(case hr=>first|(go_simp;done)|(go_simp;rfl));intro gb806 hg w22 hbox hb;have n0_:=Aside0.mk (below_step (by repeat (first|(with_reducible first|exact HB.out|apply below_alloc|apply pw_below_drewN|apply below_drew1)|exact HB.out)) hb);have n1_:=Aside0.mk (hbox);have n2_:=Aside0.mk ((by rw [hg];exact (below_size (by repeat (first|(with_reducible first|exact HB.out|apply below_alloc|apply pw_below_drewN|apply below_drew1)|exact HB.out))) : w.heap.size ≤ gb806));have n3_:=Aside0.mk ((by rw [hg];exact (below_size (by repeat (first|(with_reducible first|exact HB.out|apply below_alloc|apply pw_below_drewN|apply below_drew1)|exact HB.out))) : w.heap.size ≤ gb806));clear HB;have HB:=n0_;have BK806:=n1_;have GW806:=n2_;have GE806:=n3_;clear n0_ n1_ n2_ n3_;clear hb hbox hg;have hcz23_0 : w22.cell? ⟨gb806,0,none⟩ = some (.int .i64 0):=(blk_cell BK806.out 0).trans rfl;have hcz23_1 : w22.cell? ⟨gb806,1,none⟩ = some (.string (⟨#[]⟩ : ByteArray)):=(blk_cell BK806.out 1).trans rfl;have hcz23_2 : w22.cell? ⟨gb806,2,none⟩ = some (.int .i64 0):=(blk_cell BK806.out 2).trans rfl;have hcz23_3 : w22.cell? ⟨gb806,3,none⟩ = some (.int .i64 0):=(blk_cell BK806.out 3).trans rfl;have hfz23_0:=blk_frozen BK806.out 0;have hfz23_1:=blk_frozen BK806.out 1;have hfz23_2:=blk_frozen BK806.out 2;have hfz23_3:=blk_frozen BK806.out 3))
          go_ret
          exact ⟨by first|rfl|(simp [errW_none,errW_some] <;> rfl)|(simp only [← hji3];first|rfl|(simp [errW_none,errW_some] <;> rfl))|(simp [*,errW_none,errW_some] <;> rfl),by repeat (first|(with_reducible first|exact HB.out|apply below_alloc|apply pw_below_drewN|apply below_drew1|refine below_set ?_ GE806.out)|exact HB.out)⟩
        ·rw [if_neg c18] at H
         have c18b0 : (((rd_T60 l0 (ji3)).f0) == 7) = false:=beq_eq_false_iff_ne.mpr c18
         have c18b1 : (((rd_T60 l0 (ji3)).f0) != 7) = true:=bne_iff_ne.mpr c18
         obtain rfl:=Option.some.inj H
         have p805 : 0 ≤ ((ji3) : Int):=of_decide_eq_true (by first|(with_reducible assumption)|assumption)
         have q805 : (ji3) < (l0.length : Int):=of_decide_eq_true (by first|(with_reducible assumption)|assumption)
         obtain ⟨ad805,e805,hx805_0,hx805_1,hx805_2,hx805_3⟩:=at_T60 HR0.out (ji3) p805 q805
         cases e805
         replace p805:=eq_true p805
         replace q805:=eq_true q805
         go_enter Tryd.func84,Tryd.ntmps84
         go_wp2_with (first|((with_reducible refine gate_dst (N:=3) rfl ?_);refine box_event ?hg (N:=3) ?hd (cs:=#[.int .i64 0,.string (⟨#[]⟩ : ByteArray),.int .i64 0,.int .i64 0]) (t:=60) ?hr ?_;(case hd=>rfl);(case hg=>rfl);(case hr=>first|(go_simp;done)|(go_simp;rfl));intro gb806 hg w24 hbox hb;have n0_:=Aside0.mk (below_step (by repeat (first|(with_reducible first|exact HB.out|apply below_alloc|apply pw_below_drewN|apply below_drew1)|exact HB.out)) hb);have n1_:=Aside0.mk (hbox);have n2_:=Aside0.mk ((by rw [hg];exact (below_size (by repeat (first|(with_reducible first|exact HB.out|apply below_alloc|apply pw_below_drewN|apply below_drew1)|exact HB.out))) : w.heap.size ≤ gb806));have n3_:=Aside0.mk ((by rw [hg];exact (below_size (by repeat (first|(with_reducible first|exact HB.out|apply below_alloc|apply pw_below_drewN|apply below_drew1)|exact HB.out))) : w.heap.size ≤ gb806));clear HB;have HB:=n0_;have BK806:=n1_;have GW806:=n2_;have GE806:=n3_;clear n0_ n1_ n2_ n3_;clear hb hbox hg;have hcz25_0 : w24.cell? ⟨gb806,0,none⟩ = some (.int .i64 0):=(blk_cell BK806.out 0).trans rfl;have hcz25_1 : w24.cell? ⟨gb806,1,none⟩ = some (.string (⟨#[]⟩ : ByteArray)):=(blk_cell BK806.out 1).trans rfl;have hcz25_2 : w24.cell? ⟨gb806,2,none⟩ = some (.int .i64 0):=(blk_cell BK806.out 2).trans rfl;have hcz25_3 : w24.cell? ⟨gb806,3,none⟩ = some (.int .i64 0):=(blk_cell BK806.out 3).trans rfl;have hfz25_0:=blk_frozen BK806.out 0;have hfz25_1:=blk_frozen BK806.out 1;have hfz25_2:=blk_frozen BK806.out 2;have hfz25_3:=blk_frozen BK806.out 3))
         go_ret
         exact ⟨by first|rfl|(simp [errW_none,errW_some] <;> rfl)|(simp only [← hji3];first|rfl|(simp [errW_none,errW_some] <;> rfl))|(simp [*,errW_none,errW_some] <;> rfl),by repeat (first|(with_reducible first|exact HB.out|apply below_alloc|apply pw_below_drewN|apply below_drew1|refine below_set ?_ GE806.out)|exact HB.out)⟩
   ·rw [if_neg c5] at H
    exact absurd H (by simp)
  ·rw [if_neg c4] at H
   exact absurd H (by simp)
def spec_l3re.l0 : Nat → ByteArray → Int → Int → Option (Int × ByteArray × Int × Int × Int)
 | 0,_,_,_=>none
 | k + 1,x0,x1,x6=>if x6 < (x0.size : Int) then (if 0 ≤ x6 then (if (bt x0 x6) = 47 then (if 0 ≤ (wrap64 (x1 + 1)) then (if (wrap64 (x1 + 1)) ≤ x6 then (if x6 ≤ (x0.size : Int) then (some (3,x0.extract ((wrap64 (x1 + 1)) : Int).toNat (x6 : Int).toNat,0,x1,wrap64 (x6 + 1))) else (none)) else (none)) else (none)) else (if (bt x0 x6) = 92 then (if (wrap64 (x6 + 1)) ≥ (x0.size : Int) then (some (0,(⟨#[]⟩ : ByteArray),0,0,(-1))) else (if 0 ≤ (wrap64 (x6 + 1)) then (if (wrap64 (x6 + 1)) < (x0.size : Int) then (if (bt x0 (wrap64 (x6 + 1))) = 10 then (some (0,(⟨#[]⟩ : ByteArray),0,0,(-1))) else (spec_l3re.l0 k x0 x1 (wrap64 ((wrap64 (x6 + 1)) + 1)))) else (none)) else (none))) else (if x6 ≥ (x0.size : Int) then (some (0,(⟨#[]⟩ : ByteArray),0,0,(-1))) else (if (bt x0 x6) = 10 then (some (0,(⟨#[]⟩ : ByteArray),0,0,(-1))) else (spec_l3re.l0 k x0 x1 (wrap64 (x6 + 1))))))) else (none)) else (some (0,(⟨#[]⟩ : ByteArray),0,0,(-1)))
def spec_l3re.f (k : Nat) (a0 : ByteArray) (a1 : Int) : Option (Int × ByteArray × Int × Int × Int):=spec_l3re.l0 k a0 a1 (wrap64 (a1 + 1))
set_option maxHeartbeats 8000000 in
set_option maxRecDepth 100000 in
theorem spec_l3re.calls (k : Nat) (a0 : ByteArray) (a1 : Int) (r1 : Int) (r2 : ByteArray) (r3 : Int) (r4 : Int) (r5 : Int) (w : World) (h : spec_l3re.f k a0 a1 = some (r1,r2,r3,r4,r5)) :
  Calls Tryd.prog 85 #[.string a0,.int .i64 a1] w fun e w'=>e = .returned (.tuple #[.agg #[.int .i64 r1,.string r2,.int .i64 r3,.int .i64 r4],.int .i64 r5]) ∧ Below w.heap.size w w':=by
 have hu60:=Tryd.underlying60
 have HB:=Aside0.mk (Below.refl w.heap.size w)
 have H : (spec_l3re.l0 k a0 a1 (wrap64 (a1 + 1))) = some (r1,r2,r3,r4,r5):=h
 clear h
 have H':=Aside0.mk H
 clear H
 go_enter Tryd.func85,Tryd.ntmps85
 go_wp2_with (first|((with_reducible refine gate_dst (N:=4) rfl ?_);refine box_event ?hg (N:=4) ?hd (cs:=#[.int .i64 0,.string (⟨#[]⟩ : ByteArray),.int .i64 0,.int .i64 0]) (t:=60) ?hr ?_;(case hd=>rfl);(case hg=>rfl);(case hr=>first|(go_simp;done)|(go_simp;rfl));intro gb807 hg w3 hbox hb;have n0_:=Aside0.mk (below_step (by repeat (first|(with_reducible first|exact HB.out|apply below_alloc|apply pw_below_drewN|apply below_drew1)|exact HB.out)) hb);have n1_:=Aside0.mk (hbox);have n2_:=Aside0.mk ((by rw [hg];exact (below_size (by repeat (first|(with_reducible first|exact HB.out|apply below_alloc|apply pw_below_drewN|apply below_drew1)|exact HB.out))) : w.heap.size ≤ gb807));have n3_:=Aside0.mk ((by rw [hg];exact (below_size (by repeat (first|(with_reducible first|exact HB.out|apply below_alloc|apply pw_below_drewN|apply below_drew1)|exact HB.out))) : w.heap.size ≤ gb807));clear HB;have HB:=n0_;have BK807:=n1_;have GW807:=n2_;have GE807:=n3_;clear n0_ n1_ n2_ n3_;clear hb hbox hg))
 go_loopg [6] k (fun kq v6 w'=>∃ (x6_1 : Int) (x808000_1 : Int) (x808001_1 : ByteArray) (x808002_1 : Int) (x808003_1 : Int),v6 = .int .i64 x6_1 ∧ Aside0 (spec_l3re.l0 kq a0 a1 x6_1 = some (r1,r2,r3,r4,r5)) ∧ Aside0 (kq ≤ k) ∧ Aside0 (w'.heap[gb807]? = some (.cells #[.int .i64 x808000_1,.string x808001_1,.int .i64 x808002_1,.int .i64 x808003_1] 60 (0,0))) ∧ Aside0 (Below w.heap.size w w'))
 case atStart=>exact ⟨(wrap64 (a1 + 1)),(0),((⟨#[]⟩ : ByteArray)),(0),(0),(by first|rfl|(simp;done)|(simp [*];done)),H',⟨Nat.le_refl _⟩,⟨by (with_reducible repeat (first|refine blk_drewN ?_ _|refine blk_drew ?_|refine blk_alloc ?_ _));exact BK807.out⟩,⟨by repeat (first|(with_reducible first|exact HB.out|apply below_alloc|apply pw_below_drewN|apply below_drew1|refine below_set ?_ GE807.out)|exact HB.out)⟩⟩
 case round =>
  clear H'
  try clear p2
  obtain ⟨x6_1,x808000_1,x808001_1,x808002_1,x808003_1,rfl,HA,HK1,BK807,HB⟩:=hrel
  cases gk with
  | zero=>exact absurd HA.out (by simp [spec_l3re.l0])
  | succ k1 =>
   have H:=HA.out
   clear HA
   simp only [spec_l3re.l0] at H
   by_cases c4 : x6_1 < (a0.size : Int)
   ·rw [if_pos c4] at H
    have c4b0 : decide (x6_1 < (a0.size : Int)) = true:=decide_eq_true c4
    clear c4
    by_cases c5 : 0 ≤ x6_1
    ·rw [if_pos c5] at H
     have c5b0 : decide (0 ≤ x6_1) = true:=decide_eq_true c5
     clear c5
     by_cases c7 : (bt a0 x6_1) = 47
     ·rw [if_pos c7] at H
      have c7b0 : ((bt a0 x6_1) == 47) = true:=beq_iff_eq.mpr c7
      have c7b1 : ((bt a0 x6_1) != 47) = false:=bne_eq_false_iff_eq.mpr c7
      clear c7
      obtain ⟨ji8,hji8⟩ : ∃ j_ : Int,(wrap64 (a1 + 1)) = j_:=⟨_,rfl⟩
      replace H : (if 0 ≤ (ji8) then (if (ji8) ≤ x6_1 then (if x6_1 ≤ (a0.size : Int) then (some (3,a0.extract ((ji8) : Int).toNat (x6_1 : Int).toNat,0,a1,wrap64 (x6_1 + 1))) else (none)) else (none)) else (none)) = some (r1,r2,r3,r4,r5):=by first|(rw [hji8] at H;exact H)|(simp only [hji8] at H ⊢;exact H)
      have hji8w : (IntKind.i64.wrap (a1 + 1)) = ji8:=(i64_w _).trans hji8
      by_cases c9 : 0 ≤ (ji8)
      ·rw [if_pos c9] at H
       have c9b0:=eq_true c9
       have c9b1 : decide (0 ≤ (ji8)) = true:=decide_eq_true c9
       clear c9
       by_cases c10 : (ji8) ≤ x6_1
       ·rw [if_pos c10] at H
        have c10b0:=eq_true c10
        have c10b1 : decide ((ji8) ≤ x6_1) = true:=decide_eq_true c10
        clear c10
        by_cases c11 : x6_1 ≤ (a0.size : Int)
        ·rw [if_pos c11] at H
         have c11b0:=eq_true c11
         have c11b1 : decide (x6_1 ≤ (a0.size : Int)) = true:=decide_eq_true c11
         clear c11
         simp only [Option.some.injEq,Prod.mk.injEq] at H
         obtain ⟨rfl,rfl,rfl,rfl,rfl⟩:=H
         have p6 : 0 ≤ (x6_1 : Int):=of_decide_eq_true (by first|(with_reducible assumption)|assumption)
         have q6 : x6_1 < (a0.size : Int):=of_decide_eq_true (by first|(with_reducible assumption)|assumption)
         have hx6:=bt_at a0 x6_1
         replace p6:=eq_true p6
         replace q6:=eq_true q6
         have hcz12_0 : wr.cell? ⟨gb807,0,none⟩ = some (.int .i64 x808000_1):=(blk_cell BK807.out 0).trans rfl
         have hcz12_1 : wr.cell? ⟨gb807,1,none⟩ = some (.string x808001_1):=(blk_cell BK807.out 1).trans rfl
         have hcz12_2 : wr.cell? ⟨gb807,2,none⟩ = some (.int .i64 x808002_1):=(blk_cell BK807.out 2).trans rfl
         have hcz12_3 : wr.cell? ⟨gb807,3,none⟩ = some (.int .i64 x808003_1):=(blk_cell BK807.out 3).trans rfl
         have hfz12_0:=blk_frozen BK807.out 0
         have hfz12_1:=blk_frozen BK807.out 1
         have hfz12_2:=blk_frozen BK807.out 2
         have hfz12_3:=blk_frozen BK807.out 3
         go_wp2
         refine bodyPost_ret (results_ct rfl _ _ gb807 60 #[.int .i64 3,.string (a0.extract ((ji8) : Int).toNat (x6_1 : Int).toNat),.int .i64 0,.int .i64 a1] (0,0) _ rfl (by (with_reducible repeat (first|refine blk_drewN ?_ _|refine blk_drew ?_|refine blk_alloc ?_ _));refine blk_put (cs:=#[.int .i64 3,.string (a0.extract ((ji8) : Int).toNat (x6_1 : Int).toNat),.int .i64 0,.int .i64 x808003_1]) ?_ 3 _ rfl;(with_reducible repeat (first|refine blk_drewN ?_ _|refine blk_drew ?_|refine blk_alloc ?_ _));refine blk_put (cs:=#[.int .i64 3,.string (a0.extract ((ji8) : Int).toNat (x6_1 : Int).toNat),.int .i64 x808002_1,.int .i64 x808003_1]) ?_ 2 _ rfl;(with_reducible repeat (first|refine blk_drewN ?_ _|refine blk_drew ?_|refine blk_alloc ?_ _));refine blk_put (cs:=#[.int .i64 3,.string x808001_1,.int .i64 x808002_1,.int .i64 x808003_1]) ?_ 1 _ rfl;(with_reducible repeat (first|refine blk_drewN ?_ _|refine blk_drew ?_|refine blk_alloc ?_ _));refine blk_put (cs:=#[.int .i64 x808000_1,.string x808001_1,.int .i64 x808002_1,.int .i64 x808003_1]) ?_ 0 _ rfl;(with_reducible repeat (first|refine blk_drewN ?_ _|refine blk_drew ?_|refine blk_alloc ?_ _));exact BK807.out) Tryd.underlying60 rfl (by kernel_rfl)) rfl ?_
         exact ⟨by first|rfl|(simp [errW_none,errW_some] <;> rfl)|(simp only [← hji8];first|rfl|(simp [errW_none,errW_some] <;> rfl))|(simp [*,errW_none,errW_some] <;> rfl),by repeat (first|(with_reducible first|exact HB.out|apply below_alloc|apply pw_below_drewN|apply below_drew1|refine below_set ?_ GE807.out)|exact HB.out)⟩
        ·rw [if_neg c11] at H
         exact absurd H (by simp)
       ·rw [if_neg c10] at H
        exact absurd H (by simp)
      ·rw [if_neg c9] at H
       exact absurd H (by simp)
     ·rw [if_neg c7] at H
      have c7b0 : ((bt a0 x6_1) == 47) = false:=beq_eq_false_iff_ne.mpr c7
      have c7b1 : ((bt a0 x6_1) != 47) = true:=bne_iff_ne.mpr c7
      by_cases c14 : (bt a0 x6_1) = 92
      ·rw [if_pos c14] at H
       have c14b0 : ((bt a0 x6_1) == 92) = true:=beq_iff_eq.mpr c14
       have c14b1 : ((bt a0 x6_1) != 92) = false:=bne_eq_false_iff_eq.mpr c14
       clear c14
       by_cases c15 : (wrap64 (x6_1 + 1)) ≥ (a0.size : Int)
       ·rw [if_pos c15] at H
        have c15b0 : decide ((a0.size : Int) ≤ (wrap64 (x6_1 + 1))) = true:=decide_eq_true c15
        clear c15
        simp only [Option.some.injEq,Prod.mk.injEq] at H
        obtain ⟨rfl,rfl,rfl,rfl,rfl⟩:=H
        have p6 : 0 ≤ (x6_1 : Int):=of_decide_eq_true (by first|(with_reducible assumption)|assumption)
        have q6 : x6_1 < (a0.size : Int):=of_decide_eq_true (by first|(with_reducible assumption)|assumption)
        have hx6:=bt_at a0 x6_1
        replace p6:=eq_true p6
        replace q6:=eq_true q6
        have p13 : 0 ≤ (x6_1 : Int):=of_decide_eq_true (by first|(with_reducible assumption)|assumption)
        have q13 : x6_1 < (a0.size : Int):=of_decide_eq_true (by first|(with_reducible assumption)|assumption)
        have hx13:=bt_at a0 x6_1
        replace p13:=eq_true p13
        replace q13:=eq_true q13
        have hcz16_0 : wr.cell? ⟨gb807,0,none⟩ = some (.int .i64 x808000_1):=(blk_cell BK807.out 0).trans rfl
        have hcz16_1 : wr.cell? ⟨gb807,1,none⟩ = some (.string x808001_1):=(blk_cell BK807.out 1).trans rfl
        have hcz16_2 : wr.cell? ⟨gb807,2,none⟩ = some (.int .i64 x808002_1):=(blk_cell BK807.out 2).trans rfl
        have hcz16_3 : wr.cell? ⟨gb807,3,none⟩ = some (.int .i64 x808003_1):=(blk_cell BK807.out 3).trans rfl
        have hfz16_0:=blk_frozen BK807.out 0
        have hfz16_1:=blk_frozen BK807.out 1
        have hfz16_2:=blk_frozen BK807.out 2
        have hfz16_3:=blk_frozen BK807.out 3
        go_wp2
        refine bodyPost_ret (results_ct rfl _ _ gb807 60 #[.int .i64 0,.string (⟨#[]⟩ : ByteArray),.int .i64 0,.int .i64 0] (0,0) _ rfl (by (with_reducible repeat (first|refine blk_drewN ?_ _|refine blk_drew ?_|refine blk_alloc ?_ _));refine blk_put (cs:=#[.int .i64 0,.string (⟨#[]⟩ : ByteArray),.int .i64 0,.int .i64 x808003_1]) ?_ 3 _ rfl;(with_reducible repeat (first|refine blk_drewN ?_ _|refine blk_drew ?_|refine blk_alloc ?_ _));refine blk_put (cs:=#[.int .i64 0,.string (⟨#[]⟩ : ByteArray),.int .i64 x808002_1,.int .i64 x808003_1]) ?_ 2 _ rfl;(with_reducible repeat (first|refine blk_drewN ?_ _|refine blk_drew ?_|refine blk_alloc ?_ _));refine blk_put (cs:=#[.int .i64 0,.string x808001_1,.int .i64 x808002_1,.int .i64 x808003_1]) ?_ 1 _ rfl;(with_reducible repeat (first|refine blk_drewN ?_ _|refine blk_drew ?_|refine blk_alloc ?_ _));refine blk_put (cs:=#[.int .i64 x808000_1,.string x808001_1,.int .i64 x808002_1,.int .i64 x808003_1]) ?_ 0 _ rfl;(with_reducible repeat (first|refine blk_drewN ?_ _|refine blk_drew ?_|refine blk_alloc ?_ _));exact BK807.out) Tryd.underlying60 rfl (by kernel_rfl)) rfl ?_
        exact ⟨by first|rfl|(simp [errW_none,errW_some] <;> rfl)|(simp [*,errW_none,errW_some] <;> rfl),by repeat (first|(with_reducible first|exact HB.out|apply below_alloc|apply pw_below_drewN|apply below_drew1|refine below_set ?_ GE807.out)|exact HB.out)⟩
       ·rw [if_neg c15] at H
        have c15b0 : decide ((a0.size : Int) ≤ (wrap64 (x6_1 + 1))) = false:=decide_eq_false c15
        clear c15
        obtain ⟨ji17,hji17⟩ : ∃ j_ : Int,(wrap64 (x6_1 + 1)) = j_:=⟨_,rfl⟩
        replace H : (if 0 ≤ (ji17) then (if (ji17) < (a0.size : Int) then (if (bt a0 (ji17)) = 10 then (some (0,(⟨#[]⟩ : ByteArray),0,0,(-1))) else (spec_l3re.l0 k1 a0 a1 (wrap64 ((ji17) + 1)))) else (none)) else (none)) = some (r1,r2,r3,r4,r5):=by first|(rw [hji17] at H;exact H)|(simp only [hji17] at H ⊢;exact H)
        (try rw [hji17] at c15b0)
        have hji17w : (IntKind.i64.wrap (x6_1 + 1)) = ji17:=(i64_w _).trans hji17
        by_cases c18 : 0 ≤ (ji17)
        ·rw [if_pos c18] at H
         have c18b0 : decide (0 ≤ (ji17)) = true:=decide_eq_true c18
         clear c18
         by_cases c19 : (ji17) < (a0.size : Int)
         ·rw [if_pos c19] at H
          have c19b0 : decide ((ji17) < (a0.size : Int)) = true:=decide_eq_true c19
          clear c19
          by_cases c21 : (bt a0 (ji17)) = 10
          ·rw [if_pos c21] at H
           have c21b0 : ((bt a0 (ji17)) == 10) = true:=beq_iff_eq.mpr c21
           have c21b1 : ((bt a0 (ji17)) != 10) = false:=bne_eq_false_iff_eq.mpr c21
           clear c21
           simp only [Option.some.injEq,Prod.mk.injEq] at H
           obtain ⟨rfl,rfl,rfl,rfl,rfl⟩:=H
           have p6 : 0 ≤ (x6_1 : Int):=of_decide_eq_true (by first|(with_reducible assumption)|assumption)
           have q6 : x6_1 < (a0.size : Int):=of_decide_eq_true (by first|(with_reducible assumption)|assumption)
           have hx6:=bt_at a0 x6_1
           replace p6:=eq_true p6
           replace q6:=eq_true q6
           have p13 : 0 ≤ (x6_1 : Int):=of_decide_eq_true (by first|(with_reducible assumption)|assumption)
           have q13 : x6_1 < (a0.size : Int):=of_decide_eq_true (by first|(with_reducible assumption)|assumption)
           have hx13:=bt_at a0 x6_1
           replace p13:=eq_true p13
           replace q13:=eq_true q13
           have p20 : 0 ≤ ((ji17) : Int):=of_decide_eq_true (by first|(with_reducible assumption)|assumption)
           have q20 : (ji17) < (a0.size : Int):=of_decide_eq_true (by first|(with_reducible assumption)|assumption)
           have hx20:=bt_at a0 (ji17)
           replace p20:=eq_true p20
           replace q20:=eq_true q20
           have hcz22_0 : wr.cell? ⟨gb807,0,none⟩ = some (.int .i64 x808000_1):=(blk_cell BK807.out 0).trans rfl
           have hcz22_1 : wr.cell? ⟨gb807,1,none⟩ = some (.string x808001_1):=(blk_cell BK807.out 1).trans rfl
           have hcz22_2 : wr.cell? ⟨gb807,2,none⟩ = some (.int .i64 x808002_1):=(blk_cell BK807.out 2).trans rfl
           have hcz22_3 : wr.cell? ⟨gb807,3,none⟩ = some (.int .i64 x808003_1):=(blk_cell BK807.out 3).trans rfl
           have hfz22_0:=blk_frozen BK807.out 0
           have hfz22_1:=blk_frozen BK807.out 1
           have hfz22_2:=blk_frozen BK807.out 2
           have hfz22_3:=blk_frozen BK807.out 3
           go_wp2
           refine bodyPost_ret (results_ct rfl _ _ gb807 60 #[.int .i64 0,.string (⟨#[]⟩ : ByteArray),.int .i64 0,.int .i64 0] (0,0) _ rfl (by (with_reducible repeat (first|refine blk_drewN ?_ _|refine blk_drew ?_|refine blk_alloc ?_ _));refine blk_put (cs:=#[.int .i64 0,.string (⟨#[]⟩ : ByteArray),.int .i64 0,.int .i64 x808003_1]) ?_ 3 _ rfl;(with_reducible repeat (first|refine blk_drewN ?_ _|refine blk_drew ?_|refine blk_alloc ?_ _));refine blk_put (cs:=#[.int .i64 0,.string (⟨#[]⟩ : ByteArray),.int .i64 x808002_1,.int .i64 x808003_1]) ?_ 2 _ rfl;(with_reducible repeat (first|refine blk_drewN ?_ _|refine blk_drew ?_|refine blk_alloc ?_ _));refine blk_put (cs:=#[.int .i64 0,.string x808001_1,.int .i64 x808002_1,.int .i64 x808003_1]) ?_ 1 _ rfl;(with_reducible repeat (first|refine blk_drewN ?_ _|refine blk_drew ?_|refine blk_alloc ?_ _));refine blk_put (cs:=#[.int .i64 x808000_1,.string x808001_1,.int .i64 x808002_1,.int .i64 x808003_1]) ?_ 0 _ rfl;(with_reducible repeat (first|refine blk_drewN ?_ _|refine blk_drew ?_|refine blk_alloc ?_ _));exact BK807.out) Tryd.underlying60 rfl (by kernel_rfl)) rfl ?_
           exact ⟨by first|rfl|(simp [errW_none,errW_some] <;> rfl)|(simp only [← hji17];first|rfl|(simp [errW_none,errW_some] <;> rfl))|(simp [*,errW_none,errW_some] <;> rfl),by repeat (first|(with_reducible first|exact HB.out|apply below_alloc|apply pw_below_drewN|apply below_drew1|refine below_set ?_ GE807.out)|exact HB.out)⟩
          ·rw [if_neg c21] at H
           have c21b0 : ((bt a0 (ji17)) == 10) = false:=beq_eq_false_iff_ne.mpr c21
           have c21b1 : ((bt a0 (ji17)) != 10) = true:=bne_iff_ne.mpr c21
           have H':=Aside0.mk H
           clear H
           have p6 : 0 ≤ (x6_1 : Int):=of_decide_eq_true (by first|(with_reducible assumption)|assumption)
           have q6 : x6_1 < (a0.size : Int):=of_decide_eq_true (by first|(with_reducible assumption)|assumption)
           have hx6:=bt_at a0 x6_1
           replace p6:=eq_true p6
           replace q6:=eq_true q6
           have p13 : 0 ≤ (x6_1 : Int):=of_decide_eq_true (by first|(with_reducible assumption)|assumption)
           have q13 : x6_1 < (a0.size : Int):=of_decide_eq_true (by first|(with_reducible assumption)|assumption)
           have hx13:=bt_at a0 x6_1
           replace p13:=eq_true p13
           replace q13:=eq_true q13
           have p20 : 0 ≤ ((ji17) : Int):=of_decide_eq_true (by first|(with_reducible assumption)|assumption)
           have q20 : (ji17) < (a0.size : Int):=of_decide_eq_true (by first|(with_reducible assumption)|assumption)
           have hx20:=bt_at a0 (ji17)
           replace p20:=eq_true p20
           replace q20:=eq_true q20
           go_wp2
           go_roundg k1
           case measure=>have:=HK1.out;omega
           case rel=>exact ⟨(wrap64 ((ji17) + 1)),(x808000_1),(x808001_1),(x808002_1),(x808003_1),(by first|rfl|(simp;done)|(simp only [← hji17] <;> (first|rfl|simp))|(simp [*];done)),H',⟨by have:=HK1.out;omega⟩,⟨by (with_reducible repeat (first|refine blk_drewN ?_ _|refine blk_drew ?_|refine blk_alloc ?_ _));exact BK807.out⟩,⟨by repeat (first|(with_reducible first|exact HB.out|apply below_alloc|apply pw_below_drewN|apply below_drew1|refine below_set ?_ GE807.out)|exact HB.out)⟩⟩
         ·rw [if_neg c19] at H
          exact absurd H (by simp)
        ·rw [if_neg c18] at H
         exact absurd H (by simp)
      ·rw [if_neg c14] at H
       have c14b0 : ((bt a0 x6_1) == 92) = false:=beq_eq_false_iff_ne.mpr c14
       have c14b1 : ((bt a0 x6_1) != 92) = true:=bne_iff_ne.mpr c14
       by_cases c23 : x6_1 ≥ (a0.size : Int)
       ·rw [if_pos c23] at H
        have c23b0 : decide ((a0.size : Int) ≤ x6_1) = true:=decide_eq_true c23
        clear c23
        simp only [Option.some.injEq,Prod.mk.injEq] at H
        obtain ⟨rfl,rfl,rfl,rfl,rfl⟩:=H
        have p6 : 0 ≤ (x6_1 : Int):=of_decide_eq_true (by first|(with_reducible assumption)|assumption)
        have q6 : x6_1 < (a0.size : Int):=of_decide_eq_true (by first|(with_reducible assumption)|assumption)
        have hx6:=bt_at a0 x6_1
        replace p6:=eq_true p6
        replace q6:=eq_true q6
        have p13 : 0 ≤ (x6_1 : Int):=of_decide_eq_true (by first|(with_reducible assumption)|assumption)
        have q13 : x6_1 < (a0.size : Int):=of_decide_eq_true (by first|(with_reducible assumption)|assumption)
        have hx13:=bt_at a0 x6_1
        replace p13:=eq_true p13
        replace q13:=eq_true q13
        have hcz24_0 : wr.cell? ⟨gb807,0,none⟩ = some (.int .i64 x808000_1):=(blk_cell BK807.out 0).trans rfl
        have hcz24_1 : wr.cell? ⟨gb807,1,none⟩ = some (.string x808001_1):=(blk_cell BK807.out 1).trans rfl
        have hcz24_2 : wr.cell? ⟨gb807,2,none⟩ = some (.int .i64 x808002_1):=(blk_cell BK807.out 2).trans rfl
        have hcz24_3 : wr.cell? ⟨gb807,3,none⟩ = some (.int .i64 x808003_1):=(blk_cell BK807.out 3).trans rfl
        have hfz24_0:=blk_frozen BK807.out 0
        have hfz24_1:=blk_frozen BK807.out 1
        have hfz24_2:=blk_frozen BK807.out 2
        have hfz24_3:=blk_frozen BK807.out 3
        go_wp2
        refine bodyPost_ret (results_ct rfl _ _ gb807 60 #[.int .i64 0,.string (⟨#[]⟩ : ByteArray),.int .i64 0,.int .i64 0] (0,0) _ rfl (by (with_reducible repeat (first|refine blk_drewN ?_ _|refine blk_drew ?_|refine blk_alloc ?_ _));refine blk_put (cs:=#[.int .i64 0,.string (⟨#[]⟩ : ByteArray),.int .i64 0,.int .i64 x808003_1]) ?_ 3 _ rfl;(with_reducible repeat (first|refine blk_drewN ?_ _|refine blk_drew ?_|refine blk_alloc ?_ _));refine blk_put (cs:=#[.int .i64 0,.string (⟨#[]⟩ : ByteArray),.int .i64 x808002_1,.int .i64 x808003_1]) ?_ 2 _ rfl;(with_reducible repeat (first|refine blk_drewN ?_ _|refine blk_drew ?_|refine blk_alloc ?_ _));refine blk_put (cs:=#[.int .i64 0,.string x808001_1,.int .i64 x808002_1,.int .i64 x808003_1]) ?_ 1 _ rfl;(with_reducible repeat (first|refine blk_drewN ?_ _|refine blk_drew ?_|refine blk_alloc ?_ _));refine blk_put (cs:=#[.int .i64 x808000_1,.string x808001_1,.int .i64 x808002_1,.int .i64 x808003_1]) ?_ 0 _ rfl;(with_reducible repeat (first|refine blk_drewN ?_ _|refine blk_drew ?_|refine blk_alloc ?_ _));exact BK807.out) Tryd.underlying60 rfl (by kernel_rfl)) rfl ?_
        exact ⟨by first|rfl|(simp [errW_none,errW_some] <;> rfl)|(simp [*,errW_none,errW_some] <;> rfl),by repeat (first|(with_reducible first|exact HB.out|apply below_alloc|apply pw_below_drewN|apply below_drew1|refine below_set ?_ GE807.out)|exact HB.out)⟩
       ·rw [if_neg c23] at H
        have c23b0 : decide ((a0.size : Int) ≤ x6_1) = false:=decide_eq_false c23
        clear c23
        by_cases c26 : (bt a0 x6_1) = 10
        ·rw [if_pos c26] at H
         have c26b0 : ((bt a0 x6_1) == 10) = true:=beq_iff_eq.mpr c26
         have c26b1 : ((bt a0 x6_1) != 10) = false:=bne_eq_false_iff_eq.mpr c26
         clear c26
         simp only [Option.some.injEq,Prod.mk.injEq] at H
         obtain ⟨rfl,rfl,rfl,rfl,rfl⟩:=H
         have p6 : 0 ≤ (x6_1 : Int):=of_decide_eq_true (by first|(with_reducible assumption)|assumption)
         have q6 : x6_1 < (a0.size : Int):=of_decide_eq_true (by first|(with_reducible assumption)|assumption)
         have hx6:=bt_at a0 x6_1
         replace p6:=eq_true p6
         replace q6:=eq_true q6
         have p13 : 0 ≤ (x6_1 : Int):=of_decide_eq_true (by first|(with_reducible assumption)|assumption)
         have q13 : x6_1 < (a0.size : Int):=of_decide_eq_true (by first|(with_reducible assumption)|assumption)
         have hx13:=bt_at a0 x6_1
         replace p13:=eq_true p13
         replace q13:=eq_true q13
         have p25 : 0 ≤ (x6_1 : Int):=of_decide_eq_true (by first|(with_reducible assumption)|assumption)
         have q25 : x6_1 < (a0.size : Int):=of_decide_eq_true (by first|(with_reducible assumption)|assumption)
         have hx25:=bt_at a0 x6_1
         replace p25:=eq_true p25
         replace q25:=eq_true q25
         have hcz27_0 : wr.cell? ⟨gb807,0,none⟩ = some (.int .i64 x808000_1):=(blk_cell BK807.out 0).trans rfl
         have hcz27_1 : wr.cell? ⟨gb807,1,none⟩ = some (.string x808001_1):=(blk_cell BK807.out 1).trans rfl
         have hcz27_2 : wr.cell? ⟨gb807,2,none⟩ = some (.int .i64 x808002_1):=(blk_cell BK807.out 2).trans rfl
         have hcz27_3 : wr.cell? ⟨gb807,3,none⟩ = some (.int .i64 x808003_1):=(blk_cell BK807.out 3).trans rfl
         have hfz27_0:=blk_frozen BK807.out 0
         have hfz27_1:=blk_frozen BK807.out 1
         have hfz27_2:=blk_frozen BK807.out 2
         have hfz27_3:=blk_frozen BK807.out 3
         go_wp2
         refine bodyPost_ret (results_ct rfl _ _ gb807 60 #[.int .i64 0,.string (⟨#[]⟩ : ByteArray),.int .i64 0,.int .i64 0] (0,0) _ rfl (by (with_reducible repeat (first|refine blk_drewN ?_ _|refine blk_drew ?_|refine blk_alloc ?_ _));refine blk_put (cs:=#[.int .i64 0,.string (⟨#[]⟩ : ByteArray),.int .i64 0,.int .i64 x808003_1]) ?_ 3 _ rfl;(with_reducible repeat (first|refine blk_drewN ?_ _|refine blk_drew ?_|refine blk_alloc ?_ _));refine blk_put (cs:=#[.int .i64 0,.string (⟨#[]⟩ : ByteArray),.int .i64 x808002_1,.int .i64 x808003_1]) ?_ 2 _ rfl;(with_reducible repeat (first|refine blk_drewN ?_ _|refine blk_drew ?_|refine blk_alloc ?_ _));refine blk_put (cs:=#[.int .i64 0,.string x808001_1,.int .i64 x808002_1,.int .i64 x808003_1]) ?_ 1 _ rfl;(with_reducible repeat (first|refine blk_drewN ?_ _|refine blk_drew ?_|refine blk_alloc ?_ _));refine blk_put (cs:=#[.int .i64 x808000_1,.string x808001_1,.int .i64 x808002_1,.int .i64 x808003_1]) ?_ 0 _ rfl;(with_reducible repeat (first|refine blk_drewN ?_ _|refine blk_drew ?_|refine blk_alloc ?_ _));exact BK807.out) Tryd.underlying60 rfl (by kernel_rfl)) rfl ?_
         exact ⟨by first|rfl|(simp [errW_none,errW_some] <;> rfl)|(simp [*,errW_none,errW_some] <;> rfl),by repeat (first|(with_reducible first|exact HB.out|apply below_alloc|apply pw_below_drewN|apply below_drew1|refine below_set ?_ GE807.out)|exact HB.out)⟩
        ·rw [if_neg c26] at H
         have c26b0 : ((bt a0 x6_1) == 10) = false:=beq_eq_false_iff_ne.mpr c26
         have c26b1 : ((bt a0 x6_1) != 10) = true:=bne_iff_ne.mpr c26
         have H':=Aside0.mk H
         clear H
         have p6 : 0 ≤ (x6_1 : Int):=of_decide_eq_true (by first|(with_reducible assumption)|assumption)
         have q6 : x6_1 < (a0.size : Int):=of_decide_eq_true (by first|(with_reducible assumption)|assumption)
         have hx6:=bt_at a0 x6_1
         replace p6:=eq_true p6
         replace q6:=eq_true q6
         have p13 : 0 ≤ (x6_1 : Int):=of_decide_eq_true (by first|(with_reducible assumption)|assumption)
         have q13 : x6_1 < (a0.size : Int):=of_decide_eq_true (by first|(with_reducible assumption)|assumption)
         have hx13:=bt_at a0 x6_1
         replace p13:=eq_true p13
         replace q13:=eq_true q13
         have p25 : 0 ≤ (x6_1 : Int):=of_decide_eq_true (by first|(with_reducible assumption)|assumption)
         have q25 : x6_1 < (a0.size : Int):=of_decide_eq_true (by first|(with_reducible assumption)|assumption)
         have hx25:=bt_at a0 x6_1
         replace p25:=eq_true p25
         replace q25:=eq_true q25
         go_wp2
         go_roundg k1
         case measure=>have:=HK1.out;omega
         case rel=>exact ⟨(wrap64 (x6_1 + 1)),(x808000_1),(x808001_1),(x808002_1),(x808003_1),(by first|rfl|(simp;done)|(simp [*];done)),H',⟨by have:=HK1.out;omega⟩,⟨by (with_reducible repeat (first|refine blk_drewN ?_ _|refine blk_drew ?_|refine blk_alloc ?_ _));exact BK807.out⟩,⟨by repeat (first|(with_reducible first|exact HB.out|apply below_alloc|apply pw_below_drewN|apply below_drew1|refine below_set ?_ GE807.out)|exact HB.out)⟩⟩
    ·rw [if_neg c5] at H
     exact absurd H (by simp)
   ·rw [if_neg c4] at H
    have c4b0 : decide (x6_1 < (a0.size : Int)) = false:=decide_eq_false c4
    clear c4
    simp only [Option.some.injEq,Prod.mk.injEq] at H
    obtain ⟨rfl,rfl,rfl,rfl,rfl⟩:=H
    have hcz28_0 : wr.cell? ⟨gb807,0,none⟩ = some (.int .i64 x808000_1):=(blk_cell BK807.out 0).trans rfl
    have hcz28_1 : wr.cell? ⟨gb807,1,none⟩ = some (.string x808001_1):=(blk_cell BK807.out 1).trans rfl
    have hcz28_2 : wr.cell? ⟨gb807,2,none⟩ = some (.int .i64 x808002_1):=(blk_cell BK807.out 2).trans rfl
    have hcz28_3 : wr.cell? ⟨gb807,3,none⟩ = some (.int .i64 x808003_1):=(blk_cell BK807.out 3).trans rfl
    have hfz28_0:=blk_frozen BK807.out 0
    have hfz28_1:=blk_frozen BK807.out 1
    have hfz28_2:=blk_frozen BK807.out 2
    have hfz28_3:=blk_frozen BK807.out 3
    go_wp2
    refine bodyPost_ret (results_ct rfl _ _ gb807 60 #[.int .i64 0,.string (⟨#[]⟩ : ByteArray),.int .i64 0,.int .i64 0] (0,0) _ rfl (by (with_reducible repeat (first|refine blk_drewN ?_ _|refine blk_drew ?_|refine blk_alloc ?_ _));refine blk_put (cs:=#[.int .i64 0,.string (⟨#[]⟩ : ByteArray),.int .i64 0,.int .i64 x808003_1]) ?_ 3 _ rfl;(with_reducible repeat (first|refine blk_drewN ?_ _|refine blk_drew ?_|refine blk_alloc ?_ _));refine blk_put (cs:=#[.int .i64 0,.string (⟨#[]⟩ : ByteArray),.int .i64 x808002_1,.int .i64 x808003_1]) ?_ 2 _ rfl;(with_reducible repeat (first|refine blk_drewN ?_ _|refine blk_drew ?_|refine blk_alloc ?_ _));refine blk_put (cs:=#[.int .i64 0,.string x808001_1,.int .i64 x808002_1,.int .i64 x808003_1]) ?_ 1 _ rfl;(with_reducible repeat (first|refine blk_drewN ?_ _|refine blk_drew ?_|refine blk_alloc ?_ _));refine blk_put (cs:=#[.int .i64 x808000_1,.string x808001_1,.int .i64 x808002_1,.int .i64 x808003_1]) ?_ 0 _ rfl;(with_reducible repeat (first|refine blk_drewN ?_ _|refine blk_drew ?_|refine blk_alloc ?_ _));exact BK807.out) Tryd.underlying60 rfl (by kernel_rfl)) rfl ?_
    exact ⟨by first|rfl|(simp [errW_none,errW_some] <;> rfl)|(simp [*,errW_none,errW_some] <;> rfl),by repeat (first|(with_reducible first|exact HB.out|apply below_alloc|apply pw_below_drewN|apply below_drew1|refine below_set ?_ GE807.out)|exact HB.out)⟩
def spec_l3sign.l0 : Nat → ByteArray → Int → List ByteArray → Int → Option (Int × ByteArray × Int × Int × Int)
 | 0,_,_,_,_=>none
 | k + 1,x0,x1,x6,x7=>if x7 < (x6.length : Int) then (if 0 ≤ x7 then (if (wrap64 (x1 + ((rdOf ByteArray.empty x6 x7).size : Int))) ≤ (x0.size : Int) then (if 0 ≤ x1 then (if x1 ≤ (wrap64 (x1 + ((rdOf ByteArray.empty x6 x7).size : Int))) then (if (x0.extract (x1 : Int).toNat ((wrap64 (x1 + ((rdOf ByteArray.empty x6 x7).size : Int))) : Int).toNat).toList = (rdOf ByteArray.empty x6 x7).toList then (some (7,rdOf ByteArray.empty x6 x7,0,x1,wrap64 (x1 + ((rdOf ByteArray.empty x6 x7).size : Int)))) else (spec_l3sign.l0 k x0 x1 x6 (wrap64 (x7 + 1)))) else (none)) else (none)) else (spec_l3sign.l0 k x0 x1 x6 (wrap64 (x7 + 1)))) else (none)) else (some (0,(⟨#[]⟩ : ByteArray),0,0,(-1)))
def spec_l3sign.f (k : Nat) (a0 : ByteArray) (a1 : Int) : Option (Int × ByteArray × Int × Int × Int):=(spec_l3signs.f).bind fun t809=>(spec_l3sign.l0 k a0 a1 t809 0)
set_option maxHeartbeats 8000000 in
set_option maxRecDepth 100000 in
theorem spec_l3sign.calls (k : Nat) (a0 : ByteArray) (a1 : Int) (r1 : Int) (r2 : ByteArray) (r3 : Int) (r4 : Int) (r5 : Int) (w : World) (h : spec_l3sign.f k a0 a1 = some (r1,r2,r3,r4,r5)) :
  Calls Tryd.prog 86 #[.string a0,.int .i64 a1] w fun e w'=>e = .returned (.tuple #[.agg #[.int .i64 r1,.string r2,.int .i64 r3,.int .i64 r4],.int .i64 r5]) ∧ Below w.heap.size w w':=by
 have hu60:=Tryd.underlying60
 have HB:=Aside0.mk (Below.refl w.heap.size w)
 have H : ((spec_l3signs.f).bind fun t809=>(spec_l3sign.l0 k a0 a1 t809 0)) = some (r1,r2,r3,r4,r5):=h
 clear h
 replace H:=Option.bind_eq_some_iff.mp H
 obtain ⟨t809,A30,H⟩:=H
 replace H : (spec_l3sign.l0 k a0 a1 t809 0) = some (r1,r2,r3,r4,r5):=H
 have A3:=Aside0.mk A30
 clear A30
 have H':=Aside0.mk H
 clear H
 go_enter Tryd.func86,Tryd.ntmps86
 go_wp2_with (first|((with_reducible refine gate_dst (N:=4) rfl ?_);refine box_event ?hg (N:=4) ?hd (cs:=#[.int .i64 0,.string (⟨#[]⟩ : ByteArray),.int .i64 0,.int .i64 0]) (t:=60) ?hr ?_;(case hd=>rfl);(case hg=>rfl);(case hr=>first|(go_simp;done)|(go_simp;rfl));intro gb808 hg w4 hbox hb;have n0_:=Aside0.mk (below_step (by repeat (first|(with_reducible first|exact HB.out|apply below_alloc|apply pw_below_drewN|apply below_drew1)|exact HB.out)) hb);have n1_:=Aside0.mk (hbox);have n2_:=Aside0.mk ((by rw [hg];exact (below_size (by repeat (first|(with_reducible first|exact HB.out|apply below_alloc|apply pw_below_drewN|apply below_drew1)|exact HB.out))) : w.heap.size ≤ gb808));have n3_:=Aside0.mk ((by rw [hg];exact (below_size (by repeat (first|(with_reducible first|exact HB.out|apply below_alloc|apply pw_below_drewN|apply below_drew1)|exact HB.out))) : w.heap.size ≤ gb808));clear HB;have HB:=n0_;have BK808:=n1_;have GW808:=n2_;have GE808:=n3_;clear n0_ n1_ n2_ n3_;clear hb hbox hg)|(go_at_call 112;(with_reducible refine (spec_l3signs.calls  t809 _ A3.out).mono ?_);rintro e w5 ⟨v810,rfl,ho0,hb⟩;have n0_:=Aside0.mk (Kd.R_lower ho0 (below_size (by repeat (first|(with_reducible first|exact HB.out|apply below_alloc|apply pw_below_drewN|apply below_drew1|refine below_set ?_ GE808.out)|exact HB.out))));have n1_:=Aside0.mk (blk_below (g:=gb808) (o:=.cells #[.int .i64 0,.string (⟨#[]⟩ : ByteArray),.int .i64 0,.int .i64 0] 60 (0,0)) (by (with_reducible repeat (first|refine blk_drewN ?_ _|refine blk_drew ?_|refine blk_alloc ?_ _));exact BK808.out) hb);have n2_:=Aside0.mk (below_step (by repeat (first|(with_reducible first|exact HB.out|apply below_alloc|apply pw_below_drewN|apply below_drew1|refine below_set ?_ GE808.out)|exact HB.out)) hb);clear BK808;clear HB;have HO811:=n0_;have BK808:=n1_;have HB:=n2_;clear n0_ n1_ n2_;(try clear hb);(try clear hb2);(try clear hk);(try clear hi);(try clear ho0)))
 repeat (go_quiet (first|((with_reducible refine gate_dst (N:=4) rfl ?_);refine box_event ?hg (N:=4) ?hd (cs:=#[.int .i64 0,.string (⟨#[]⟩ : ByteArray),.int .i64 0,.int .i64 0]) (t:=60) ?hr ?_;(case hd=>rfl);(case hg=>rfl);(case hr=>first|(go_simp;done)|(go_simp;rfl));intro gb808 hg w4 hbox hb;have n0_:=Aside0.mk (below_step (by repeat (first|(with_reducible first|exact HB.out|apply below_alloc|apply pw_below_drewN|apply below_drew1)|exact HB.out)) hb);have n1_:=Aside0.mk (hbox);have n2_:=Aside0.mk ((by rw [hg];exact (below_size (by repeat (first|(with_reducible first|exact HB.out|apply below_alloc|apply pw_below_drewN|apply below_drew1)|exact HB.out))) : w.heap.size ≤ gb808));have n3_:=Aside0.mk ((by rw [hg];exact (below_size (by repeat (first|(with_reducible first|exact HB.out|apply below_alloc|apply pw_below_drewN|apply below_drew1)|exact HB.out))) : w.heap.size ≤ gb808));clear HB;have HB:=n0_;have BK808:=n1_;have GW808:=n2_;have GE808:=n3_;clear n0_ n1_ n2_ n3_;clear hb hbox hg)|(go_at_call 112;(with_reducible refine (spec_l3signs.calls  t809 _ A3.out).mono ?_);rintro e w5 ⟨v810,rfl,ho0,hb⟩;have n0_:=Aside0.mk (Kd.R_lower ho0 (below_size (by repeat (first|(with_reducible first|exact HB.out|apply below_alloc|apply pw_below_drewN|apply below_drew1|refine below_set ?_ GE808.out)|exact HB.out))));have n1_:=Aside0.mk (blk_below (g:=gb808) (o:=.cells #[.int .i64 0,.string (⟨#[]⟩ : ByteArray),.int .i64 0,.int .i64 0] 60 (0,0)) (by (with_reducible repeat (first|refine blk_drewN ?_ _|refine blk_drew ?_|refine blk_alloc ?_ _));exact BK808.out) hb);have n2_:=Aside0.mk (below_step (by repeat (first|(with_reducible first|exact HB.out|apply below_alloc|apply pw_below_drewN|apply below_drew1|refine below_set ?_ GE808.out)|exact HB.out)) hb);clear BK808;clear HB;have HO811:=n0_;have BK808:=n1_;have HB:=n2_;clear n0_ n1_ n2_;(try clear hb);(try clear hb2);(try clear hk);(try clear hi);(try clear ho0)));try go_wp2_with (first|((with_reducible refine gate_dst (N:=4) rfl ?_);refine box_event ?hg (N:=4) ?hd (cs:=#[.int .i64 0,.string (⟨#[]⟩ : ByteArray),.int .i64 0,.int .i64 0]) (t:=60) ?hr ?_;(case hd=>rfl);(case hg=>rfl);(case hr=>first|(go_simp;done)|(go_simp;rfl));intro gb808 hg w4 hbox hb;have n0_:=Aside0.mk (below_step (by repeat (first|(with_reducible first|exact HB.out|apply below_alloc|apply pw_below_drewN|apply below_drew1)|exact HB.out)) hb);have n1_:=Aside0.mk (hbox);have n2_:=Aside0.mk ((by rw [hg];exact (below_size (by repeat (first|(with_reducible first|exact HB.out|apply below_alloc|apply pw_below_drewN|apply below_drew1)|exact HB.out))) : w.heap.size ≤ gb808));have n3_:=Aside0.mk ((by rw [hg];exact (below_size (by repeat (first|(with_reducible first|exact HB.out|apply below_alloc|apply pw_below_drewN|apply below_drew1)|exact HB.out))) : w.heap.size ≤ gb808));clear HB;have HB:=n0_;have BK808:=n1_;have GW808:=n2_;have GE808:=n3_;clear n0_ n1_ n2_ n3_;clear hb hbox hg)|(go_at_call 112;(with_reducible refine (spec_l3signs.calls  t809 _ A3.out).mono ?_);rintro e w5 ⟨v810,rfl,ho0,hb⟩;have n0_:=Aside0.mk (Kd.R_lower ho0 (below_size (by repeat (first|(with_reducible first|exact HB.out|apply below_alloc|apply pw_below_drewN|apply below_drew1|refine below_set ?_ GE808.out)|exact HB.out))));have n1_:=Aside0.mk (blk_below (g:=gb808) (o:=.cells #[.int .i64 0,.string (⟨#[]⟩ : ByteArray),.int .i64 0,.int .i64 0] 60 (0,0)) (by (with_reducible repeat (first|refine blk_drewN ?_ _|refine blk_drew ?_|refine blk_alloc ?_ _));exact BK808.out) hb);have n2_:=Aside0.mk (below_step (by repeat (first|(with_reducible first|exact HB.out|apply below_alloc|apply pw_below_drewN|apply below_drew1|refine below_set ?_ GE808.out)|exact HB.out)) hb);clear BK808;clear HB;have HO811:=n0_;have BK808:=n1_;have HB:=n2_;clear n0_ n1_ n2_;(try clear hb);(try clear hb2);(try clear hk);(try clear hi);(try clear ho0))))
 go_loopg [7] k (fun kq v7 w'=>∃ (x7_1 : Int) (x809000_1 : Int) (x809001_1 : ByteArray) (x809002_1 : Int) (x809003_1 : Int),v7 = .int .i64 x7_1 ∧ Aside0 (spec_l3sign.l0 kq a0 a1 t809 x7_1 = some (r1,r2,r3,r4,r5)) ∧ Aside0 (kq ≤ k) ∧ Aside0 (Kd.R Kd.string 9 w' w.heap.size (fun _=>True) v810 t809) ∧ Aside0 (w'.heap[gb808]? = some (.cells #[.int .i64 x809000_1,.string x809001_1,.int .i64 x809002_1,.int .i64 x809003_1] 60 (0,0))) ∧ Aside0 (Below w.heap.size w w'))
 case atStart=>exact ⟨(0),(0),((⟨#[]⟩ : ByteArray)),(0),(0),(by first|rfl|(simp;done)|(simp [*];done)),H',⟨Nat.le_refl _⟩,⟨by (with_reducible repeat (first|apply Kd.R_alloc|apply Kd.R_drewN|apply Kd.R_drew));exact HO811.out⟩,⟨by (with_reducible repeat (first|refine blk_drewN ?_ _|refine blk_drew ?_|refine blk_alloc ?_ _));exact BK808.out⟩,⟨by repeat (first|(with_reducible first|exact HB.out|apply below_alloc|apply pw_below_drewN|apply below_drew1|refine below_set ?_ GE808.out)|exact HB.out)⟩⟩
 case round =>
  clear H'
  try clear p2
  obtain ⟨x7_1,x809000_1,x809001_1,x809002_1,x809003_1,rfl,HA,HK1,HO_6,BK808,HB⟩:=hrel
  cases gk with
  | zero=>exact absurd HA.out (by simp [spec_l3sign.l0])
  | succ k1 =>
   have H:=HA.out
   clear HA
   simp only [spec_l3sign.l0] at H
   by_cases c6 : x7_1 < (t809.length : Int)
   ·rw [if_pos c6] at H
    have c6b0 : decide (x7_1 < (t809.length : Int)) = true:=decide_eq_true c6
    clear c6
    by_cases c7 : 0 ≤ x7_1
    ·rw [if_pos c7] at H
     have c7b0 : decide (0 ≤ x7_1) = true:=decide_eq_true c7
     clear c7
     by_cases c8 : (wrap64 (a1 + ((rdOf ByteArray.empty t809 x7_1).size : Int))) ≤ (a0.size : Int)
     ·rw [if_pos c8] at H
      have c8b0 : decide ((wrap64 (a1 + ((rdOf ByteArray.empty t809 x7_1).size : Int))) ≤ (a0.size : Int)) = true:=decide_eq_true c8
      clear c8
      by_cases c9 : 0 ≤ a1
      ·rw [if_pos c9] at H
       have c9b0:=eq_true c9
       have c9b1 : decide (0 ≤ a1) = true:=decide_eq_true c9
       clear c9
       by_cases c10 : a1 ≤ (wrap64 (a1 + ((rdOf ByteArray.empty t809 x7_1).size : Int)))
       ·rw [if_pos c10] at H
        have c10b0:=eq_true c10
        have c10b1 : decide (a1 ≤ (wrap64 (a1 + ((rdOf ByteArray.empty t809 x7_1).size : Int)))) = true:=decide_eq_true c10
        have c11b0:=eq_true (of_decide_eq_true (by first|(with_reducible assumption)|assumption) : (wrap64 (a1 + ((rdOf ByteArray.empty t809 x7_1).size : Int))) ≤ (a0.size : Int))
        by_cases c12 : (a0.extract (a1 : Int).toNat ((wrap64 (a1 + ((rdOf ByteArray.empty t809 x7_1).size : Int))) : Int).toNat).toList = (rdOf ByteArray.empty t809 x7_1).toList
        ·rw [if_pos c12] at H
         have c12b0 : ((a0.extract (a1 : Int).toNat ((wrap64 (a1 + ((rdOf ByteArray.empty t809 x7_1).size : Int))) : Int).toNat).toList == (rdOf ByteArray.empty t809 x7_1).toList) = true:=beq_iff_eq.mpr c12
         have c12b1 : ((a0.extract (a1 : Int).toNat ((wrap64 (a1 + ((rdOf ByteArray.empty t809 x7_1).size : Int))) : Int).toNat).toList != (rdOf ByteArray.empty t809 x7_1).toList) = false:=bne_eq_false_iff_eq.mpr c12
         clear c12
         simp only [Option.some.injEq,Prod.mk.injEq] at H
         obtain ⟨rfl,rfl,rfl,rfl,rfl⟩:=H
         obtain ⟨Ao13,co13,eo13⟩:=Kd.R_slice HO_6.out
         subst eo13
         have p812 : 0 ≤ (x7_1 : Int):=of_decide_eq_true (by first|(with_reducible assumption)|assumption)
         have q812 : x7_1 < (t809.length : Int):=of_decide_eq_true (by first|(with_reducible assumption)|assumption)
         obtain ⟨ad812,e812,hx812_0⟩:=Kd.at_string (Kd.R_reads' HO_6.out).2.2 x7_1 p812 q812
         cases e812
         replace p812:=eq_true p812
         replace q812:=eq_true q812
         have p813 : 0 ≤ (x7_1 : Int):=of_decide_eq_true (by first|(with_reducible assumption)|assumption)
         have q813 : x7_1 < (t809.length : Int):=of_decide_eq_true (by first|(with_reducible assumption)|assumption)
         obtain ⟨ad813,e813,hx813_0⟩:=Kd.at_string (Kd.R_reads' HO_6.out).2.2 x7_1 p813 q813
         obtain rfl : ad812 = ad813:=(by injection e813)
         replace p813:=eq_true p813
         replace q813:=eq_true q813
         have p814 : 0 ≤ (x7_1 : Int):=of_decide_eq_true (by first|(with_reducible assumption)|assumption)
         have q814 : x7_1 < (t809.length : Int):=of_decide_eq_true (by first|(with_reducible assumption)|assumption)
         obtain ⟨ad814,e814,hx814_0⟩:=Kd.at_string (Kd.R_reads' HO_6.out).2.2 x7_1 p814 q814
         obtain rfl : ad812 = ad814:=(by injection e814)
         replace p814:=eq_true p814
         replace q814:=eq_true q814
         have hcz14_0 : wr.cell? ⟨gb808,0,none⟩ = some (.int .i64 x809000_1):=(blk_cell BK808.out 0).trans rfl
         have hcz14_1 : wr.cell? ⟨gb808,1,none⟩ = some (.string x809001_1):=(blk_cell BK808.out 1).trans rfl
         have hcz14_2 : wr.cell? ⟨gb808,2,none⟩ = some (.int .i64 x809002_1):=(blk_cell BK808.out 2).trans rfl
         have hcz14_3 : wr.cell? ⟨gb808,3,none⟩ = some (.int .i64 x809003_1):=(blk_cell BK808.out 3).trans rfl
         have hfz14_0:=blk_frozen BK808.out 0
         have hfz14_1:=blk_frozen BK808.out 1
         have hfz14_2:=blk_frozen BK808.out 2
         have hfz14_3:=blk_frozen BK808.out 3
         go_wp2
         repeat (go_quiet (fail);try go_wp2)
         refine bodyPost_ret (results_ct rfl _ _ gb808 60 #[.int .i64 7,.string (rdOf ByteArray.empty t809 x7_1),.int .i64 0,.int .i64 a1] (0,0) _ rfl (by (with_reducible repeat (first|refine blk_drewN ?_ _|refine blk_drew ?_|refine blk_alloc ?_ _));refine blk_put (cs:=#[.int .i64 7,.string (rdOf ByteArray.empty t809 x7_1),.int .i64 0,.int .i64 x809003_1]) ?_ 3 _ rfl;(with_reducible repeat (first|refine blk_drewN ?_ _|refine blk_drew ?_|refine blk_alloc ?_ _));refine blk_put (cs:=#[.int .i64 7,.string (rdOf ByteArray.empty t809 x7_1),.int .i64 x809002_1,.int .i64 x809003_1]) ?_ 2 _ rfl;(with_reducible repeat (first|refine blk_drewN ?_ _|refine blk_drew ?_|refine blk_alloc ?_ _));refine blk_put (cs:=#[.int .i64 7,.string x809001_1,.int .i64 x809002_1,.int .i64 x809003_1]) ?_ 1 _ rfl;(with_reducible repeat (first|refine blk_drewN ?_ _|refine blk_drew ?_|refine blk_alloc ?_ _));refine blk_put (cs:=#[.int .i64 x809000_1,.string x809001_1,.int .i64 x809002_1,.int .i64 x809003_1]) ?_ 0 _ rfl;(with_reducible repeat (first|refine blk_drewN ?_ _|refine blk_drew ?_|refine blk_alloc ?_ _));exact BK808.out) Tryd.underlying60 rfl (by kernel_rfl)) rfl ?_
         exact ⟨by first|rfl|(simp [errW_none,errW_some] <;> rfl)|(simp [*,errW_none,errW_some] <;> rfl),by repeat (first|(with_reducible first|exact HB.out|apply below_alloc|apply pw_below_drewN|apply below_drew1|refine below_set ?_ GE808.out)|exact HB.out)⟩
        ·rw [if_neg c12] at H
         have c12b0 : ((a0.extract (a1 : Int).toNat ((wrap64 (a1 + ((rdOf ByteArray.empty t809 x7_1).size : Int))) : Int).toNat).toList == (rdOf ByteArray.empty t809 x7_1).toList) = false:=beq_eq_false_iff_ne.mpr c12
         have c12b1 : ((a0.extract (a1 : Int).toNat ((wrap64 (a1 + ((rdOf ByteArray.empty t809 x7_1).size : Int))) : Int).toNat).toList != (rdOf ByteArray.empty t809 x7_1).toList) = true:=bne_iff_ne.mpr c12
         have H':=Aside0.mk H
         clear H
         obtain ⟨Ao15,co15,eo15⟩:=Kd.R_slice HO_6.out
         subst eo15
         have p812 : 0 ≤ (x7_1 : Int):=of_decide_eq_true (by first|(with_reducible assumption)|assumption)
         have q812 : x7_1 < (t809.length : Int):=of_decide_eq_true (by first|(with_reducible assumption)|assumption)
         obtain ⟨ad812,e812,hx812_0⟩:=Kd.at_string (Kd.R_reads' HO_6.out).2.2 x7_1 p812 q812
         cases e812
         replace p812:=eq_true p812
         replace q812:=eq_true q812
         have p813 : 0 ≤ (x7_1 : Int):=of_decide_eq_true (by first|(with_reducible assumption)|assumption)
         have q813 : x7_1 < (t809.length : Int):=of_decide_eq_true (by first|(with_reducible assumption)|assumption)
         obtain ⟨ad813,e813,hx813_0⟩:=Kd.at_string (Kd.R_reads' HO_6.out).2.2 x7_1 p813 q813
         obtain rfl : ad812 = ad813:=(by injection e813)
         replace p813:=eq_true p813
         replace q813:=eq_true q813
         go_wp2
         repeat (go_quiet (fail);try go_wp2)
         go_roundg k1
         case measure=>have:=HK1.out;omega
         case rel=>exact ⟨(wrap64 (x7_1 + 1)),(x809000_1),(x809001_1),(x809002_1),(x809003_1),(by first|rfl|(simp;done)|(simp [*];done)),H',⟨by have:=HK1.out;omega⟩,⟨by (with_reducible repeat (first|apply Kd.R_alloc|apply Kd.R_drewN|apply Kd.R_drew));exact HO_6.out⟩,⟨by (with_reducible repeat (first|refine blk_drewN ?_ _|refine blk_drew ?_|refine blk_alloc ?_ _));exact BK808.out⟩,⟨by repeat (first|(with_reducible first|exact HB.out|apply below_alloc|apply pw_below_drewN|apply below_drew1|refine below_set ?_ GE808.out)|exact HB.out)⟩⟩
       ·rw [if_neg c10] at H
        exact absurd H (by simp)
      ·rw [if_neg c9] at H
       exact absurd H (by simp)
     ·rw [if_neg c8] at H
      have c8b0 : decide ((wrap64 (a1 + ((rdOf ByteArray.empty t809 x7_1).size : Int))) ≤ (a0.size : Int)) = false:=decide_eq_false c8
      clear c8
      have H':=Aside0.mk H
      clear H
      obtain ⟨Ao16,co16,eo16⟩:=Kd.R_slice HO_6.out
      subst eo16
      have p812 : 0 ≤ (x7_1 : Int):=of_decide_eq_true (by first|(with_reducible assumption)|assumption)
      have q812 : x7_1 < (t809.length : Int):=of_decide_eq_true (by first|(with_reducible assumption)|assumption)
      obtain ⟨ad812,e812,hx812_0⟩:=Kd.at_string (Kd.R_reads' HO_6.out).2.2 x7_1 p812 q812
      cases e812
      replace p812:=eq_true p812
      replace q812:=eq_true q812
      go_wp2
      repeat (go_quiet (fail);try go_wp2)
      go_roundg k1
      case measure=>have:=HK1.out;omega
      case rel=>exact ⟨(wrap64 (x7_1 + 1)),(x809000_1),(x809001_1),(x809002_1),(x809003_1),(by first|rfl|(simp;done)|(simp [*];done)),H',⟨by have:=HK1.out;omega⟩,⟨by (with_reducible repeat (first|apply Kd.R_alloc|apply Kd.R_drewN|apply Kd.R_drew));exact HO_6.out⟩,⟨by (with_reducible repeat (first|refine blk_drewN ?_ _|refine blk_drew ?_|refine blk_alloc ?_ _));exact BK808.out⟩,⟨by repeat (first|(with_reducible first|exact HB.out|apply below_alloc|apply pw_below_drewN|apply below_drew1|refine below_set ?_ GE808.out)|exact HB.out)⟩⟩
    ·rw [if_neg c7] at H
     exact absurd H (by simp)
   ·rw [if_neg c6] at H
    have c6b0 : decide (x7_1 < (t809.length : Int)) = false:=decide_eq_false c6
    clear c6
    simp only [Option.some.injEq,Prod.mk.injEq] at H
    obtain ⟨rfl,rfl,rfl,rfl,rfl⟩:=H
    obtain ⟨Ao17,co17,eo17⟩:=Kd.R_slice HO_6.out
    subst eo17
    have hcz18_0 : wr.cell? ⟨gb808,0,none⟩ = some (.int .i64 x809000_1):=(blk_cell BK808.out 0).trans rfl
    have hcz18_1 : wr.cell? ⟨gb808,1,none⟩ = some (.string x809001_1):=(blk_cell BK808.out 1).trans rfl
    have hcz18_2 : wr.cell? ⟨gb808,2,none⟩ = some (.int .i64 x809002_1):=(blk_cell BK808.out 2).trans rfl
    have hcz18_3 : wr.cell? ⟨gb808,3,none⟩ = some (.int .i64 x809003_1):=(blk_cell BK808.out 3).trans rfl
    have hfz18_0:=blk_frozen BK808.out 0
    have hfz18_1:=blk_frozen BK808.out 1
    have hfz18_2:=blk_frozen BK808.out 2
    have hfz18_3:=blk_frozen BK808.out 3
    go_wp2
    repeat (go_quiet (fail);try go_wp2)
    refine bodyPost_ret (results_ct rfl _ _ gb808 60 #[.int .i64 0,.string (⟨#[]⟩ : ByteArray),.int .i64 0,.int .i64 0] (0,0) _ rfl (by (with_reducible repeat (first|refine blk_drewN ?_ _|refine blk_drew ?_|refine blk_alloc ?_ _));refine blk_put (cs:=#[.int .i64 0,.string (⟨#[]⟩ : ByteArray),.int .i64 0,.int .i64 x809003_1]) ?_ 3 _ rfl;(with_reducible repeat (first|refine blk_drewN ?_ _|refine blk_drew ?_|refine blk_alloc ?_ _));refine blk_put (cs:=#[.int .i64 0,.string (⟨#[]⟩ : ByteArray),.int .i64 x809002_1,.int .i64 x809003_1]) ?_ 2 _ rfl;(with_reducible repeat (first|refine blk_drewN ?_ _|refine blk_drew ?_|refine blk_alloc ?_ _));refine blk_put (cs:=#[.int .i64 0,.string x809001_1,.int .i64 x809002_1,.int .i64 x809003_1]) ?_ 1 _ rfl;(with_reducible repeat (first|refine blk_drewN ?_ _|refine blk_drew ?_|refine blk_alloc ?_ _));refine blk_put (cs:=#[.int .i64 x809000_1,.string x809001_1,.int .i64 x809002_1,.int .i64 x809003_1]) ?_ 0 _ rfl;(with_reducible repeat (first|refine blk_drewN ?_ _|refine blk_drew ?_|refine blk_alloc ?_ _));exact BK808.out) Tryd.underlying60 rfl (by kernel_rfl)) rfl ?_
    exact ⟨by first|rfl|(simp [errW_none,errW_some] <;> rfl)|(simp [*,errW_none,errW_some] <;> rfl),by repeat (first|(with_reducible first|exact HB.out|apply below_alloc|apply pw_below_drewN|apply below_drew1|refine below_set ?_ GE808.out)|exact HB.out)⟩
mutual
def spec_Lex.l0 : Nat → ByteArray → List (S60) → Int → Option ((List (S60)) × Int)
 | 0,_,_,_=>none
 | k + 1,x0,x4,x5=>if x5 < (x0.size : Int) then (if 0 ≤ x5 then ((spec_l1digit.f (bt x0 x5)).bind fun t817=>(if t817 = true then ((spec_l3num.f k x0 x5).bind fun bt818=>(if bt818.2.2.2.2 < 0 then (some (([] : List (S60)),x5)) else (if x4.length < 3518437208883 then ((spec_l3blank.f k x0 bt818.2.2.2.2).bind fun t826=>(spec_Lex.l0 k x0 (x4 ++ [(⟨bt818.1,bt818.2.1,bt818.2.2.1,bt818.2.2.2.1⟩ : S60)]) t826)) else (none)))) else (if (bt x0 x5) = 34 then ((spec_l3str.f k x0 x5).bind fun bt827=>(if bt827.2.2.2.2 < 0 then (some (([] : List (S60)),x5)) else (if x4.length < 3518437208883 then ((spec_l3blank.f k x0 bt827.2.2.2.2).bind fun t835=>(spec_Lex.l0 k x0 (x4 ++ [(⟨bt827.1,bt827.2.1,bt827.2.2.1,bt827.2.2.2.1⟩ : S60)]) t835)) else (none)))) else ((spec_l3letter.f (bt x0 x5)).bind fun t836=>(if t836 = true then ((spec_l3name.f k x0 x5).bind fun bt837=>(if bt837.2.2.2.2 < 0 then (some (([] : List (S60)),x5)) else (if x4.length < 3518437208883 then ((spec_l3blank.f k x0 bt837.2.2.2.2).bind fun t845=>(spec_Lex.l0 k x0 (x4 ++ [(⟨bt837.1,bt837.2.1,bt837.2.2.1,bt837.2.2.2.1⟩ : S60)]) t845)) else (none)))) else (if (bt x0 x5) = 47 then ((spec_l3operand.f x4).bind fun t846=>(spec_Lex.j1 k x0 x4 x5 (!t846))) else (spec_Lex.j1 k x0 x4 x5 false))))))) else (none)) else (some (x4,(-1)))
def spec_Lex.j1 : Nat → ByteArray → List (S60) → Int → Bool → Option ((List (S60)) × Int)
 | 0,_,_,_,_=>none
 | k + 1,x0,x4,x5,x56=>if x56 = true then ((spec_l3re.f k x0 x5).bind fun bt847=>(if bt847.2.2.2.2 < 0 then (some (([] : List (S60)),x5)) else (if x4.length < 3518437208883 then ((spec_l3blank.f k x0 bt847.2.2.2.2).bind fun t855=>(spec_Lex.l0 k x0 (x4 ++ [(⟨bt847.1,bt847.2.1,bt847.2.2.1,bt847.2.2.2.1⟩ : S60)]) t855)) else (none)))) else ((spec_l3sign.f k x0 x5).bind fun bt856=>(if bt856.2.2.2.2 < 0 then (some (([] : List (S60)),x5)) else (if x4.length < 3518437208883 then ((spec_l3blank.f k x0 bt856.2.2.2.2).bind fun t864=>(spec_Lex.l0 k x0 (x4 ++ [(⟨bt856.1,bt856.2.1,bt856.2.2.1,bt856.2.2.2.1⟩ : S60)]) t864)) else (none))))
end
def spec_Lex.f (k : Nat) (a0 : ByteArray) : Option ((List (S60)) × Int):=if (a0.size : Int) > 4000 then (some (([] : List (S60)),0)) else ((spec_l3blank.f k a0 0).bind fun t815=>(spec_Lex.l0 k a0 ([] : List (S60)) t815))
end Go.Proofs.YtnfiljnncpieoaaDoor.Q
