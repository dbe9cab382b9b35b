/- What the row of FnWords rests on, and the row: for every input that can be read the call returns true and the input reads as it did; condition: what the row lists of the library reads as the program lays it. -/
import Derived.Test.YtnfiljnncpieoaaDoorKFnWordsb
set_option linter.unusedVariables false
set_option linter.unusedSimpArgs false
namespace Go.Proofs.YtnfiljnncpieoaaDoor.Q
open Go.RowKit Go.Proofs.YtnfiljnncpieoaaDoorW.PrintWords Go.Proofs.YtnfiljnncpieoaaDoorW.PrintLast Go.Proofs.YtnfiljnncpieoaaDoorW.PrintMore
attribute [local go_sem] max2_int min2_int max_two min_two max_three min_three max_four min_four   -- for this text's walks alone
set_option linter.unusedVariables false
set_option linter.unusedSimpArgs false
set_option maxHeartbeats 8000000 in
set_option maxRecDepth 100000 in
theorem impl_lexString.calls (k : Nat) (a0 : ByteArray) (r1 : ByteArray) (r2 : Int) (w : World) (h : impl_lexString.f k a0 = some (r1,r2)) :
  Calls Tryd.prog 113 #[.string a0] w fun e w'=>e = .returned (.tuple #[.string r1,.int .i64 r2]) ∧ Below w.heap.size w w':=by
 have HB:=Aside0.mk (Below.refl w.heap.size w)
 have H : (impl_lexString.l0 k a0 (([] : List Int)) 1) = some (r1,r2):=h
 clear h
 obtain ⟨y607,hy607⟩ : ∃ y_ : List Int,y_ = (([] : List Int)):=⟨_,rfl⟩
 replace H : (impl_lexString.l0 k a0 y607 1) = some (r1,r2):=by first|(rw [hy607];with_reducible exact H)|(have H2_:=(Option.bind_some _ _).symm.trans H;rw [hy607];with_reducible exact H2_)|(have H2_:=(Option.bind_some _ _).symm.trans H;with_reducible exact H2_)|with_reducible exact H|(rw [hy607];exact H)|exact H
 have Ny607:=Aside0.mk hy607
 clear hy607
 have H':=Aside0.mk H
 clear H
 go_enter Tryd.func113,Tryd.ntmps113
 go_wp2_with (first|((with_reducible refine gate_dst (N:=8) rfl ?_);refine Kd.R_lit (Kd.int .u8) _ 5 ?hg (N:=8) ?hd (xs:=([] : List Int)) (inner:=[]) (ok:=fun _=>True) (okp:=fun _=>True) ?hr ?hp (fun _ hk=>hk) trivial (Below.refl _ _) (Nat.le_refl _) (by simp) ?_;(case hd=>rfl);(case hg=>rfl);(case hr=>first|(go_simp;done)|(go_simp;rfl));(case hp=>exact (Reps.none _ _));intro v608 w2 ho3 hb hg_ hnew_;clear hg_ hnew_;(first|rw [← Ny607.out] at ho3|(simp only [Int.reduceToNat] at ho3;rw [← Ny607.out] at ho3));have n0_:=Aside0.mk (Kd.R_lower ho3 (below_size (by repeat (first|(with_reducible first|exact HB.out|apply below_alloc|apply pw_below_drewN|apply below_drew1)|exact HB.out))));have n1_:=Aside0.mk (below_step (by repeat (first|(with_reducible first|exact HB.out|apply below_alloc|apply pw_below_drewN|apply below_drew1)|exact HB.out)) hb);clear HB;have HO609:=n0_;have HB:=n1_;clear n0_ n1_;clear hb ho3))
 go_loopg [4,5] k (fun kq v4 v5 w'=>∃ (x4_1 : List Int) (x5_1 : Int),v5 = .int .i64 x5_1 ∧ Aside0 (impl_lexString.l0 kq a0 x4_1 x5_1 = some (r1,r2)) ∧ Aside0 (kq ≤ k) ∧ Aside0 (Kd.R (Kd.int .u8) 5 w' w.heap.size (fun _=>True) v4 x4_1) ∧ Aside0 (Below w.heap.size w w'))
 case atStart=>exact ⟨(y607),(1),(by first|rfl|(simp;done)|(simp [*];done)),H',⟨Nat.le_refl _⟩,⟨by (with_reducible repeat (first|apply Kd.R_alloc|apply Kd.R_drewN|apply Kd.R_drew));exact HO609.out⟩,⟨by repeat (first|(with_reducible first|exact HB.out|apply below_alloc|apply pw_below_drewN|apply below_drew1)|exact HB.out)⟩⟩
 case round =>
  clear H'
  try clear c1
  try clear p2
  obtain ⟨x4_1,x5_1,rfl,HA,HK1,HO_4,HB⟩:=hrel
  cases gk with
  | zero=>exact absurd HA.out (by simp [impl_lexString.l0])
  | succ k1 =>
   have H:=HA.out
   clear HA
   simp only [impl_lexString.l0] at H
   by_cases c4 : x5_1 < (a0.size : Int)
   ·rw [if_pos c4] at H
    have c4b0 : decide (x5_1 < (a0.size : Int)) = true:=decide_eq_true c4
    clear c4
    by_cases c5 : 0 ≤ x5_1
    ·rw [if_pos c5] at H
     have c5b0 : decide (0 ≤ x5_1) = true:=decide_eq_true c5
     clear c5
     by_cases c7 : (bt a0 x5_1) = 34
     ·rw [if_pos c7] at H
      have c7b0 : ((bt a0 x5_1) == 34) = true:=beq_iff_eq.mpr c7
      have c7b1 : ((bt a0 x5_1) != 34) = false:=bne_eq_false_iff_eq.mpr c7
      clear c7
      simp only [Option.some.injEq,Prod.mk.injEq] at H
      obtain ⟨rfl,rfl⟩:=H
      have p6 : 0 ≤ (x5_1 : Int):=of_decide_eq_true (by first|(with_reducible assumption)|assumption)
      have q6 : x5_1 < (a0.size : Int):=of_decide_eq_true (by first|(with_reducible assumption)|assumption)
      have hx6:=bt_at a0 x5_1
      replace p6:=eq_true p6
      replace q6:=eq_true q6
      have hcv8:=own_string (P:=Tryd.prog) Tryd.underlying31 Tryd.underlying5 Tryd.underlying9 (Kd.own_of_R HO_4.out)
      go_wp2
      go_ret2
      exact ⟨by first|rfl|(simp [errW_none,errW_some] <;> rfl)|(simp [*,errW_none,errW_some] <;> rfl),by repeat (first|(with_reducible first|exact HB.out|apply below_alloc|apply pw_below_drewN|apply below_drew1)|exact HB.out)⟩
     ·rw [if_neg c7] at H
      have c7b0 : ((bt a0 x5_1) == 34) = false:=beq_eq_false_iff_ne.mpr c7
      have c7b1 : ((bt a0 x5_1) != 34) = true:=bne_iff_ne.mpr c7
      by_cases c9 : (bt a0 x5_1) = 10
      ·rw [if_pos c9] at H
       have c9b0 : ((bt a0 x5_1) == 10) = true:=beq_iff_eq.mpr c9
       have c9b1 : ((bt a0 x5_1) != 10) = false:=bne_eq_false_iff_eq.mpr c9
       clear c9
       simp only [Option.some.injEq,Prod.mk.injEq] at H
       obtain ⟨rfl,rfl⟩:=H
       have p6 : 0 ≤ (x5_1 : Int):=of_decide_eq_true (by first|(with_reducible assumption)|assumption)
       have q6 : x5_1 < (a0.size : Int):=of_decide_eq_true (by first|(with_reducible assumption)|assumption)
       have hx6:=bt_at a0 x5_1
       replace p6:=eq_true p6
       replace q6:=eq_true q6
       go_wp2
       go_ret2
       exact ⟨by first|rfl|(simp [errW_none,errW_some] <;> rfl)|(simp [*,errW_none,errW_some] <;> rfl),by repeat (first|(with_reducible first|exact HB.out|apply below_alloc|apply pw_below_drewN|apply below_drew1)|exact HB.out)⟩
      ·rw [if_neg c9] at H
       have c9b0 : ((bt a0 x5_1) == 10) = false:=beq_eq_false_iff_ne.mpr c9
       have c9b1 : ((bt a0 x5_1) != 10) = true:=bne_iff_ne.mpr c9
       by_cases c10 : (bt a0 x5_1) = 92
       ·rw [if_pos c10] at H
        have c10b0 : ((bt a0 x5_1) == 92) = true:=beq_iff_eq.mpr c10
        have c10b1 : ((bt a0 x5_1) != 92) = false:=bne_eq_false_iff_eq.mpr c10
        clear c10
        by_cases c11 : (wrap64 (x5_1 + 1)) ≥ (a0.size : Int)
        ·rw [if_pos c11] at H
         have c11b0 : decide ((a0.size : Int) ≤ (wrap64 (x5_1 + 1))) = true:=decide_eq_true c11
         clear c11
         simp only [Option.some.injEq,Prod.mk.injEq] at H
         obtain ⟨rfl,rfl⟩:=H
         have p6 : 0 ≤ (x5_1 : Int):=of_decide_eq_true (by first|(with_reducible assumption)|assumption)
         have q6 : x5_1 < (a0.size : Int):=of_decide_eq_true (by first|(with_reducible assumption)|assumption)
         have hx6:=bt_at a0 x5_1
         replace p6:=eq_true p6
         replace q6:=eq_true q6
         go_wp2
         go_ret2
         exact ⟨by first|rfl|(simp [errW_none,errW_some] <;> rfl)|(simp [*,errW_none,errW_some] <;> rfl),by repeat (first|(with_reducible first|exact HB.out|apply below_alloc|apply pw_below_drewN|apply below_drew1)|exact HB.out)⟩
        ·rw [if_neg c11] at H
         have c11b0 : decide ((a0.size : Int) ≤ (wrap64 (x5_1 + 1))) = false:=decide_eq_false c11
         clear c11
         obtain ⟨ji12,hji12⟩ : ∃ j_ : Int,(wrap64 (x5_1 + 1)) = j_:=⟨_,rfl⟩
         replace H : (if 0 ≤ (ji12) then (if (ji12) < (a0.size : Int) then ((strings_IndexByte.f (⟨#[110,116,34,92]⟩ : ByteArray) (bt a0 (ji12))).bind fun t610=>(if t610 < 0 then (some ((⟨#[]⟩ : ByteArray),0)) else (if 0 ≤ t610 then (if t610 < 4 then (if x4_1.length < 140737488355328 then (impl_lexString.l0 k1 a0 (x4_1 ++ [bt (⟨#[10,9,34,92]⟩ : ByteArray) t610]) (wrap64 ((ji12) + 1))) else (none)) else (none)) else (none)))) else (none)) else (none)) = some (r1,r2):=by first|(rw [hji12] at H;exact H)|(simp only [hji12] at H ⊢;exact H)
         (try rw [hji12] at c11b0)
         have hji12w : (IntKind.i64.wrap (x5_1 + 1)) = ji12:=(i64_w _).trans hji12
         by_cases c13 : 0 ≤ (ji12)
         ·rw [if_pos c13] at H
          have c13b0 : decide (0 ≤ (ji12)) = true:=decide_eq_true c13
          clear c13
          by_cases c14 : (ji12) < (a0.size : Int)
          ·rw [if_pos c14] at H
           have c14b0 : decide ((ji12) < (a0.size : Int)) = true:=decide_eq_true c14
           clear c14
           replace H:=Option.bind_eq_some_iff.mp H
           obtain ⟨t610,A160,H⟩:=H
           replace H : (if t610 < 0 then (some ((⟨#[]⟩ : ByteArray),0)) else (if 0 ≤ t610 then (if t610 < 4 then (if x4_1.length < 140737488355328 then (impl_lexString.l0 k1 a0 (x4_1 ++ [bt (⟨#[10,9,34,92]⟩ : ByteArray) t610]) (wrap64 ((ji12) + 1))) else (none)) else (none)) else (none))) = some (r1,r2):=H
           have A16:=Aside0.mk A160
           clear A160
           by_cases c17 : t610 < 0
           ·rw [if_pos c17] at H
            have c17b0 : decide (t610 < 0) = true:=decide_eq_true c17
            clear c17
            simp only [Option.some.injEq,Prod.mk.injEq] at H
            obtain ⟨rfl,rfl⟩:=H
            have p6 : 0 ≤ (x5_1 : Int):=of_decide_eq_true (by first|(with_reducible assumption)|assumption)
            have q6 : x5_1 < (a0.size : Int):=of_decide_eq_true (by first|(with_reducible assumption)|assumption)
            have hx6:=bt_at a0 x5_1
            replace p6:=eq_true p6
            replace q6:=eq_true q6
            have p15 : 0 ≤ ((ji12) : Int):=of_decide_eq_true (by first|(with_reducible assumption)|assumption)
            have q15 : (ji12) < (a0.size : Int):=of_decide_eq_true (by first|(with_reducible assumption)|assumption)
            have hx15:=bt_at a0 (ji12)
            replace p15:=eq_true p15
            replace q15:=eq_true q15
            go_wp2_with (first|((with_reducible refine gate_callee (f:=122) rfl ?_);refine goesL_ (some 38) rfl rfl Tryd.func122 (by kernel_rfl) rfl #[.string (⟨#[110,116,34,92]⟩ : ByteArray),.int .u8 (bt a0 (ji12))] rfl (by (try simp only [List.map_toArray,List.map_cons,List.map_nil]);first|done|(simp only [hji12];rfl)|rfl|(simp only [List.length_drop,List.length_take];rfl)) ?_;(with_reducible refine (strings_IndexByte.calls (⟨#[110,116,34,92]⟩ : ByteArray) (bt a0 (ji12)) t610 _ A16.out).mono ?_);rintro e w' ⟨rfl,⟨nd,rfl⟩⟩;refine ⟨_,rfl,?_⟩))
            go_ret2
            exact ⟨by first|rfl|(simp [errW_none,errW_some] <;> rfl)|(simp only [← hji12];first|rfl|(simp [errW_none,errW_some] <;> rfl))|(simp [*,errW_none,errW_some] <;> rfl),by repeat (first|(with_reducible first|exact HB.out|apply below_alloc|apply pw_below_drewN|apply below_drew1)|exact HB.out)⟩
           ·rw [if_neg c17] at H
            have c17b0 : decide (t610 < 0) = false:=decide_eq_false c17
            clear c17
            by_cases c18 : 0 ≤ t610
            ·rw [if_pos c18] at H
             have c18b0 : decide (0 ≤ t610) = true:=decide_eq_true c18
             clear c18
             by_cases c19 : t610 < 4
             ·rw [if_pos c19] at H
              have c19b0 : decide (t610 < 4) = true:=decide_eq_true c19
              clear c19
              by_cases c21 : x4_1.length < 140737488355328
              ·rw [if_pos c21] at H
               have LMc21:=Aside0.mk c21
               clear c21
               obtain ⟨y611,hy611⟩ : ∃ y_ : List Int,y_ = (x4_1 ++ [bt (⟨#[10,9,34,92]⟩ : ByteArray) t610]):=⟨_,rfl⟩
               replace H : (impl_lexString.l0 k1 a0 y611 (wrap64 ((ji12) + 1))) = some (r1,r2):=by first|(rw [hy611];with_reducible exact H)|(have H2_:=(Option.bind_some _ _).symm.trans H;rw [hy611];with_reducible exact H2_)|(have H2_:=(Option.bind_some _ _).symm.trans H;with_reducible exact H2_)|with_reducible exact H|(rw [hy611];exact H)|exact H
               have Ny611:=Aside0.mk hy611
               clear hy611
               have H':=Aside0.mk H
               clear H
               have p6 : 0 ≤ (x5_1 : Int):=of_decide_eq_true (by first|(with_reducible assumption)|assumption)
               have q6 : x5_1 < (a0.size : Int):=of_decide_eq_true (by first|(with_reducible assumption)|assumption)
               have hx6:=bt_at a0 x5_1
               replace p6:=eq_true p6
               replace q6:=eq_true q6
               have p15 : 0 ≤ ((ji12) : Int):=of_decide_eq_true (by first|(with_reducible assumption)|assumption)
               have q15 : (ji12) < (a0.size : Int):=of_decide_eq_true (by first|(with_reducible assumption)|assumption)
               have hx15:=bt_at a0 (ji12)
               replace p15:=eq_true p15
               replace q15:=eq_true q15
               go_wp2_with (first|((with_reducible refine gate_callee (f:=122) rfl ?_);refine goesL_ (some 38) rfl rfl Tryd.func122 (by kernel_rfl) rfl #[.string (⟨#[110,116,34,92]⟩ : ByteArray),.int .u8 (bt a0 (ji12))] rfl (by (try simp only [List.map_toArray,List.map_cons,List.map_nil]);first|done|(simp only [hji12];rfl)|rfl|(simp only [List.length_drop,List.length_take];rfl)) ?_;(with_reducible refine (strings_IndexByte.calls (⟨#[110,116,34,92]⟩ : ByteArray) (bt a0 (ji12)) t610 _ A16.out).mono ?_);rintro e w' ⟨rfl,⟨nd,rfl⟩⟩;refine ⟨_,rfl,?_⟩;have p20 : 0 ≤ (t610 : Int):=of_decide_eq_true (by first|(with_reducible assumption)|assumption);have q20 : t610 < (4 : Int):=of_decide_eq_true (by first|(with_reducible assumption)|assumption);have hx20:=bt_at (⟨#[10,9,34,92]⟩ : ByteArray) t610;replace p20:=eq_true p20;replace q20:=eq_true q20)|((with_reducible refine gate_builtin (b:=.append) (xs:=#[.tmp 43,.tmp 45]) rfl ?_);at_builtin;refine Kd.R_append (Kd.int .u8) (w0:=w) w.heap.size rfl (.tmp 43) (.tmp 45) 31 5 (.int .u8 0) 1 rfl Tryd.underlying31 info5 rfl (by decide) (by omega) u4 x4_1 (bt (⟨#[10,9,34,92]⟩ : ByteArray) t610) [.int .u8 (bt (⟨#[10,9,34,92]⟩ : ByteArray) t610)] (fun _=>True) (fun _=>False) rfl rfl ?aP (fun _ hk=>hk.elim) ?aF ?aO ?aB ?aS ?aL ?_;(case aP=>exact rfl);(case aB=>exact (by repeat (first|(with_reducible first|exact HB.out|apply below_alloc|apply pw_below_drewN|apply below_drew1)|exact HB.out)));(case aF=>exact (fun _ _=>trivial));(case aO=>exact (by (with_reducible repeat (first|apply Kd.R_alloc|apply Kd.R_drewN|apply Kd.R_drew));exact HO_4.out));(case aS=>exact (below_size (by repeat (first|(with_reducible first|exact HB.out|apply below_alloc|apply pw_below_drewN|apply below_drew1)|exact HB.out))));(case aL=>have:=LMc21.out;omega);intro v612 w22 ho hb hg hat;rw [← Ny611.out] at ho;have n0_:=Aside0.mk (hb);have n1_:=Aside0.mk (ho);clear HB;clear HO_4;have HB:=n0_;have HO613:=n1_;clear n0_ n1_;clear ho hb hg hat))
               go_roundg k1
               case measure=>have:=HK1.out;omega
               case rel=>exact ⟨(y611),(wrap64 ((ji12) + 1)),(by first|rfl|(simp;done)|(simp only [← hji12] <;> (first|rfl|simp))|(simp [*];done)),H',⟨by have:=HK1.out;omega⟩,⟨by (with_reducible repeat (first|apply Kd.R_alloc|apply Kd.R_drewN|apply Kd.R_drew));exact HO613.out⟩,⟨by repeat (first|(with_reducible first|exact HB.out|apply below_alloc|apply pw_below_drewN|apply below_drew1)|exact HB.out)⟩⟩
              ·rw [if_neg c21] at H
               exact absurd H (by simp)
             ·rw [if_neg c19] at H
              exact absurd H (by simp)
            ·rw [if_neg c18] at H
             exact absurd H (by simp)
          ·rw [if_neg c14] at H
           exact absurd H (by simp)
         ·rw [if_neg c13] at H
          exact absurd H (by simp)
       ·rw [if_neg c10] at H
        have c10b0 : ((bt a0 x5_1) == 92) = false:=beq_eq_false_iff_ne.mpr c10
        have c10b1 : ((bt a0 x5_1) != 92) = true:=bne_iff_ne.mpr c10
        by_cases c23 : x4_1.length < 140737488355328
        ·rw [if_pos c23] at H
         have LMc23:=Aside0.mk c23
         clear c23
         obtain ⟨y614,hy614⟩ : ∃ y_ : List Int,y_ = (x4_1 ++ [bt a0 x5_1]):=⟨_,rfl⟩
         replace H : (impl_lexString.l0 k1 a0 y614 (wrap64 (x5_1 + 1))) = some (r1,r2):=by first|(rw [hy614];with_reducible exact H)|(have H2_:=(Option.bind_some _ _).symm.trans H;rw [hy614];with_reducible exact H2_)|(have H2_:=(Option.bind_some _ _).symm.trans H;with_reducible exact H2_)|with_reducible exact H|(rw [hy614];exact H)|exact H
         have Ny614:=Aside0.mk hy614
         clear hy614
         have H':=Aside0.mk H
         clear H
         have p6 : 0 ≤ (x5_1 : Int):=of_decide_eq_true (by first|(with_reducible assumption)|assumption)
         have q6 : x5_1 < (a0.size : Int):=of_decide_eq_true (by first|(with_reducible assumption)|assumption)
         have hx6:=bt_at a0 x5_1
         replace p6:=eq_true p6
         replace q6:=eq_true q6
         go_wp2_with (first|((with_reducible refine gate_builtin (b:=.append) (xs:=#[.tmp 43,.tmp 45]) rfl ?_);at_builtin;refine Kd.R_append (Kd.int .u8) (w0:=w) w.heap.size rfl (.tmp 43) (.tmp 45) 31 5 (.int .u8 0) 1 rfl Tryd.underlying31 info5 rfl (by decide) (by omega) u4 x4_1 (bt a0 x5_1) [.int .u8 (bt a0 x5_1)] (fun _=>True) (fun _=>False) rfl rfl ?aP (fun _ hk=>hk.elim) ?aF ?aO ?aB ?aS ?aL ?_;(case aP=>exact rfl);(case aB=>exact (by repeat (first|(with_reducible first|exact HB.out|apply below_alloc|apply pw_below_drewN|apply below_drew1)|exact HB.out)));(case aF=>exact (fun _ _=>trivial));(case aO=>exact (by (with_reducible repeat (first|apply Kd.R_alloc|apply Kd.R_drewN|apply Kd.R_drew));exact HO_4.out));(case aS=>exact (below_size (by repeat (first|(with_reducible first|exact HB.out|apply below_alloc|apply pw_below_drewN|apply below_drew1)|exact HB.out))));(case aL=>have:=LMc23.out;omega);intro v615 w24 ho hb hg hat;rw [← Ny614.out] at ho;have n0_:=Aside0.mk (hb);have n1_:=Aside0.mk (ho);clear HB;clear HO_4;have HB:=n0_;have HO616:=n1_;clear n0_ n1_;clear ho hb hg hat))
         go_roundg k1
         case measure=>have:=HK1.out;omega
         case rel=>exact ⟨(y614),(wrap64 (x5_1 + 1)),(by first|rfl|(simp;done)|(simp [*];done)),H',⟨by have:=HK1.out;omega⟩,⟨by (with_reducible repeat (first|apply Kd.R_alloc|apply Kd.R_drewN|apply Kd.R_drew));exact HO616.out⟩,⟨by repeat (first|(with_reducible first|exact HB.out|apply below_alloc|apply pw_below_drewN|apply below_drew1)|exact HB.out)⟩⟩
        ·rw [if_neg c23] at H
         exact absurd H (by simp)
    ·rw [if_neg c5] at H
     exact absurd H (by simp)
   ·rw [if_neg c4] at H
    have c4b0 : decide (x5_1 < (a0.size : Int)) = false:=decide_eq_false c4
    clear c4
    simp only [Option.some.injEq,Prod.mk.injEq] at H
    obtain ⟨rfl,rfl⟩:=H
    go_wp2
    go_ret2
    exact ⟨by first|rfl|(simp [errW_none,errW_some] <;> rfl)|(simp [*,errW_none,errW_some] <;> rfl),by repeat (first|(with_reducible first|exact HB.out|apply below_alloc|apply pw_below_drewN|apply below_drew1)|exact HB.out)⟩
def impl_endsOperand.f (a0_0 : Int) (a0_1 : ByteArray) (a0_2 : Int) (a0_3 : Int) : Option (Bool):=if a0_0 = 1 then (some true) else (if a0_0 = 2 then (some true) else (if a0_0 = 3 then (some true) else (if a0_0 = 4 then (some true) else (if a0_0 = 7 then (if a0_1.toList = ([41] : List UInt8) then (some true) else (some (a0_1.toList == ([93] : List UInt8)))) else (some false)))))
set_option maxHeartbeats 8000000 in
set_option maxRecDepth 100000 in
theorem impl_endsOperand.calls (a0_0 : Int) (a0_1 : ByteArray) (a0_2 : Int) (a0_3 : Int) (r : Bool) (w : World) (h : impl_endsOperand.f a0_0 a0_1 a0_2 a0_3 = some r) :
  Calls Tryd.prog 114 #[.agg #[.int .i64 a0_0,.string a0_1,.int .i64 a0_2,.int .i64 a0_3]] w fun e w'=>e = .returned (.bool r) ∧ Below w.heap.size w w':=by
 have hu60:=Tryd.underlying60
 have HB:=Aside0.mk (Below.refl w.heap.size w)
 have H : (if a0_0 = 1 then (some true) else (if a0_0 = 2 then (some true) else (if a0_0 = 3 then (some true) else (if a0_0 = 4 then (some true) else (if a0_0 = 7 then (if a0_1.toList = ([41] : List UInt8) then (some true) else (some (a0_1.toList == ([93] : List UInt8)))) else (some false)))))) = some r:=h
 clear h
 by_cases c2 : a0_0 = 1
 ·rw [if_pos c2] at H
  have c2b0 : (a0_0 == 1) = true:=beq_iff_eq.mpr c2
  have c2b1 : (a0_0 != 1) = false:=bne_eq_false_iff_eq.mpr c2
  clear c2
  obtain rfl:=Option.some.inj H
  go_enter Tryd.func114,Tryd.ntmps114
  go_wp2_with (first|((with_reducible refine gate_dst (N:=1) rfl ?_);refine box_event ?hg (N:=1) ?hd (cs:=#[.int .i64 a0_0,.string a0_1,.int .i64 a0_2,.int .i64 a0_3]) (t:=60) ?hr ?_;(case hd=>rfl);(case hg=>rfl);(case hr=>first|(go_simp;done)|(go_simp;rfl));intro gb617 hg w3 hbox hb;have n0_:=Aside0.mk (below_step (by repeat (first|(with_reducible first|exact HB.out|apply below_alloc|apply pw_below_drewN|apply below_drew1)|exact HB.out)) hb);have n1_:=Aside0.mk (hbox);have n2_:=Aside0.mk ((by rw [hg];exact (below_size (by repeat (first|(with_reducible first|exact HB.out|apply below_alloc|apply pw_below_drewN|apply below_drew1)|exact HB.out))) : w.heap.size ≤ gb617));have n3_:=Aside0.mk ((by rw [hg];exact (below_size (by repeat (first|(with_reducible first|exact HB.out|apply below_alloc|apply pw_below_drewN|apply below_drew1)|exact HB.out))) : w.heap.size ≤ gb617));clear HB;have HB:=n0_;have BK617:=n1_;have GW617:=n2_;have GE617:=n3_;clear n0_ n1_ n2_ n3_;clear hb hbox hg;have hcz4_0 : w3.cell? ⟨gb617,0,none⟩ = some (.int .i64 a0_0):=(blk_cell BK617.out 0).trans rfl;have hcz4_1 : w3.cell? ⟨gb617,1,none⟩ = some (.string a0_1):=(blk_cell BK617.out 1).trans rfl;have hcz4_2 : w3.cell? ⟨gb617,2,none⟩ = some (.int .i64 a0_2):=(blk_cell BK617.out 2).trans rfl;have hcz4_3 : w3.cell? ⟨gb617,3,none⟩ = some (.int .i64 a0_3):=(blk_cell BK617.out 3).trans rfl;have hfz4_0:=blk_frozen BK617.out 0;have hfz4_1:=blk_frozen BK617.out 1;have hfz4_2:=blk_frozen BK617.out 2;have hfz4_3:=blk_frozen BK617.out 3))
  go_ret
  exact ⟨by first|rfl|(simp [errW_none,errW_some] <;> rfl)|(simp [*,errW_none,errW_some] <;> rfl),by repeat (first|(with_reducible first|exact HB.out|apply below_alloc|apply pw_below_drewN|apply below_drew1|refine below_set ?_ GE617.out)|exact HB.out)⟩
 ·rw [if_neg c2] at H
  have c2b0 : (a0_0 == 1) = false:=beq_eq_false_iff_ne.mpr c2
  have c2b1 : (a0_0 != 1) = true:=bne_iff_ne.mpr c2
  by_cases c5 : a0_0 = 2
  ·rw [if_pos c5] at H
   have c5b0 : (a0_0 == 2) = true:=beq_iff_eq.mpr c5
   have c5b1 : (a0_0 != 2) = false:=bne_eq_false_iff_eq.mpr c5
   clear c5
   obtain rfl:=Option.some.inj H
   go_enter Tryd.func114,Tryd.ntmps114
   go_wp2_with (first|((with_reducible refine gate_dst (N:=1) rfl ?_);refine box_event ?hg (N:=1) ?hd (cs:=#[.int .i64 a0_0,.string a0_1,.int .i64 a0_2,.int .i64 a0_3]) (t:=60) ?hr ?_;(case hd=>rfl);(case hg=>rfl);(case hr=>first|(go_simp;done)|(go_simp;rfl));intro gb617 hg w6 hbox hb;have n0_:=Aside0.mk (below_step (by repeat (first|(with_reducible first|exact HB.out|apply below_alloc|apply pw_below_drewN|apply below_drew1)|exact HB.out)) hb);have n1_:=Aside0.mk (hbox);have n2_:=Aside0.mk ((by rw [hg];exact (below_size (by repeat (first|(with_reducible first|exact HB.out|apply below_alloc|apply pw_below_drewN|apply below_drew1)|exact HB.out))) : w.heap.size ≤ gb617));have n3_:=Aside0.mk ((by rw [hg];exact (below_size (by repeat (first|(with_reducible first|exact HB.out|apply below_alloc|apply pw_below_drewN|apply below_drew1)|exact HB.out))) : w.heap.size ≤ gb617));clear HB;have HB:=n0_;have BK617:=n1_;have GW617:=n2_;have GE617:=n3_;clear n0_ n1_ n2_ n3_;clear hb hbox hg;have hcz7_0 : w6.cell? ⟨gb617,0,none⟩ = some (.int .i64 a0_0):=(blk_cell BK617.out 0).trans rfl;have hcz7_1 : w6.cell? ⟨gb617,1,none⟩ = some (.string a0_1):=(blk_cell BK617.out 1).trans rfl;have hcz7_2 : w6.cell? ⟨gb617,2,none⟩ = some (.int .i64 a0_2):=(blk_cell BK617.out 2).trans rfl;have hcz7_3 : w6.cell? ⟨gb617,3,none⟩ = some (.int .i64 a0_3):=(blk_cell BK617.out 3).trans rfl;have hfz7_0:=blk_frozen BK617.out 0;have hfz7_1:=blk_frozen BK617.out 1;have hfz7_2:=blk_frozen BK617.out 2;have hfz7_3:=blk_frozen BK617.out 3))
   go_ret
   exact ⟨by first|rfl|(simp [errW_none,errW_some] <;> rfl)|(simp [*,errW_none,errW_some] <;> rfl),by repeat (first|(with_reducible first|exact HB.out|apply below_alloc|apply pw_below_drewN|apply below_drew1|refine below_set ?_ GE617.out)|exact HB.out)⟩
  ·rw [if_neg c5] at H
   have c5b0 : (a0_0 == 2) = false:=beq_eq_false_iff_ne.mpr c5
   have c5b1 : (a0_0 != 2) = true:=bne_iff_ne.mpr c5
   by_cases c8 : a0_0 = 3
   ·rw [if_pos c8] at H
    have c8b0 : (a0_0 == 3) = true:=beq_iff_eq.mpr c8
    have c8b1 : (a0_0 != 3) = false:=bne_eq_false_iff_eq.mpr c8
    clear c8
    obtain rfl:=Option.some.inj H
    go_enter Tryd.func114,Tryd.ntmps114
    go_wp2_with (first|((with_reducible refine gate_dst (N:=1) rfl ?_);refine box_event ?hg (N:=1) ?hd (cs:=#[.int .i64 a0_0,.string a0_1,.int .i64 a0_2,.int .i64 a0_3]) (t:=60) ?hr ?_;(case hd=>rfl);(case hg=>rfl);(case hr=>first|(go_simp;done)|(go_simp;rfl));intro gb617 hg w9 hbox hb;have n0_:=Aside0.mk (below_step (by repeat (first|(with_reducible first|exact HB.out|apply below_alloc|apply pw_below_drewN|apply below_drew1)|exact HB.out)) hb);have n1_:=Aside0.mk (hbox);have n2_:=Aside0.mk ((by rw [hg];exact (below_size (by repeat (first|(with_reducible first|exact HB.out|apply below_alloc|apply pw_below_drewN|apply below_drew1)|exact HB.out))) : w.heap.size ≤ gb617));have n3_:=Aside0.mk ((by rw [hg];exact (below_size (by repeat (first|(with_reducible first|exact HB.out|apply below_alloc|apply pw_below_drewN|apply below_drew1)|exact HB.out))) : w.heap.size ≤ gb617));clear HB;have HB:=n0_;have BK617:=n1_;have GW617:=n2_;have GE617:=n3_;clear n0_ n1_ n2_ n3_;clear hb hbox hg;have hcz10_0 : w9.cell? ⟨gb617,0,none⟩ = some (.int .i64 a0_0):=(blk_cell BK617.out 0).trans rfl;have hcz10_1 : w9.cell? ⟨gb617,1,none⟩ = some (.string a0_1):=(blk_cell BK617.out 1).trans rfl;have hcz10_2 : w9.cell? ⟨gb617,2,none⟩ = some (.int .i64 a0_2):=(blk_cell BK617.out 2).trans rfl;have hcz10_3 : w9.cell? ⟨gb617,3,none⟩ = some (.int .i64 a0_3):=(blk_cell BK617.out 3).trans rfl;have hfz10_0:=blk_frozen BK617.out 0;have hfz10_1:=blk_frozen BK617.out 1;have hfz10_2:=blk_frozen BK617.out 2;have hfz10_3:=blk_frozen BK617.out 3))
    go_ret
    exact ⟨by first|rfl|(simp [errW_none,errW_some] <;> rfl)|(simp [*,errW_none,errW_some] <;> rfl),by repeat (first|(with_reducible first|exact HB.out|apply below_alloc|apply pw_below_drewN|apply below_drew1|refine below_set ?_ GE617.out)|exact HB.out)⟩
   ·rw [if_neg c8] at H
    have c8b0 : (a0_0 == 3) = false:=beq_eq_false_iff_ne.mpr c8
    have c8b1 : (a0_0 != 3) = true:=bne_iff_ne.mpr c8
    by_cases c11 : a0_0 = 4
    ·rw [if_pos c11] at H
     have c11b0 : (a0_0 == 4) = true:=beq_iff_eq.mpr c11
     have c11b1 : (a0_0 != 4) = false:=bne_eq_false_iff_eq.mpr c11
     clear c11
     obtain rfl:=Option.some.inj H
     go_enter Tryd.func114,Tryd.ntmps114
     go_wp2_with (first|((with_reducible refine gate_dst (N:=1) rfl ?_);refine box_event ?hg (N:=1) ?hd (cs:=#[.int .i64 a0_0,.string a0_1,.int .i64 a0_2,.int .i64 a0_3]) (t:=60) ?hr ?_;(case hd=>rfl);(case hg=>rfl);(case hr=>first|(go_simp;done)|(go_simp;rfl));intro gb617 hg w12 hbox hb;have n0_:=Aside0.mk (below_step (by repeat (first|(with_reducible first|exact HB.out|apply below_alloc|apply pw_below_drewN|apply below_drew1)|exact HB.out)) hb);have n1_:=Aside0.mk (hbox);have n2_:=Aside0.mk ((by rw [hg];exact (below_size (by repeat (first|(with_reducible first|exact HB.out|apply below_alloc|apply pw_below_drewN|apply below_drew1)|exact HB.out))) : w.heap.size ≤ gb617));have n3_:=Aside0.mk ((by rw [hg];exact (below_size (by repeat (first|(with_reducible first|exact HB.out|apply below_alloc|apply pw_below_drewN|apply below_drew1)|exact HB.out))) : w.heap.size ≤ gb617));clear HB;have HB:=n0_;have BK617:=n1_;have GW617:=n2_;have GE617:=n3_;clear n0_ n1_ n2_ n3_;clear hb hbox hg;have hcz13_0 : w12.cell? ⟨gb617,0,none⟩ = some (.int .i64 a0_0):=(blk_cell BK617.out 0).trans rfl;have hcz13_1 : w12.cell? ⟨gb617,1,none⟩ = some (.string a0_1):=(blk_cell BK617.out 1).trans rfl;have hcz13_2 : w12.cell? ⟨gb617,2,none⟩ = some (.int .i64 a0_2):=(blk_cell BK617.out 2).trans rfl;have hcz13_3 : w12.cell? ⟨gb617,3,none⟩ = some (.int .i64 a0_3):=(blk_cell BK617.out 3).trans rfl;have hfz13_0:=blk_frozen BK617.out 0;have hfz13_1:=blk_frozen BK617.out 1;have hfz13_2:=blk_frozen BK617.out 2;have hfz13_3:=blk_frozen BK617.out 3))
     go_ret
     exact ⟨by first|rfl|(simp [errW_none,errW_some] <;> rfl)|(simp [*,errW_none,errW_some] <;> rfl),by repeat (first|(with_reducible first|exact HB.out|apply below_alloc|apply pw_below_drewN|apply below_drew1|refine below_set ?_ GE617.out)|exact HB.out)⟩
    ·rw [if_neg c11] at H
     have c11b0 : (a0_0 == 4) = false:=beq_eq_false_iff_ne.mpr c11
     have c11b1 : (a0_0 != 4) = true:=bne_iff_ne.mpr c11
     by_cases c14 : a0_0 = 7
     ·rw [if_pos c14] at H
      have c14b0 : (a0_0 == 7) = true:=beq_iff_eq.mpr c14
      have c14b1 : (a0_0 != 7) = false:=bne_eq_false_iff_eq.mpr c14
      clear c14
      by_cases c15 : a0_1.toList = ([41] : List UInt8)
      ·rw [if_pos c15] at H
       have c15b0 : (a0_1.toList == ([41] : List UInt8)) = true:=beq_iff_eq.mpr c15
       have c15b1 : (a0_1.toList != ([41] : List UInt8)) = false:=bne_eq_false_iff_eq.mpr c15
       clear c15
       obtain rfl:=Option.some.inj H
       go_enter Tryd.func114,Tryd.ntmps114
       go_wp2_with (first|((with_reducible refine gate_dst (N:=1) rfl ?_);refine box_event ?hg (N:=1) ?hd (cs:=#[.int .i64 a0_0,.string a0_1,.int .i64 a0_2,.int .i64 a0_3]) (t:=60) ?hr ?_;(case hd=>rfl);(case hg=>rfl);(case hr=>first|(go_simp;done)|(go_simp;rfl));intro gb617 hg w16 hbox hb;have n0_:=Aside0.mk (below_step (by repeat (first|(with_reducible first|exact HB.out|apply below_alloc|apply pw_below_drewN|apply below_drew1)|exact HB.out)) hb);have n1_:=Aside0.mk (hbox);have n2_:=Aside0.mk ((by rw [hg];exact (below_size (by repeat (first|(with_reducible first|exact HB.out|apply below_alloc|apply pw_below_drewN|apply below_drew1)|exact HB.out))) : w.heap.size ≤ gb617));have n3_:=Aside0.mk ((by rw [hg];exact (below_size (by repeat (first|(with_reducible first|exact HB.out|apply below_alloc|apply pw_below_drewN|apply below_drew1)|exact HB.out))) : w.heap.size ≤ gb617));clear HB;have HB:=n0_;have BK617:=n1_;have GW617:=n2_;have GE617:=n3_;clear n0_ n1_ n2_ n3_;clear hb hbox hg;have hcz17_0 : w16.cell? ⟨gb617,0,none⟩ = some (.int .i64 a0_0):=(blk_cell BK617.out 0).trans rfl;have hcz17_1 : w16.cell? ⟨gb617,1,none⟩ = some (.string a0_1):=(blk_cell BK617.out 1).trans rfl;have hcz17_2 : w16.cell? ⟨gb617,2,none⟩ = some (.int .i64 a0_2):=(blk_cell BK617.out 2).trans rfl;have hcz17_3 : w16.cell? ⟨gb617,3,none⟩ = some (.int .i64 a0_3):=(blk_cell BK617.out 3).trans rfl;have hfz17_0:=blk_frozen BK617.out 0;have hfz17_1:=blk_frozen BK617.out 1;have hfz17_2:=blk_frozen BK617.out 2;have hfz17_3:=blk_frozen BK617.out 3))
       go_ret
       exact ⟨by first|rfl|(simp [errW_none,errW_some] <;> rfl)|(simp [*,errW_none,errW_some] <;> rfl),by repeat (first|(with_reducible first|exact HB.out|apply below_alloc|apply pw_below_drewN|apply below_drew1|refine below_set ?_ GE617.out)|exact HB.out)⟩
      ·rw [if_neg c15] at H
       have c15b0 : (a0_1.toList == ([41] : List UInt8)) = false:=beq_eq_false_iff_ne.mpr c15
       have c15b1 : (a0_1.toList != ([41] : List UInt8)) = true:=bne_iff_ne.mpr c15
       obtain rfl:=Option.some.inj H
       go_enter Tryd.func114,Tryd.ntmps114
       go_wp2_with (first|((with_reducible refine gate_dst (N:=1) rfl ?_);refine box_event ?hg (N:=1) ?hd (cs:=#[.int .i64 a0_0,.string a0_1,.int .i64 a0_2,.int .i64 a0_3]) (t:=60) ?hr ?_;(case hd=>rfl);(case hg=>rfl);(case hr=>first|(go_simp;done)|(go_simp;rfl));intro gb617 hg w18 hbox hb;have n0_:=Aside0.mk (below_step (by repeat (first|(with_reducible first|exact HB.out|apply below_alloc|apply pw_below_drewN|apply below_drew1)|exact HB.out)) hb);have n1_:=Aside0.mk (hbox);have n2_:=Aside0.mk ((by rw [hg];exact (below_size (by repeat (first|(with_reducible first|exact HB.out|apply below_alloc|apply pw_below_drewN|apply below_drew1)|exact HB.out))) : w.heap.size ≤ gb617));have n3_:=Aside0.mk ((by rw [hg];exact (below_size (by repeat (first|(with_reducible first|exact HB.out|apply below_alloc|apply pw_below_drewN|apply below_drew1)|exact HB.out))) : w.heap.size ≤ gb617));clear HB;have HB:=n0_;have BK617:=n1_;have GW617:=n2_;have GE617:=n3_;clear n0_ n1_ n2_ n3_;clear hb hbox hg;have hcz19_0 : w18.cell? ⟨gb617,0,none⟩ = some (.int .i64 a0_0):=(blk_cell BK617.out 0).trans rfl;have hcz19_1 : w18.cell? ⟨gb617,1,none⟩ = some (.string a0_1):=(blk_cell BK617.out 1).trans rfl;have hcz19_2 : w18.cell? ⟨gb617,2,none⟩ = some (.int .i64 a0_2):=(blk_cell BK617.out 2).trans rfl;have hcz19_3 : w18.cell? ⟨gb617,3,none⟩ = some (.int .i64 a0_3):=(blk_cell BK617.out 3).trans rfl;have hfz19_0:=blk_frozen BK617.out 0;have hfz19_1:=blk_frozen BK617.out 1;have hfz19_2:=blk_frozen BK617.out 2;have hfz19_3:=blk_frozen BK617.out 3))
       go_ret
       exact ⟨by first|rfl|(simp [errW_none,errW_some] <;> rfl)|(simp [*,errW_none,errW_some] <;> rfl),by repeat (first|(with_reducible first|exact HB.out|apply below_alloc|apply pw_below_drewN|apply below_drew1|refine below_set ?_ GE617.out)|exact HB.out)⟩
     ·rw [if_neg c14] at H
      have c14b0 : (a0_0 == 7) = false:=beq_eq_false_iff_ne.mpr c14
      have c14b1 : (a0_0 != 7) = true:=bne_iff_ne.mpr c14
      obtain rfl:=Option.some.inj H
      go_enter Tryd.func114,Tryd.ntmps114
      go_wp2_with (first|((with_reducible refine gate_dst (N:=1) rfl ?_);refine box_event ?hg (N:=1) ?hd (cs:=#[.int .i64 a0_0,.string a0_1,.int .i64 a0_2,.int .i64 a0_3]) (t:=60) ?hr ?_;(case hd=>rfl);(case hg=>rfl);(case hr=>first|(go_simp;done)|(go_simp;rfl));intro gb617 hg w20 hbox hb;have n0_:=Aside0.mk (below_step (by repeat (first|(with_reducible first|exact HB.out|apply below_alloc|apply pw_below_drewN|apply below_drew1)|exact HB.out)) hb);have n1_:=Aside0.mk (hbox);have n2_:=Aside0.mk ((by rw [hg];exact (below_size (by repeat (first|(with_reducible first|exact HB.out|apply below_alloc|apply pw_below_drewN|apply below_drew1)|exact HB.out))) : w.heap.size ≤ gb617));have n3_:=Aside0.mk ((by rw [hg];exact (below_size (by repeat (first|(with_reducible first|exact HB.out|apply below_alloc|apply pw_below_drewN|apply below_drew1)|exact HB.out))) : w.heap.size ≤ gb617));clear HB;have HB:=n0_;have BK617:=n1_;have GW617:=n2_;have GE617:=n3_;clear n0_ n1_ n2_ n3_;clear hb hbox hg;have hcz21_0 : w20.cell? ⟨gb617,0,none⟩ = some (.int .i64 a0_0):=(blk_cell BK617.out 0).trans rfl;have hcz21_1 : w20.cell? ⟨gb617,1,none⟩ = some (.string a0_1):=(blk_cell BK617.out 1).trans rfl;have hcz21_2 : w20.cell? ⟨gb617,2,none⟩ = some (.int .i64 a0_2):=(blk_cell BK617.out 2).trans rfl;have hcz21_3 : w20.cell? ⟨gb617,3,none⟩ = some (.int .i64 a0_3):=(blk_cell BK617.out 3).trans rfl;have hfz21_0:=blk_frozen BK617.out 0;have hfz21_1:=blk_frozen BK617.out 1;have hfz21_2:=blk_frozen BK617.out 2;have hfz21_3:=blk_frozen BK617.out 3))
      go_ret
      exact ⟨by first|rfl|(simp [errW_none,errW_some] <;> rfl)|(simp [*,errW_none,errW_some] <;> rfl),by repeat (first|(with_reducible first|exact HB.out|apply below_alloc|apply pw_below_drewN|apply below_drew1|refine below_set ?_ GE617.out)|exact HB.out)⟩
def impl_lexRe.l0 : Nat → ByteArray → Int → Option (ByteArray × Int)
 | 0,_,_=>none
 | k + 1,x0,x4=>if x4 < (x0.size : Int) then (if 0 ≤ x4 then (if (bt x0 x4) = 47 then (if 1 ≤ x4 then (if x4 ≤ (x0.size : Int) then (some (x0.extract 1 (x4 : Int).toNat,wrap64 (x4 + 1))) else (none)) else (none)) else (if (bt x0 x4) = 10 then (some ((⟨#[]⟩ : ByteArray),0)) else (if (bt x0 x4) = 92 then (if (wrap64 (x4 + 1)) < (x0.size : Int) then (if 0 ≤ (wrap64 (x4 + 1)) then (if (bt x0 (wrap64 (x4 + 1))) = 10 then (some ((⟨#[]⟩ : ByteArray),0)) else (impl_lexRe.l0 k x0 (wrap64 ((wrap64 (x4 + 1)) + 1)))) else (none)) else (impl_lexRe.l0 k x0 (wrap64 ((wrap64 (x4 + 1)) + 1)))) else (impl_lexRe.l0 k x0 (wrap64 (x4 + 1)))))) else (none)) else (some ((⟨#[]⟩ : ByteArray),0))
def impl_lexRe.f (k : Nat) (a0 : ByteArray) : Option (ByteArray × Int):=impl_lexRe.l0 k a0 1
theorem impl_lexRe.mono_l : ∀ k,(∀ y0 y1,LeO (impl_lexRe.l0 k y0 y1) (impl_lexRe.l0 (k + 1) y0 y1))
 | 0=>fun _ _ r h=>by simp [impl_lexRe.l0] at h
 | k + 1=>by
  have ih0:=impl_lexRe.mono_l k
  ·intro y0 y1
   unfold impl_lexRe.l0
   repeat' first
   | (with_reducible exact ih0 _ _)
   | (with_reducible exact LeO.refl _)
   | (with_reducible exact LeO.none _)
   | (with_reducible refine LeO.ite ?_ ?_)
   | (with_reducible refine LeO.bind ?_ (fun _=>?_))
   | exact ih0 _ _
   | exact LeO.none _
   | refine LeO.ite ?_ ?_
   | refine LeO.bind ?_ (fun _=>?_)
theorem impl_lexRe.mono : ∀ a0 k,LeO (impl_lexRe.f k a0) (impl_lexRe.f (k + 1) a0):=by
 intro a0 k
 have ih0:=impl_lexRe.mono_l k
 unfold impl_lexRe.f
 repeat' first
   | (with_reducible exact ih0 _ _)
   | (with_reducible exact LeO.refl _)
   | (with_reducible exact LeO.none _)
   | (with_reducible refine LeO.ite ?_ ?_)
   | (with_reducible refine LeO.bind ?_ (fun _=>?_))
   | exact ih0 _ _
   | exact LeO.none _
   | refine LeO.ite ?_ ?_
   | refine LeO.bind ?_ (fun _=>?_)
set_option maxHeartbeats 8000000 in
set_option maxRecDepth 100000 in
theorem impl_lexRe.calls (k : Nat) (a0 : ByteArray) (r1 : ByteArray) (r2 : Int) (w : World) (h : impl_lexRe.f k a0 = some (r1,r2)) :
  Calls Tryd.prog 115 #[.string a0] w fun e w'=>e = .returned (.tuple #[.string r1,.int .i64 r2]) ∧ Drawn0 w w':=by
 have H : (impl_lexRe.l0 k a0 1) = some (r1,r2):=h
 clear h
 have H':=Aside0.mk H
 clear H
 go_enter Tryd.func115,Tryd.ntmps115
 go_wp2
 go_loopg [4] k (fun kq v4 w'=>∃ (x4_1 : Int),v4 = .int .i64 x4_1 ∧ Aside0 (impl_lexRe.l0 kq a0 x4_1 = some (r1,r2)) ∧ Aside0 (kq ≤ k) ∧ Drawn0 w w')
 case atStart=>exact ⟨(1),(by first|rfl|(simp;done)|(simp [*];done)),H',⟨Nat.le_refl _⟩,by repeat (first|exact Drawn0.refl _|apply Drawn0.step)⟩
 case round =>
  clear H'
  try clear c1
  obtain ⟨x4_1,rfl,HA,HK1,⟨m1,rfl⟩⟩:=hrel
  cases gk with
  | zero=>exact absurd HA.out (by simp [impl_lexRe.l0])
  | succ k1 =>
   have H:=HA.out
   clear HA
   simp only [impl_lexRe.l0] at H
   by_cases c2 : x4_1 < (a0.size : Int)
   ·rw [if_pos c2] at H
    have c2b0 : decide (x4_1 < (a0.size : Int)) = true:=decide_eq_true c2
    clear c2
    by_cases c3 : 0 ≤ x4_1
    ·rw [if_pos c3] at H
     have c3b0 : decide (0 ≤ x4_1) = true:=decide_eq_true c3
     clear c3
     by_cases c5 : (bt a0 x4_1) = 47
     ·rw [if_pos c5] at H
      have c5b0 : ((bt a0 x4_1) == 47) = true:=beq_iff_eq.mpr c5
      have c5b1 : ((bt a0 x4_1) != 47) = false:=bne_eq_false_iff_eq.mpr c5
      clear c5
      by_cases c6 : 1 ≤ x4_1
      ·rw [if_pos c6] at H
       have c6b0:=eq_true c6
       have c6b1 : decide (1 ≤ x4_1) = true:=decide_eq_true c6
       clear c6
       by_cases c7 : x4_1 ≤ (a0.size : Int)
       ·rw [if_pos c7] at H
        have c7b0:=eq_true c7
        have c7b1 : decide (x4_1 ≤ (a0.size : Int)) = true:=decide_eq_true c7
        clear c7
        simp only [Option.some.injEq,Prod.mk.injEq] at H
        obtain ⟨rfl,rfl⟩:=H
        have p4 : 0 ≤ (x4_1 : Int):=of_decide_eq_true (by first|(with_reducible assumption)|assumption)
        have q4 : x4_1 < (a0.size : Int):=of_decide_eq_true (by first|(with_reducible assumption)|assumption)
        have hx4:=bt_at a0 x4_1
        replace p4:=eq_true p4
        replace q4:=eq_true q4
        go_wp2
        go_ret2
        exact ⟨by first|rfl|(simp;done)|(simp [*];done),by repeat (first|exact Drawn0.refl _|apply Drawn0.step)⟩
       ·rw [if_neg c7] at H
        exact absurd H (by simp)
      ·rw [if_neg c6] at H
       exact absurd H (by simp)
     ·rw [if_neg c5] at H
      have c5b0 : ((bt a0 x4_1) == 47) = false:=beq_eq_false_iff_ne.mpr c5
      have c5b1 : ((bt a0 x4_1) != 47) = true:=bne_iff_ne.mpr c5
      by_cases c8 : (bt a0 x4_1) = 10
      ·rw [if_pos c8] at H
       have c8b0 : ((bt a0 x4_1) == 10) = true:=beq_iff_eq.mpr c8
       have c8b1 : ((bt a0 x4_1) != 10) = false:=bne_eq_false_iff_eq.mpr c8
       clear c8
       simp only [Option.some.injEq,Prod.mk.injEq] at H
       obtain ⟨rfl,rfl⟩:=H
       have p4 : 0 ≤ (x4_1 : Int):=of_decide_eq_true (by first|(with_reducible assumption)|assumption)
       have q4 : x4_1 < (a0.size : Int):=of_decide_eq_true (by first|(with_reducible assumption)|assumption)
       have hx4:=bt_at a0 x4_1
       replace p4:=eq_true p4
       replace q4:=eq_true q4
       go_wp2
       go_ret2
       exact ⟨by first|rfl|(simp;done)|(simp [*];done),by repeat (first|exact Drawn0.refl _|apply Drawn0.step)⟩
      ·rw [if_neg c8] at H
       have c8b0 : ((bt a0 x4_1) == 10) = false:=beq_eq_false_iff_ne.mpr c8
       have c8b1 : ((bt a0 x4_1) != 10) = true:=bne_iff_ne.mpr c8
       by_cases c9 : (bt a0 x4_1) = 92
       ·rw [if_pos c9] at H
        have c9b0 : ((bt a0 x4_1) == 92) = true:=beq_iff_eq.mpr c9
        have c9b1 : ((bt a0 x4_1) != 92) = false:=bne_eq_false_iff_eq.mpr c9
        clear c9
        by_cases c10 : (wrap64 (x4_1 + 1)) < (a0.size : Int)
        ·rw [if_pos c10] at H
         have c10b0 : decide ((wrap64 (x4_1 + 1)) < (a0.size : Int)) = true:=decide_eq_true c10
         clear c10
         obtain ⟨ji11,hji11⟩ : ∃ j_ : Int,(wrap64 (x4_1 + 1)) = j_:=⟨_,rfl⟩
         replace H : (if 0 ≤ (ji11) then (if (bt a0 (ji11)) = 10 then (some ((⟨#[]⟩ : ByteArray),0)) else (impl_lexRe.l0 k1 a0 (wrap64 ((ji11) + 1)))) else (none)) = some (r1,r2):=by first|(rw [hji11] at H;exact H)|(simp only [hji11] at H ⊢;exact H)
         (try rw [hji11] at c10b0)
         have hji11w : (IntKind.i64.wrap (x4_1 + 1)) = ji11:=(i64_w _).trans hji11
         by_cases c12 : 0 ≤ (ji11)
         ·rw [if_pos c12] at H
          have c12b0 : decide (0 ≤ (ji11)) = true:=decide_eq_true c12
          clear c12
          by_cases c14 : (bt a0 (ji11)) = 10
          ·rw [if_pos c14] at H
           have c14b0 : ((bt a0 (ji11)) == 10) = true:=beq_iff_eq.mpr c14
           have c14b1 : ((bt a0 (ji11)) != 10) = false:=bne_eq_false_iff_eq.mpr c14
           clear c14
           simp only [Option.some.injEq,Prod.mk.injEq] at H
           obtain ⟨rfl,rfl⟩:=H
           have p4 : 0 ≤ (x4_1 : Int):=of_decide_eq_true (by first|(with_reducible assumption)|assumption)
           have q4 : x4_1 < (a0.size : Int):=of_decide_eq_true (by first|(with_reducible assumption)|assumption)
           have hx4:=bt_at a0 x4_1
           replace p4:=eq_true p4
           replace q4:=eq_true q4
           have p13 : 0 ≤ ((ji11) : Int):=of_decide_eq_true (by first|(with_reducible assumption)|assumption)
           have q13 : (ji11) < (a0.size : Int):=of_decide_eq_true (by first|(with_reducible assumption)|assumption)
           have hx13:=bt_at a0 (ji11)
           replace p13:=eq_true p13
           replace q13:=eq_true q13
           go_wp2
           go_ret2
           exact ⟨by first|rfl|(simp;done)|(simp only [← hji11] <;> (first|rfl|simp))|(simp [*];done),by repeat (first|exact Drawn0.refl _|apply Drawn0.step)⟩
          ·rw [if_neg c14] at H
           have c14b0 : ((bt a0 (ji11)) == 10) = false:=beq_eq_false_iff_ne.mpr c14
           have c14b1 : ((bt a0 (ji11)) != 10) = true:=bne_iff_ne.mpr c14
           have H':=Aside0.mk H
           clear H
           have p4 : 0 ≤ (x4_1 : Int):=of_decide_eq_true (by first|(with_reducible assumption)|assumption)
           have q4 : x4_1 < (a0.size : Int):=of_decide_eq_true (by first|(with_reducible assumption)|assumption)
           have hx4:=bt_at a0 x4_1
           replace p4:=eq_true p4
           replace q4:=eq_true q4
           have p13 : 0 ≤ ((ji11) : Int):=of_decide_eq_true (by first|(with_reducible assumption)|assumption)
           have q13 : (ji11) < (a0.size : Int):=of_decide_eq_true (by first|(with_reducible assumption)|assumption)
           have hx13:=bt_at a0 (ji11)
           replace p13:=eq_true p13
           replace q13:=eq_true q13
           go_wp2
           go_roundg k1
           case measure=>have:=HK1.out;omega
           case rel=>exact ⟨(wrap64 ((ji11) + 1)),(by first|rfl|(simp;done)|(simp only [← hji11] <;> (first|rfl|simp))|(simp [*];done)),H',⟨by have:=HK1.out;omega⟩,by repeat (first|exact Drawn0.refl _|apply Drawn0.step)⟩
         ·rw [if_neg c12] at H
          exact absurd H (by simp)
        ·rw [if_neg c10] at H
         have c10b0 : decide ((wrap64 (x4_1 + 1)) < (a0.size : Int)) = false:=decide_eq_false c10
         clear c10
         have H':=Aside0.mk H
         clear H
         have p4 : 0 ≤ (x4_1 : Int):=of_decide_eq_true (by first|(with_reducible assumption)|assumption)
         have q4 : x4_1 < (a0.size : Int):=of_decide_eq_true (by first|(with_reducible assumption)|assumption)
         have hx4:=bt_at a0 x4_1
         replace p4:=eq_true p4
         replace q4:=eq_true q4
         go_wp2
         go_roundg k1
         case measure=>have:=HK1.out;omega
         case rel=>exact ⟨(wrap64 ((wrap64 (x4_1 + 1)) + 1)),(by first|rfl|(simp;done)|(simp [*];done)),H',⟨by have:=HK1.out;omega⟩,by repeat (first|exact Drawn0.refl _|apply Drawn0.step)⟩
       ·rw [if_neg c9] at H
        have c9b0 : ((bt a0 x4_1) == 92) = false:=beq_eq_false_iff_ne.mpr c9
        have c9b1 : ((bt a0 x4_1) != 92) = true:=bne_iff_ne.mpr c9
        have H':=Aside0.mk H
        clear H
        have p4 : 0 ≤ (x4_1 : Int):=of_decide_eq_true (by first|(with_reducible assumption)|assumption)
        have q4 : x4_1 < (a0.size : Int):=of_decide_eq_true (by first|(with_reducible assumption)|assumption)
        have hx4:=bt_at a0 x4_1
        replace p4:=eq_true p4
        replace q4:=eq_true q4
        go_wp2
        go_roundg k1
        case measure=>have:=HK1.out;omega
        case rel=>exact ⟨(wrap64 (x4_1 + 1)),(by first|rfl|(simp;done)|(simp [*];done)),H',⟨by have:=HK1.out;omega⟩,by repeat (first|exact Drawn0.refl _|apply Drawn0.step)⟩
    ·rw [if_neg c3] at H
     exact absurd H (by simp)
   ·rw [if_neg c2] at H
    have c2b0 : decide (x4_1 < (a0.size : Int)) = false:=decide_eq_false c2
    clear c2
    simp only [Option.some.injEq,Prod.mk.injEq] at H
    obtain ⟨rfl,rfl⟩:=H
    go_wp2
    go_ret2
    exact ⟨by first|rfl|(simp;done)|(simp [*];done),by repeat (first|exact Drawn0.refl _|apply Drawn0.step)⟩
mutual
def impl_lexOne.j0 : Nat → ByteArray → Int → Bool → Option (Int × ByteArray × Int × Int × Int)
 | 0,_,_,_=>none
 | k + 1,x0,x7,x42=>if x42 = true then ((impl_run.f x0 (wrap64 (x7 + 1)) 100).bind fun t623=>(if 0 ≤ (wrap64 (x7 + (wrap64 (1 + t623)))) then (if (wrap64 (x7 + (wrap64 (1 + t623)))) ≤ (x0.size : Int) then ((impl_ReadDec.f (x0.extract 0 ((wrap64 (x7 + (wrap64 (1 + t623)))) : Int).toNat)).bind fun bt624=>(some (1,(⟨#[]⟩ : ByteArray),bt624.1,0,wrap64 (x7 + (wrap64 (1 + t623)))))) else (none)) else (none))) else (if 0 ≤ x7 then (if x7 ≤ (x0.size : Int) then ((impl_ReadDec.f (x0.extract 0 (x7 : Int).toNat)).bind fun bt626=>(some (1,(⟨#[]⟩ : ByteArray),bt626.1,0,x7))) else (none)) else (none))
def impl_lexOne.j1 : Nat → ByteArray → Int → Bool → Option (Int × ByteArray × Int × Int × Int)
 | 0,_,_,_=>none
 | k + 1,x0,x6,x71=>if x71 = true then ((impl_lexRe.f k x0).bind fun bt631=>(some (3,bt631.1,0,0,bt631.2))) else ((impl_isLetter.f x6).bind fun t633=>(if t633 = true then ((impl_run.f x0 0 110).bind fun t634=>(if 0 ≤ (mn t634 40) then (if (mn t634 40) ≤ (x0.size : Int) then (if t634 > 40 then (some (0,(⟨#[]⟩ : ByteArray),0,0,0)) else ((impl_IsWord.f k (x0.extract 0 ((mn t634 40) : Int).toNat)).bind fun t636=>(if t636 = true then (some (6,x0.extract 0 ((mn t634 40) : Int).toNat,0,0,t634)) else (if t634 < (x0.size : Int) then (if 0 ≤ t634 then (if (bt x0 t634) = 40 then (some (5,x0.extract 0 ((mn t634 40) : Int).toNat,0,0,t634)) else (some (4,x0.extract 0 ((mn t634 40) : Int).toNat,0,0,t634))) else (none)) else (some (4,x0.extract 0 ((mn t634 40) : Int).toNat,0,0,t634)))))) else (none)) else (none))) else ((strings_Split.f (⟨#[38,38,32,124,124,32,61,61,32,33,61,32,33,126,32,60,61,32,43,61,32,123,32,125,32,40,32,41,32,91,32,93,32,59,32,44,32,61,32,33,32,60,32,43,32,45,32,42,32,47,32,37,32,126,32,63,32,58,32,36]⟩ : ByteArray) (⟨#[32]⟩ : ByteArray)).bind fun t637=>(impl_lexOne.l0 k x0 t637 (t637.length : Int) 0))))
def impl_lexOne.l0 : Nat → ByteArray → List ByteArray → Int → Int → Option (Int × ByteArray × Int × Int × Int)
 | 0,_,_,_,_=>none
 | k + 1,x0,x120,x121,x122=>if x122 < x121 then (if 0 ≤ x122 then (if x122 < (x120.length : Int) then ((strings_HasPrefix.f x0 (rdOf ByteArray.empty x120 x122)).bind fun t641=>(if t641 = true then (some (7,rdOf ByteArray.empty x120 x122,0,0,((rdOf ByteArray.empty x120 x122).size : Int))) else (impl_lexOne.l0 k x0 x120 x121 (wrap64 (x122 + 1))))) else (none)) else (none)) else (some (0,(⟨#[]⟩ : ByteArray),0,0,0))
end
def impl_lexOne.f (k : Nat) (a0 : ByteArray) (a1_0 : Int) (a1_1 : ByteArray) (a1_2 : Int) (a1_3 : Int) : Option (Int × ByteArray × Int × Int × Int):=if 0 < (a0.size : Int) then ((impl_isDigit.f (bt a0 0)).bind fun t620=>(if t620 = true then ((impl_run.f a0 0 100).bind fun t621=>(if (wrap64 (t621 + 1)) < (a0.size : Int) then (if 0 ≤ t621 then (if t621 < (a0.size : Int) then (if (bt a0 t621) = 46 then (if 0 ≤ (wrap64 (t621 + 1)) then ((impl_isDigit.f (bt a0 (wrap64 (t621 + 1)))).bind fun t622=>(impl_lexOne.j0 k a0 t621 t622)) else (none)) else (impl_lexOne.j0 k a0 t621 false)) else (none)) else (none)) else (impl_lexOne.j0 k a0 t621 false))) else (if (bt a0 0) = 34 then ((impl_lexString.f k a0).bind fun bt628=>(some (2,bt628.1,0,0,bt628.2))) else (if (bt a0 0) = 47 then ((impl_endsOperand.f a1_0 a1_1 a1_2 a1_3).bind fun t630=>(impl_lexOne.j1 k a0 (bt a0 0) (!t630))) else (impl_lexOne.j1 k a0 (bt a0 0) false))))) else (none)
theorem impl_lexOne.mono_l : ∀ k,(∀ y0 y1 y2,LeO (impl_lexOne.j0 k y0 y1 y2) (impl_lexOne.j0 (k + 1) y0 y1 y2)) ∧ (∀ y0 y1 y2,LeO (impl_lexOne.j1 k y0 y1 y2) (impl_lexOne.j1 (k + 1) y0 y1 y2)) ∧ (∀ y0 y1 y2 y3,LeO (impl_lexOne.l0 k y0 y1 y2 y3) (impl_lexOne.l0 (k + 1) y0 y1 y2 y3))
 | 0=>⟨fun _ _ _ r h=>by simp [impl_lexOne.j0] at h,fun _ _ _ r h=>by simp [impl_lexOne.j1] at h,fun _ _ _ _ r h=>by simp [impl_lexOne.l0] at h⟩
 | k + 1=>by
  obtain ⟨ih0,ih1,ih2⟩:=impl_lexOne.mono_l k
  refine ⟨?_,?_,?_⟩
  ·intro y0 y1 y2
   unfold impl_lexOne.j0
   repeat' first
   | (with_reducible exact ih0 _ _ _)
   | (with_reducible exact ih1 _ _ _)
   | (with_reducible exact ih2 _ _ _ _)
   | (with_reducible exact impl_IsWord.mono _ _)
   | (with_reducible exact impl_lexRe.mono _ _)
   | (with_reducible exact impl_lexString.mono _ _)
   | (with_reducible exact LeO.refl _)
   | (with_reducible exact LeO.none _)
   | (with_reducible refine LeO.ite ?_ ?_)
   | (with_reducible refine LeO.bind ?_ (fun _=>?_))
   | exact ih0 _ _ _
   | exact ih1 _ _ _
   | exact ih2 _ _ _ _
   | exact impl_IsWord.mono _ _
   | exact impl_lexRe.mono _ _
   | exact impl_lexString.mono _ _
   | exact LeO.none _
   | refine LeO.ite ?_ ?_
   | refine LeO.bind ?_ (fun _=>?_)
  ·intro y0 y1 y2
   unfold impl_lexOne.j1
   repeat' first
   | (with_reducible exact ih0 _ _ _)
   | (with_reducible exact ih1 _ _ _)
   | (with_reducible exact ih2 _ _ _ _)
   | (with_reducible exact impl_IsWord.mono _ _)
   | (with_reducible exact impl_lexRe.mono _ _)
   | (with_reducible exact impl_lexString.mono _ _)
   | (with_reducible exact LeO.refl _)
   | (with_reducible exact LeO.none _)
   | (with_reducible refine LeO.ite ?_ ?_)
   | (with_reducible refine LeO.bind ?_ (fun _=>?_))
   | exact ih0 _ _ _
   | exact ih1 _ _ _
   | exact ih2 _ _ _ _
   | exact impl_IsWord.mono _ _
   | exact impl_lexRe.mono _ _
   | exact impl_lexString.mono _ _
   | exact LeO.none _
   | refine LeO.ite ?_ ?_
   | refine LeO.bind ?_ (fun _=>?_)
  ·intro y0 y1 y2 y3
   unfold impl_lexOne.l0
   repeat' first
   | (with_reducible exact ih0 _ _ _)
   | (with_reducible exact ih1 _ _ _)
   | (with_reducible exact ih2 _ _ _ _)
   | (with_reducible exact impl_IsWord.mono _ _)
   | (with_reducible exact impl_lexRe.mono _ _)
   | (with_reducible exact impl_lexString.mono _ _)
   | (with_reducible exact LeO.refl _)
   | (with_reducible exact LeO.none _)
   | (with_reducible refine LeO.ite ?_ ?_)
   | (with_reducible refine LeO.bind ?_ (fun _=>?_))
   | exact ih0 _ _ _
   | exact ih1 _ _ _
   | exact ih2 _ _ _ _
   | exact impl_IsWord.mono _ _
   | exact impl_lexRe.mono _ _
   | exact impl_lexString.mono _ _
   | exact LeO.none _
   | refine LeO.ite ?_ ?_
   | refine LeO.bind ?_ (fun _=>?_)
theorem impl_lexOne.mono : ∀ a0 a1 a2 a3 a4 k,LeO (impl_lexOne.f k a0 a1 a2 a3 a4) (impl_lexOne.f (k + 1) a0 a1 a2 a3 a4):=by
 intro a0 a1 a2 a3 a4 k
 obtain ⟨ih0,ih1,ih2⟩:=impl_lexOne.mono_l k
 unfold impl_lexOne.f
 repeat' first
   | (with_reducible exact ih0 _ _ _)
   | (with_reducible exact ih1 _ _ _)
   | (with_reducible exact ih2 _ _ _ _)
   | (with_reducible exact impl_IsWord.mono _ _)
   | (with_reducible exact impl_lexRe.mono _ _)
   | (with_reducible exact impl_lexString.mono _ _)
   | (with_reducible exact LeO.refl _)
   | (with_reducible exact LeO.none _)
   | (with_reducible refine LeO.ite ?_ ?_)
   | (with_reducible refine LeO.bind ?_ (fun _=>?_))
   | exact ih0 _ _ _
   | exact ih1 _ _ _
   | exact ih2 _ _ _ _
   | exact impl_IsWord.mono _ _
   | exact impl_lexRe.mono _ _
   | exact impl_lexString.mono _ _
   | exact LeO.none _
   | refine LeO.ite ?_ ?_
   | refine LeO.bind ?_ (fun _=>?_)
set_option maxHeartbeats 8000000 in
set_option maxRecDepth 100000 in
theorem impl_lexOne.calls (k : Nat) (a0 : ByteArray) (a1_0 : Int) (a1_1 : ByteArray) (a1_2 : Int) (a1_3 : Int) (r1 : Int) (r2 : ByteArray) (r3 : Int) (r4 : Int) (r5 : Int) (w : World) (h : impl_lexOne.f k a0 a1_0 a1_1 a1_2 a1_3 = some (r1,r2,r3,r4,r5)) (hT : Tabs w:=by first|assumption|(refine Aside0.out (p:=Tabs _) ?_;assumption)|(refine Tabs.below (w:=?ww) (Aside0.out ?ha) ?hb;(case ha=>assumption);(case hb=>repeat (first|(with_reducible first|exact Below.refl _ _|(refine Aside0.out ?_;assumption)|apply below_alloc|apply pw_below_drewN|apply below_drew1|(refine below_set ?_ (Aside0.out ?_);(rotate_left;assumption)))|(refine Aside0.out ?_;assumption))))|(refine Tabs.drewN (w:=?ww) (Aside0.out ?ha) _;(case ha=>assumption))) :
  Calls Tryd.prog 78 #[.string a0,.agg #[.int .i64 a1_0,.string a1_1,.int .i64 a1_2,.int .i64 a1_3]] w fun e w'=>e = .returned (.tuple #[.agg #[.int .i64 r1,.string r2,.int .i64 r3,.int .i64 r4],.int .i64 r5]) ∧ Below w.heap.size w w':=by
 have HT_:=Aside0.mk hT
 clear hT
 have hu60:=Tryd.underlying60
 have HB:=Aside0.mk (Below.refl w.heap.size w)
 have H : (if 0 < (a0.size : Int) then ((impl_isDigit.f (bt a0 0)).bind fun t620=>(if t620 = true then ((impl_run.f a0 0 100).bind fun t621=>(if (wrap64 (t621 + 1)) < (a0.size : Int) then (if 0 ≤ t621 then (if t621 < (a0.size : Int) then (if (bt a0 t621) = 46 then (if 0 ≤ (wrap64 (t621 + 1)) then ((impl_isDigit.f (bt a0 (wrap64 (t621 + 1)))).bind fun t622=>(impl_lexOne.j0 k a0 t621 t622)) else (none)) else (impl_lexOne.j0 k a0 t621 false)) else (none)) else (none)) else (impl_lexOne.j0 k a0 t621 false))) else (if (bt a0 0) = 34 then ((impl_lexString.f k a0).bind fun bt628=>(some (2,bt628.1,0,0,bt628.2))) else (if (bt a0 0) = 47 then ((impl_endsOperand.f a1_0 a1_1 a1_2 a1_3).bind fun t630=>(impl_lexOne.j1 k a0 (bt a0 0) (!t630))) else (impl_lexOne.j1 k a0 (bt a0 0) false))))) else (none)) = some (r1,r2,r3,r4,r5):=h
 clear h
 by_cases c3 : 0 < (a0.size : Int)
 ·rw [if_pos c3] at H
  have c3b0 : decide (0 < (a0.size : Int)) = true:=decide_eq_true c3
  have c3b1 : decide (0 < a0.size) = true:=decide_eq_true (by omega)
  clear c3
  replace H:=Option.bind_eq_some_iff.mp H
  obtain ⟨t620,A50,H⟩:=H
  replace H : (if t620 = true then ((impl_run.f a0 0 100).bind fun t621=>(if (wrap64 (t621 + 1)) < (a0.size : Int) then (if 0 ≤ t621 then (if t621 < (a0.size : Int) then (if (bt a0 t621) = 46 then (if 0 ≤ (wrap64 (t621 + 1)) then ((impl_isDigit.f (bt a0 (wrap64 (t621 + 1)))).bind fun t622=>(impl_lexOne.j0 k a0 t621 t622)) else (none)) else (impl_lexOne.j0 k a0 t621 false)) else (none)) else (none)) else (impl_lexOne.j0 k a0 t621 false))) else (if (bt a0 0) = 34 then ((impl_lexString.f k a0).bind fun bt628=>(some (2,bt628.1,0,0,bt628.2))) else (if (bt a0 0) = 47 then ((impl_endsOperand.f a1_0 a1_1 a1_2 a1_3).bind fun t630=>(impl_lexOne.j1 k a0 (bt a0 0) (!t630))) else (impl_lexOne.j1 k a0 (bt a0 0) false)))) = some (r1,r2,r3,r4,r5):=H
  have A5:=Aside0.mk A50
  clear A50
  by_cases c6 : t620 = true
  ·subst c6
   have H1 : ((impl_run.f a0 0 100).bind fun t621=>(if (wrap64 (t621 + 1)) < (a0.size : Int) then (if 0 ≤ t621 then (if t621 < (a0.size : Int) then (if (bt a0 t621) = 46 then (if 0 ≤ (wrap64 (t621 + 1)) then ((impl_isDigit.f (bt a0 (wrap64 (t621 + 1)))).bind fun t622=>(impl_lexOne.j0 k a0 t621 t622)) else (none)) else (impl_lexOne.j0 k a0 t621 false)) else (none)) else (none)) else (impl_lexOne.j0 k a0 t621 false))) = some (r1,r2,r3,r4,r5):=by rw [if_pos rfl] at H;exact H
   clear H
   have H:=H1
   clear H1
   replace H:=Option.bind_eq_some_iff.mp H
   obtain ⟨t621,A70,H⟩:=H
   replace H : (if (wrap64 (t621 + 1)) < (a0.size : Int) then (if 0 ≤ t621 then (if t621 < (a0.size : Int) then (if (bt a0 t621) = 46 then (if 0 ≤ (wrap64 (t621 + 1)) then ((impl_isDigit.f (bt a0 (wrap64 (t621 + 1)))).bind fun t622=>(impl_lexOne.j0 k a0 t621 t622)) else (none)) else (impl_lexOne.j0 k a0 t621 false)) else (none)) else (none)) else (impl_lexOne.j0 k a0 t621 false)) = some (r1,r2,r3,r4,r5):=H
   have A7:=Aside0.mk A70
   clear A70
   have HC8:=Aside0.mk H
   clear H
   go_enter Tryd.func78,Tryd.ntmps78
   go_upto_region 4 with (first|((with_reducible refine gate_dst (N:=3) rfl ?_);refine box_event ?hg (N:=3) ?hd (cs:=#[.int .i64 a1_0,.string a1_1,.int .i64 a1_2,.int .i64 a1_3]) (t:=60) ?hr ?_;(case hd=>rfl);(case hg=>rfl);(case hr=>first|(go_simp;done)|(go_simp;rfl));intro gb618 hg w9 hbox hb;have n0_:=Aside0.mk (below_step (by repeat (first|(with_reducible first|exact HB.out|apply below_alloc|apply pw_below_drewN|apply below_drew1)|exact HB.out)) hb);have n1_:=Aside0.mk (hbox);have n2_:=Aside0.mk ((by rw [hg];exact (below_size (by repeat (first|(with_reducible first|exact HB.out|apply below_alloc|apply pw_below_drewN|apply below_drew1)|exact HB.out))) : w.heap.size ≤ gb618));have n3_:=Aside0.mk ((by rw [hg];exact (below_size (by repeat (first|(with_reducible first|exact HB.out|apply below_alloc|apply pw_below_drewN|apply below_drew1)|exact HB.out))) : w.heap.size ≤ gb618));clear HB;have HB:=n0_;have BK618:=n1_;have GW618:=n2_;have GE618:=n3_;clear n0_ n1_ n2_ n3_;clear hb hbox hg)|((with_reducible refine gate_dst (N:=4) rfl ?_);refine box_event ?hg (N:=4) ?hd (cs:=#[.int .i64 0,.string (⟨#[]⟩ : ByteArray),.int .i64 0,.int .i64 0]) (t:=60) ?hr ?_;(case hd=>rfl);(case hg=>rfl);(case hr=>first|(go_simp;done)|(go_simp;rfl));intro gb619 hg w10 hbox hb;have n0_:=Aside0.mk (blk_below (g:=gb618) (o:=.cells #[.int .i64 a1_0,.string a1_1,.int .i64 a1_2,.int .i64 a1_3] 60 (0,0)) (by (with_reducible repeat (first|refine blk_drewN ?_ _|refine blk_drew ?_|refine blk_alloc ?_ _));exact BK618.out) hb);have n1_:=Aside0.mk (below_step (by repeat (first|(with_reducible first|exact HB.out|apply below_alloc|apply pw_below_drewN|apply below_drew1|refine below_set ?_ GE618.out)|exact HB.out)) hb);have n2_:=Aside0.mk (hbox);have n3_:=Aside0.mk ((by rw [hg];exact (below_size (by repeat (first|(with_reducible first|exact HB.out|apply below_alloc|apply pw_below_drewN|apply below_drew1|refine below_set ?_ GE618.out)|exact HB.out))) : w.heap.size ≤ gb619));have n4_:=Aside0.mk ((by rw [hg];exact (below_size (by repeat (first|(with_reducible first|exact HB.out|apply below_alloc|apply pw_below_drewN|apply below_drew1|refine below_set ?_ GE618.out)|exact HB.out))) : w.heap.size ≤ gb619));have n5_:=Aside0.mk ((by rw [hg];exact Nat.ne_of_lt (blk_lt (g:=gb618) (o:=.cells #[.int .i64 a1_0,.string a1_1,.int .i64 a1_2,.int .i64 a1_3] 60 (0,0)) (by (with_reducible repeat (first|refine blk_drewN ?_ _|refine blk_drew ?_|refine blk_alloc ?_ _));exact BK618.out)) : gb618 ≠ gb619));have n6_:=Aside0.mk ((by rw [hg];exact Nat.ne_of_gt (blk_lt (g:=gb618) (o:=.cells #[.int .i64 a1_0,.string a1_1,.int .i64 a1_2,.int .i64 a1_3] 60 (0,0)) (by (with_reducible repeat (first|refine blk_drewN ?_ _|refine blk_drew ?_|refine blk_alloc ?_ _));exact BK618.out)) : gb619 ≠ gb618));clear BK618;clear HB;have BK618:=n0_;have HB:=n1_;have BK619:=n2_;have GW619:=n3_;have GE619:=n4_;have NB618_619:=n5_;have NB619_618:=n6_;clear n0_ n1_ n2_ n3_ n4_ n5_ n6_;clear hb hbox hg;have p4 : 0 ≤ (0 : Int):=(by omega);have q4 : 0 < a0.size:=(by have : (0 : Int) < (a0.size : Int):=of_decide_eq_true (by first|(with_reducible assumption)|assumption);omega);have hx4 : ∀ h : 0 < a0.size,((a0[0]'h).toNat : Int) = bt a0 0:=bt_at a0 0;clear p4;have qi4 : (0 < (a0.size : Int)) = True:=eq_true (of_decide_eq_true (by first|(with_reducible assumption)|assumption));replace q4:=eq_true q4)|((with_reducible refine gate_callee (f:=100) rfl ?_);refine goesL_ (some 22) rfl rfl Tryd.func100 (by kernel_rfl) rfl #[.int .u8 (bt a0 0)] rfl (by (try simp only [List.map_toArray,List.map_cons,List.map_nil]);first|done|rfl|(simp only [List.length_drop,List.length_take];rfl)) ?_;(with_reducible refine (impl_isDigit.calls (bt a0 0) true _ A5.out).mono ?_);rintro e w' ⟨rfl,⟨nd,rfl⟩⟩;refine ⟨_,rfl,?_⟩)|((with_reducible refine gate_callee (f:=76) rfl ?_);refine goesL_ (some 24) rfl rfl Tryd.func76 (by kernel_rfl) rfl #[.string a0,.int .i64 0,.func (.func 100) #[] #[]] rfl (by (try simp only [List.map_toArray,List.map_cons,List.map_nil]);first|done|rfl|(simp only [List.length_drop,List.length_take];rfl)) ?_;(with_reducible refine (impl_run.calls a0 0 100 t621 _ A7.out).mono ?_);rintro e w' ⟨rfl,⟨nd,rfl⟩⟩;refine ⟨_,rfl,?_⟩))
   (try simp only [Act.put,List.setIfInBounds_toArray,List.set_cons_zero,List.set_cons_succ])
   go_cut [42] (fun v42 wc=>∃ (kq : Nat) (x42_7 : Bool),v42 = .bool x42_7 ∧ Aside0 (impl_lexOne.j0 kq a0 t621 x42_7 = some (r1,r2,r3,r4,r5)) ∧ Aside0 (kq ≤ k) ∧ Aside0 (wc.heap[gb618]? = some (.cells #[.int .i64 a1_0,.string a1_1,.int .i64 a1_2,.int .i64 a1_3] 60 (0,0))) ∧ Aside0 (wc.heap[gb619]? = some (.cells #[.int .i64 0,.string (⟨#[]⟩ : ByteArray),.int .i64 0,.int .i64 0] 60 (0,0))) ∧ Aside0 (Below w.heap.size w wc))
   case first =>
    have H:=HC8.out
    clear HC8
    by_cases c11 : (wrap64 (t621 + 1)) < (a0.size : Int)
    ·rw [if_pos c11] at H
     have c11b0 : decide ((wrap64 (t621 + 1)) < (a0.size : Int)) = true:=decide_eq_true c11
     clear c11
     (first|rw [c11b0]|(simp only [i64_w,i32_w];rw [c11b0])|skip)
     by_cases c12 : 0 ≤ t621
     ·rw [if_pos c12] at H
      have c12b0 : decide (0 ≤ t621) = true:=decide_eq_true c12
      clear c12
      by_cases c13 : t621 < (a0.size : Int)
      ·rw [if_pos c13] at H
       have c13b0 : decide (t621 < (a0.size : Int)) = true:=decide_eq_true c13
       clear c13
       by_cases c15 : (bt a0 t621) = 46
       ·rw [if_pos c15] at H
        have c15b0 : ((bt a0 t621) == 46) = true:=beq_iff_eq.mpr c15
        have c15b1 : ((bt a0 t621) != 46) = false:=bne_eq_false_iff_eq.mpr c15
        clear c15
        obtain ⟨ji16,hji16⟩ : ∃ j_ : Int,(wrap64 (t621 + 1)) = j_:=⟨_,rfl⟩
        replace H : (if 0 ≤ (ji16) then ((impl_isDigit.f (bt a0 (ji16))).bind fun t622=>(impl_lexOne.j0 k a0 t621 t622)) else (none)) = some (r1,r2,r3,r4,r5):=by first|(rw [hji16] at H;exact H)|(simp only [hji16] at H ⊢;exact H)
        (try rw [hji16] at c11b0)
        have hji16w : (IntKind.i64.wrap (t621 + 1)) = ji16:=(i64_w _).trans hji16
        by_cases c17 : 0 ≤ (ji16)
        ·rw [if_pos c17] at H
         have c17b0 : decide (0 ≤ (ji16)) = true:=decide_eq_true c17
         clear c17
         replace H:=Option.bind_eq_some_iff.mp H
         obtain ⟨t622,A190,H⟩:=H
         replace H : (impl_lexOne.j0 k a0 t621 t622) = some (r1,r2,r3,r4,r5):=H
         have A19:=Aside0.mk A190
         clear A190
         have H':=Aside0.mk H
         clear H
         have p14 : 0 ≤ (t621 : Int):=of_decide_eq_true (by first|(with_reducible assumption)|assumption)
         have q14 : t621 < (a0.size : Int):=of_decide_eq_true (by first|(with_reducible assumption)|assumption)
         have hx14:=bt_at a0 t621
         replace p14:=eq_true p14
         replace q14:=eq_true q14
         have p18 : 0 ≤ ((ji16) : Int):=of_decide_eq_true (by first|(with_reducible assumption)|assumption)
         have q18 : (ji16) < (a0.size : Int):=of_decide_eq_true (by first|(with_reducible assumption)|assumption)
         have hx18:=bt_at a0 (ji16)
         replace p18:=eq_true p18
         replace q18:=eq_true q18
         go_wp2_with (first|(go_at_call 100;(with_reducible refine (impl_isDigit.calls (bt a0 (ji16)) t622 _ A19.out).mono ?_);rintro e w' ⟨rfl,⟨nd,rfl⟩⟩))
         go_meet
         case rel=>exact ⟨_,(t622),(by first|rfl|(simp;done)|(simp [*];done)),H',⟨by first|omega|exact Nat.le_refl _⟩,⟨by (with_reducible repeat (first|refine blk_drewN ?_ _|refine blk_drew ?_|refine blk_alloc ?_ _));exact BK618.out⟩,⟨by (with_reducible repeat (first|refine blk_drewN ?_ _|refine blk_drew ?_|refine blk_alloc ?_ _));exact BK619.out⟩,⟨by repeat (first|(with_reducible first|exact HB.out|apply below_alloc|apply pw_below_drewN|apply below_drew1|refine below_set ?_ GE618.out|refine below_set ?_ GE619.out)|exact HB.out)⟩⟩
        ·rw [if_neg c17] at H
         exact absurd H (by simp)
       ·rw [if_neg c15] at H
        have c15b0 : ((bt a0 t621) == 46) = false:=beq_eq_false_iff_ne.mpr c15
        have c15b1 : ((bt a0 t621) != 46) = true:=bne_iff_ne.mpr c15
        have H':=Aside0.mk H
        clear H
        have p14 : 0 ≤ (t621 : Int):=of_decide_eq_true (by first|(with_reducible assumption)|assumption)
        have q14 : t621 < (a0.size : Int):=of_decide_eq_true (by first|(with_reducible assumption)|assumption)
        have hx14:=bt_at a0 t621
        replace p14:=eq_true p14
        replace q14:=eq_true q14
        go_wp2
        go_meet
        case rel=>exact ⟨_,(false),(by first|rfl|(simp;done)|(simp [*];done)),H',⟨by first|omega|exact Nat.le_refl _⟩,⟨by (with_reducible repeat (first|refine blk_drewN ?_ _|refine blk_drew ?_|refine blk_alloc ?_ _));exact BK618.out⟩,⟨by (with_reducible repeat (first|refine blk_drewN ?_ _|refine blk_drew ?_|refine blk_alloc ?_ _));exact BK619.out⟩,⟨by repeat (first|(with_reducible first|exact HB.out|apply below_alloc|apply pw_below_drewN|apply below_drew1|refine below_set ?_ GE618.out|refine below_set ?_ GE619.out)|exact HB.out)⟩⟩
      ·rw [if_neg c13] at H
       exact absurd H (by simp)
     ·rw [if_neg c12] at H
      exact absurd H (by simp)
    ·rw [if_neg c11] at H
     have c11b0 : decide ((wrap64 (t621 + 1)) < (a0.size : Int)) = false:=decide_eq_false c11
     clear c11
     (first|rw [c11b0]|(simp only [i64_w,i32_w];rw [c11b0])|skip)
     have H':=Aside0.mk H
     clear H
     go_wp2
     go_meet
     case rel=>exact ⟨_,(false),(by first|rfl|(simp;done)|(simp [*];done)),H',⟨by first|omega|exact Nat.le_refl _⟩,⟨by (with_reducible repeat (first|refine blk_drewN ?_ _|refine blk_drew ?_|refine blk_alloc ?_ _));exact BK618.out⟩,⟨by (with_reducible repeat (first|refine blk_drewN ?_ _|refine blk_drew ?_|refine blk_alloc ?_ _));exact BK619.out⟩,⟨by repeat (first|(with_reducible first|exact HB.out|apply below_alloc|apply pw_below_drewN|apply below_drew1|refine below_set ?_ GE618.out|refine below_set ?_ GE619.out)|exact HB.out)⟩⟩
   case rest =>
    clear HC8
    try clear c1
    try clear p1
    try clear q1
    try clear hx1
    try clear p2
    try clear c3
    try clear c3b0
    try clear c3b1
    try clear p4
    try clear q4
    try clear hx4
    try clear qi4
    try clear c6
    try clear p6
    try clear c7
    try clear c10
    try clear c11
    try clear c11b0
    try clear c12
    try clear c12b0
    try clear c13
    try clear c13b0
    try clear p14
    try clear q14
    try clear hx14
    try clear c15
    try clear c15b0
    try clear c15b1
    try clear c17
    try clear c17b0
    try clear p18
    try clear q18
    try clear hx18
    try clear p14
    try clear p18
    try clear p4
    try clear q14
    try clear q18
    try clear q4
    obtain ⟨kq,x42_7,rfl,HA,HJ7,BK618,BK619,HB⟩:=hcut
    cases kq with
    | zero=>exact absurd HA.out (by simp [impl_lexOne.j0])
    | succ kj7 =>
     have H:=HA.out
     clear HA
     simp only [impl_lexOne.j0] at H
     by_cases c20 : x42_7 = true
     ·subst c20
      have H1 : ((impl_run.f a0 (wrap64 (t621 + 1)) 100).bind fun t623=>(if 0 ≤ (wrap64 (t621 + (wrap64 (1 + t623)))) then (if (wrap64 (t621 + (wrap64 (1 + t623)))) ≤ (a0.size : Int) then ((impl_ReadDec.f (a0.extract 0 ((wrap64 (t621 + (wrap64 (1 + t623)))) : Int).toNat)).bind fun bt624=>(some (1,(⟨#[]⟩ : ByteArray),bt624.1,0,wrap64 (t621 + (wrap64 (1 + t623)))))) else (none)) else (none))) = some (r1,r2,r3,r4,r5):=by rw [if_pos rfl] at H;exact H
      clear H
      have H:=H1
      clear H1
      replace H:=Option.bind_eq_some_iff.mp H
      obtain ⟨t623,A210,H⟩:=H
      replace H : (if 0 ≤ (wrap64 (t621 + (wrap64 (1 + t623)))) then (if (wrap64 (t621 + (wrap64 (1 + t623)))) ≤ (a0.size : Int) then ((impl_ReadDec.f (a0.extract 0 ((wrap64 (t621 + (wrap64 (1 + t623)))) : Int).toNat)).bind fun bt624=>(some (1,(⟨#[]⟩ : ByteArray),bt624.1,0,wrap64 (t621 + (wrap64 (1 + t623)))))) else (none)) else (none)) = some (r1,r2,r3,r4,r5):=H
      have A21:=Aside0.mk A210
      clear A210
      obtain ⟨ji22,hji22⟩ : ∃ j_ : Int,(wrap64 (t621 + (wrap64 (1 + t623)))) = j_:=⟨_,rfl⟩
      replace H : (if 0 ≤ (ji22) then (if (ji22) ≤ (a0.size : Int) then ((impl_ReadDec.f (a0.extract 0 ((ji22) : Int).toNat)).bind fun bt624=>(some (1,(⟨#[]⟩ : ByteArray),bt624.1,0,ji22))) else (none)) else (none)) = some (r1,r2,r3,r4,r5):=by first|(rw [hji22] at H;exact H)|(simp only [hji22] at H ⊢;exact H)
      (try rw [hji22] at A21)
      have hji22w : (IntKind.i64.wrap (t621 + (wrap64 (1 + t623)))) = ji22:=(i64_w _).trans hji22
      by_cases c23 : 0 ≤ (ji22)
      ·rw [if_pos c23] at H
       have c23b0:=eq_true c23
       have c23b1 : decide (0 ≤ (ji22)) = true:=decide_eq_true c23
       clear c23
       by_cases c24 : (ji22) ≤ (a0.size : Int)
       ·rw [if_pos c24] at H
        have c24b0:=eq_true c24
        have c24b1 : decide ((ji22) ≤ (a0.size : Int)) = true:=decide_eq_true c24
        clear c24
        replace H:=Option.bind_eq_some_iff.mp H
        obtain ⟨⟨t624,t625⟩,A250,H⟩:=H
        replace H : (some (1,(⟨#[]⟩ : ByteArray),t624,0,ji22)) = some (r1,r2,r3,r4,r5):=H
        have A25:=Aside0.mk A250
        clear A250
        simp only [Option.some.injEq,Prod.mk.injEq] at H
        obtain ⟨rfl,rfl,rfl,rfl,rfl⟩:=H
        go_wp2_with (first|((with_reducible refine gate_callee (f:=76) rfl ?_);refine goesL_ (some 47) rfl rfl Tryd.func76 (by kernel_rfl) rfl #[.string a0,.int .i64 (wrap64 (t621 + 1)),.func (.func 100) #[] #[]] rfl (by (try simp only [List.map_toArray,List.map_cons,List.map_nil]);first|done|rfl|(simp only [List.length_drop,List.length_take];rfl)) ?_;(with_reducible refine (impl_run.calls a0 (wrap64 (t621 + 1)) 100 t623 _ A21.out).mono ?_);rintro e w' ⟨rfl,⟨nd,rfl⟩⟩;refine ⟨_,rfl,?_⟩;(try (rw [drewN_self wc];generalize hq_ : World.drewN wc _ = wc;have n0_ : Aside0 (wc.heap[gb618]? = some (.cells #[.int .i64 a1_0,.string a1_1,.int .i64 a1_2,.int .i64 a1_3] 60 (0,0))):=⟨by rw [← hq_];exact (by (with_reducible repeat (first|refine blk_drewN ?_ _|refine blk_drew ?_|refine blk_alloc ?_ _));exact BK618.out)⟩;have n1_ : Aside0 (wc.heap[gb619]? = some (.cells #[.int .i64 0,.string (⟨#[]⟩ : ByteArray),.int .i64 0,.int .i64 0] 60 (0,0))):=⟨by rw [← hq_];exact (by (with_reducible repeat (first|refine blk_drewN ?_ _|refine blk_drew ?_|refine blk_alloc ?_ _));exact BK619.out)⟩;have n2_ : Aside0 (Below w.heap.size w wc):=⟨by rw [← hq_];exact (by repeat (first|(with_reducible first|exact HB.out|apply below_alloc|apply pw_below_drewN|apply below_drew1|refine below_set ?_ GE618.out|refine below_set ?_ GE619.out)|exact HB.out))⟩;clear BK618 BK619 HB hq_;have BK618:=n0_;have BK619:=n1_;have HB:=n2_;clear n0_ n1_ n2_)))|((with_reducible refine gate_callee (f:=59) rfl ?_);refine goesL_ (some 54) rfl rfl Tryd.func59 (by kernel_rfl) rfl #[.string (a0.extract 0 ((ji22) : Int).toNat)] rfl (by (try simp only [List.map_toArray,List.map_cons,List.map_nil]);first|done|(simp only [hji22];rfl)|rfl|(simp only [List.length_drop,List.length_take];rfl)) ?_;(with_reducible refine (impl_ReadDec.calls (a0.extract 0 ((ji22) : Int).toNat) t624 t625 _ A25.out).mono ?_);rintro e w26 ⟨rfl,hb⟩;refine ⟨_,rfl,?_⟩;have n0_:=Aside0.mk (blk_below (g:=gb618) (o:=.cells #[.int .i64 a1_0,.string a1_1,.int .i64 a1_2,.int .i64 a1_3] 60 (0,0)) (by (with_reducible repeat (first|refine blk_drewN ?_ _|refine blk_drew ?_|refine blk_alloc ?_ _));exact BK618.out) hb);have n1_:=Aside0.mk (blk_below (g:=gb619) (o:=.cells #[.int .i64 0,.string (⟨#[]⟩ : ByteArray),.int .i64 0,.int .i64 0] 60 (0,0)) (by (with_reducible repeat (first|refine blk_drewN ?_ _|refine blk_drew ?_|refine blk_alloc ?_ _));exact BK619.out) hb);have n2_:=Aside0.mk (below_step (by repeat (first|(with_reducible first|exact HB.out|apply below_alloc|apply pw_below_drewN|apply below_drew1|refine below_set ?_ GE618.out|refine below_set ?_ GE619.out)|exact HB.out)) hb);clear BK618;clear BK619;clear HB;have BK618:=n0_;have BK619:=n1_;have HB:=n2_;clear n0_ n1_ n2_;(try clear hb);(try clear hb2);(try clear hk);(try clear hi);have hnb27:=NB619_618.out;have hnc27:=NB618_619.out;have hcz28_0 : w26.cell? ⟨gb619,0,none⟩ = some (.int .i64 0):=(blk_cell BK619.out 0).trans rfl;have hcz28_1 : w26.cell? ⟨gb619,1,none⟩ = some (.string (⟨#[]⟩ : ByteArray)):=(blk_cell BK619.out 1).trans rfl;have hcz28_2 : w26.cell? ⟨gb619,2,none⟩ = some (.int .i64 0):=(blk_cell BK619.out 2).trans rfl;have hcz28_3 : w26.cell? ⟨gb619,3,none⟩ = some (.int .i64 0):=(blk_cell BK619.out 3).trans rfl;have hfz28_0:=blk_frozen BK619.out 0;have hfz28_1:=blk_frozen BK619.out 1;have hfz28_2:=blk_frozen BK619.out 2;have hfz28_3:=blk_frozen BK619.out 3))
        refine bodyPost_ret (results_ct rfl _ _ gb619 60 #[.int .i64 1,.string (⟨#[]⟩ : ByteArray),.int .i64 t624,.int .i64 0] (0,0) _ rfl (by (with_reducible repeat (first|refine blk_drewN ?_ _|refine blk_drew ?_|refine blk_alloc ?_ _));refine blk_put (cs:=#[.int .i64 1,.string (⟨#[]⟩ : ByteArray),.int .i64 t624,.int .i64 0]) ?_ 3 _ rfl;(with_reducible repeat (first|refine blk_drewN ?_ _|refine blk_drew ?_|refine blk_alloc ?_ _));refine blk_put (cs:=#[.int .i64 1,.string (⟨#[]⟩ : ByteArray),.int .i64 0,.int .i64 0]) ?_ 2 _ rfl;(with_reducible repeat (first|refine blk_drewN ?_ _|refine blk_drew ?_|refine blk_alloc ?_ _));refine blk_put (cs:=#[.int .i64 1,.string (⟨#[]⟩ : ByteArray),.int .i64 0,.int .i64 0]) ?_ 1 _ rfl;(with_reducible repeat (first|refine blk_drewN ?_ _|refine blk_drew ?_|refine blk_alloc ?_ _));refine blk_put (cs:=#[.int .i64 0,.string (⟨#[]⟩ : ByteArray),.int .i64 0,.int .i64 0]) ?_ 0 _ rfl;(with_reducible repeat (first|refine blk_drewN ?_ _|refine blk_drew ?_|refine blk_alloc ?_ _));exact BK619.out) Tryd.underlying60 rfl (by kernel_rfl)) rfl ?_
        exact ⟨by first|rfl|(simp [errW_none,errW_some] <;> rfl)|(simp only [← hji22];first|rfl|(simp [errW_none,errW_some] <;> rfl))|(simp [*,errW_none,errW_some] <;> rfl),by repeat (first|(with_reducible first|exact HB.out|apply below_alloc|apply pw_below_drewN|apply below_drew1|refine below_set ?_ GE618.out|refine below_set ?_ GE619.out)|exact HB.out)⟩
       ·rw [if_neg c24] at H
        exact absurd H (by simp)
      ·rw [if_neg c23] at H
       exact absurd H (by simp)
     ·replace c20:=Bool.eq_false_iff.mpr c20
      subst c20
      have H1 : (if 0 ≤ t621 then (if t621 ≤ (a0.size : Int) then ((impl_ReadDec.f (a0.extract 0 (t621 : Int).toNat)).bind fun bt626=>(some (1,(⟨#[]⟩ : ByteArray),bt626.1,0,t621))) else (none)) else (none)) = some (r1,r2,r3,r4,r5):=by rw [if_neg (show ¬ (false = true) by decide)] at H;exact H
      clear H
      have H:=H1
      clear H1
      by_cases c29 : 0 ≤ t621
      ·rw [if_pos c29] at H
       have c29b0:=eq_true c29
       have c29b1 : decide (0 ≤ t621) = true:=decide_eq_true c29
       clear c29
       by_cases c30 : t621 ≤ (a0.size : Int)
       ·rw [if_pos c30] at H
        have c30b0:=eq_true c30
        have c30b1 : decide (t621 ≤ (a0.size : Int)) = true:=decide_eq_true c30
        clear c30
        replace H:=Option.bind_eq_some_iff.mp H
        obtain ⟨⟨t626,t627⟩,A310,H⟩:=H
        replace H : (some (1,(⟨#[]⟩ : ByteArray),t626,0,t621)) = some (r1,r2,r3,r4,r5):=H
        have A31:=Aside0.mk A310
        clear A310
        simp only [Option.some.injEq,Prod.mk.injEq] at H
        obtain ⟨rfl,rfl,rfl,rfl,rfl⟩:=H
        go_wp2_with (first|((with_reducible refine gate_callee (f:=59) rfl ?_);refine goesL_ (some 54) rfl rfl Tryd.func59 (by kernel_rfl) rfl #[.string (a0.extract 0 (t621 : Int).toNat)] rfl (by (try simp only [List.map_toArray,List.map_cons,List.map_nil]);first|done|rfl|(simp only [List.length_drop,List.length_take];rfl)) ?_;(with_reducible refine (impl_ReadDec.calls (a0.extract 0 (t621 : Int).toNat) t626 t627 _ A31.out).mono ?_);rintro e w32 ⟨rfl,hb⟩;refine ⟨_,rfl,?_⟩;have n0_:=Aside0.mk (blk_below (g:=gb618) (o:=.cells #[.int .i64 a1_0,.string a1_1,.int .i64 a1_2,.int .i64 a1_3] 60 (0,0)) (by (with_reducible repeat (first|refine blk_drewN ?_ _|refine blk_drew ?_|refine blk_alloc ?_ _));exact BK618.out) hb);have n1_:=Aside0.mk (blk_below (g:=gb619) (o:=.cells #[.int .i64 0,.string (⟨#[]⟩ : ByteArray),.int .i64 0,.int .i64 0] 60 (0,0)) (by (with_reducible repeat (first|refine blk_drewN ?_ _|refine blk_drew ?_|refine blk_alloc ?_ _));exact BK619.out) hb);have n2_:=Aside0.mk (below_step (by repeat (first|(with_reducible first|exact HB.out|apply below_alloc|apply pw_below_drewN|apply below_drew1|refine below_set ?_ GE618.out|refine below_set ?_ GE619.out)|exact HB.out)) hb);clear BK618;clear BK619;clear HB;have BK618:=n0_;have BK619:=n1_;have HB:=n2_;clear n0_ n1_ n2_;(try clear hb);(try clear hb2);(try clear hk);(try clear hi);have hnb33:=NB619_618.out;have hnc33:=NB618_619.out;have hcz34_0 : w32.cell? ⟨gb619,0,none⟩ = some (.int .i64 0):=(blk_cell BK619.out 0).trans rfl;have hcz34_1 : w32.cell? ⟨gb619,1,none⟩ = some (.string (⟨#[]⟩ : ByteArray)):=(blk_cell BK619.out 1).trans rfl;have hcz34_2 : w32.cell? ⟨gb619,2,none⟩ = some (.int .i64 0):=(blk_cell BK619.out 2).trans rfl;have hcz34_3 : w32.cell? ⟨gb619,3,none⟩ = some (.int .i64 0):=(blk_cell BK619.out 3).trans rfl;have hfz34_0:=blk_frozen BK619.out 0;have hfz34_1:=blk_frozen BK619.out 1;have hfz34_2:=blk_frozen BK619.out 2;have hfz34_3:=blk_frozen BK619.out 3))
        refine bodyPost_ret (results_ct rfl _ _ gb619 60 #[.int .i64 1,.string (⟨#[]⟩ : ByteArray),.int .i64 t626,.int .i64 0] (0,0) _ rfl (by (with_reducible repeat (first|refine blk_drewN ?_ _|refine blk_drew ?_|refine blk_alloc ?_ _));refine blk_put (cs:=#[.int .i64 1,.string (⟨#[]⟩ : ByteArray),.int .i64 t626,.int .i64 0]) ?_ 3 _ rfl;(with_reducible repeat (first|refine blk_drewN ?_ _|refine blk_drew ?_|refine blk_alloc ?_ _));refine blk_put (cs:=#[.int .i64 1,.string (⟨#[]⟩ : ByteArray),.int .i64 0,.int .i64 0]) ?_ 2 _ rfl;(with_reducible repeat (first|refine blk_drewN ?_ _|refine blk_drew ?_|refine blk_alloc ?_ _));refine blk_put (cs:=#[.int .i64 1,.string (⟨#[]⟩ : ByteArray),.int .i64 0,.int .i64 0]) ?_ 1 _ rfl;(with_reducible repeat (first|refine blk_drewN ?_ _|refine blk_drew ?_|refine blk_alloc ?_ _));refine blk_put (cs:=#[.int .i64 0,.string (⟨#[]⟩ : ByteArray),.int .i64 0,.int .i64 0]) ?_ 0 _ rfl;(with_reducible repeat (first|refine blk_drewN ?_ _|refine blk_drew ?_|refine blk_alloc ?_ _));exact BK619.out) Tryd.underlying60 rfl (by kernel_rfl)) rfl ?_
        exact ⟨by first|rfl|(simp [errW_none,errW_some] <;> rfl)|(simp [*,errW_none,errW_some] <;> rfl),by repeat (first|(with_reducible first|exact HB.out|apply below_alloc|apply pw_below_drewN|apply below_drew1|refine below_set ?_ GE618.out|refine below_set ?_ GE619.out)|exact HB.out)⟩
       ·rw [if_neg c30] at H
        exact absurd H (by simp)
      ·rw [if_neg c29] at H
       exact absurd H (by simp)
  ·replace c6:=Bool.eq_false_iff.mpr c6
   subst c6
   have H1 : (if (bt a0 0) = 34 then ((impl_lexString.f k a0).bind fun bt628=>(some (2,bt628.1,0,0,bt628.2))) else (if (bt a0 0) = 47 then ((impl_endsOperand.f a1_0 a1_1 a1_2 a1_3).bind fun t630=>(impl_lexOne.j1 k a0 (bt a0 0) (!t630))) else (impl_lexOne.j1 k a0 (bt a0 0) false))) = some (r1,r2,r3,r4,r5):=by rw [if_neg (show ¬ (false = true) by decide)] at H;exact H
   clear H
   have H:=H1
   clear H1
   by_cases c35 : (bt a0 0) = 34
   ·rw [if_pos c35] at H
    have c35b0 : ((bt a0 0) == 34) = true:=beq_iff_eq.mpr c35
    have c35b1 : ((bt a0 0) != 34) = false:=bne_eq_false_iff_eq.mpr c35
    clear c35
    replace H:=Option.bind_eq_some_iff.mp H
    obtain ⟨⟨t628,t629⟩,A360,H⟩:=H
    replace H : (some (2,t628,0,0,t629)) = some (r1,r2,r3,r4,r5):=H
    have A36:=Aside0.mk A360
    clear A360
    simp only [Option.some.injEq,Prod.mk.injEq] at H
    obtain ⟨rfl,rfl,rfl,rfl,rfl⟩:=H
    go_enter Tryd.func78,Tryd.ntmps78
    go_wp2_with (first|((with_reducible refine gate_dst (N:=3) rfl ?_);refine box_event ?hg (N:=3) ?hd (cs:=#[.int .i64 a1_0,.string a1_1,.int .i64 a1_2,.int .i64 a1_3]) (t:=60) ?hr ?_;(case hd=>rfl);(case hg=>rfl);(case hr=>first|(go_simp;done)|(go_simp;rfl));intro gb618 hg w37 hbox hb;have n0_:=Aside0.mk (below_step (by repeat (first|(with_reducible first|exact HB.out|apply below_alloc|apply pw_below_drewN|apply below_drew1)|exact HB.out)) hb);have n1_:=Aside0.mk (hbox);have n2_:=Aside0.mk ((by rw [hg];exact (below_size (by repeat (first|(with_reducible first|exact HB.out|apply below_alloc|apply pw_below_drewN|apply below_drew1)|exact HB.out))) : w.heap.size ≤ gb618));have n3_:=Aside0.mk ((by rw [hg];exact (below_size (by repeat (first|(with_reducible first|exact HB.out|apply below_alloc|apply pw_below_drewN|apply below_drew1)|exact HB.out))) : w.heap.size ≤ gb618));clear HB;have HB:=n0_;have BK618:=n1_;have GW618:=n2_;have GE618:=n3_;clear n0_ n1_ n2_ n3_;clear hb hbox hg)|((with_reducible refine gate_dst (N:=4) rfl ?_);refine box_event ?hg (N:=4) ?hd (cs:=#[.int .i64 0,.string (⟨#[]⟩ : ByteArray),.int .i64 0,.int .i64 0]) (t:=60) ?hr ?_;(case hd=>rfl);(case hg=>rfl);(case hr=>first|(go_simp;done)|(go_simp;rfl));intro gb619 hg w38 hbox hb;have n0_:=Aside0.mk (blk_below (g:=gb618) (o:=.cells #[.int .i64 a1_0,.string a1_1,.int .i64 a1_2,.int .i64 a1_3] 60 (0,0)) (by (with_reducible repeat (first|refine blk_drewN ?_ _|refine blk_drew ?_|refine blk_alloc ?_ _));exact BK618.out) hb);have n1_:=Aside0.mk (below_step (by repeat (first|(with_reducible first|exact HB.out|apply below_alloc|apply pw_below_drewN|apply below_drew1|refine below_set ?_ GE618.out)|exact HB.out)) hb);have n2_:=Aside0.mk (hbox);have n3_:=Aside0.mk ((by rw [hg];exact (below_size (by repeat (first|(with_reducible first|exact HB.out|apply below_alloc|apply pw_below_drewN|apply below_drew1|refine below_set ?_ GE618.out)|exact HB.out))) : w.heap.size ≤ gb619));have n4_:=Aside0.mk ((by rw [hg];exact (below_size (by repeat (first|(with_reducible first|exact HB.out|apply below_alloc|apply pw_below_drewN|apply below_drew1|refine below_set ?_ GE618.out)|exact HB.out))) : w.heap.size ≤ gb619));have n5_:=Aside0.mk ((by rw [hg];exact Nat.ne_of_lt (blk_lt (g:=gb618) (o:=.cells #[.int .i64 a1_0,.string a1_1,.int .i64 a1_2,.int .i64 a1_3] 60 (0,0)) (by (with_reducible repeat (first|refine blk_drewN ?_ _|refine blk_drew ?_|refine blk_alloc ?_ _));exact BK618.out)) : gb618 ≠ gb619));have n6_:=Aside0.mk ((by rw [hg];exact Nat.ne_of_gt (blk_lt (g:=gb618) (o:=.cells #[.int .i64 a1_0,.string a1_1,.int .i64 a1_2,.int .i64 a1_3] 60 (0,0)) (by (with_reducible repeat (first|refine blk_drewN ?_ _|refine blk_drew ?_|refine blk_alloc ?_ _));exact BK618.out)) : gb619 ≠ gb618));clear BK618;clear HB;have BK618:=n0_;have HB:=n1_;have BK619:=n2_;have GW619:=n3_;have GE619:=n4_;have NB618_619:=n5_;have NB619_618:=n6_;clear n0_ n1_ n2_ n3_ n4_ n5_ n6_;clear hb hbox hg;have p4 : 0 ≤ (0 : Int):=(by omega);have q4 : 0 < a0.size:=(by have : (0 : Int) < (a0.size : Int):=of_decide_eq_true (by first|(with_reducible assumption)|assumption);omega);have hx4 : ∀ h : 0 < a0.size,((a0[0]'h).toNat : Int) = bt a0 0:=bt_at a0 0;clear p4;have qi4 : (0 < (a0.size : Int)) = True:=eq_true (of_decide_eq_true (by first|(with_reducible assumption)|assumption));replace q4:=eq_true q4)|((with_reducible refine gate_callee (f:=100) rfl ?_);refine goesL_ (some 22) rfl rfl Tryd.func100 (by kernel_rfl) rfl #[.int .u8 (bt a0 0)] rfl (by (try simp only [List.map_toArray,List.map_cons,List.map_nil]);first|done|rfl|(simp only [List.length_drop,List.length_take];rfl)) ?_;(with_reducible refine (impl_isDigit.calls (bt a0 0) false _ A5.out).mono ?_);rintro e w' ⟨rfl,⟨nd,rfl⟩⟩;refine ⟨_,rfl,?_⟩;(try (rw [drewN_self w38];generalize hq_ : World.drewN w38 _ = w38;have n0_ : Aside0 (w38.heap[gb618]? = some (.cells #[.int .i64 a1_0,.string a1_1,.int .i64 a1_2,.int .i64 a1_3] 60 (0,0))):=⟨by rw [← hq_];exact (by (with_reducible repeat (first|refine blk_drewN ?_ _|refine blk_drew ?_|refine blk_alloc ?_ _));exact BK618.out)⟩;have n1_ : Aside0 (w38.heap[gb619]? = some (.cells #[.int .i64 0,.string (⟨#[]⟩ : ByteArray),.int .i64 0,.int .i64 0] 60 (0,0))):=⟨by rw [← hq_];exact (by (with_reducible repeat (first|refine blk_drewN ?_ _|refine blk_drew ?_|refine blk_alloc ?_ _));exact BK619.out)⟩;have n2_ : Aside0 (Below w.heap.size w w38):=⟨by rw [← hq_];exact (by repeat (first|(with_reducible first|exact HB.out|apply below_alloc|apply pw_below_drewN|apply below_drew1|refine below_set ?_ GE618.out|refine below_set ?_ GE619.out)|exact HB.out))⟩;clear BK618 BK619 HB hq_;have BK618:=n0_;have BK619:=n1_;have HB:=n2_;clear n0_ n1_ n2_)))|((with_reducible refine gate_callee (f:=113) rfl ?_);refine goesL_ (some 65) rfl rfl Tryd.func113 (by kernel_rfl) rfl #[.string a0] rfl (by (try simp only [List.map_toArray,List.map_cons,List.map_nil]);first|done|rfl|(simp only [List.length_drop,List.length_take];rfl)) ?_;(with_reducible refine (impl_lexString.calls k a0 t628 t629 _ A36.out).mono ?_);rintro e w39 ⟨rfl,hb⟩;refine ⟨_,rfl,?_⟩;have n0_:=Aside0.mk (blk_below (g:=gb618) (o:=.cells #[.int .i64 a1_0,.string a1_1,.int .i64 a1_2,.int .i64 a1_3] 60 (0,0)) (by (with_reducible repeat (first|refine blk_drewN ?_ _|refine blk_drew ?_|refine blk_alloc ?_ _));exact BK618.out) hb);have n1_:=Aside0.mk (blk_below (g:=gb619) (o:=.cells #[.int .i64 0,.string (⟨#[]⟩ : ByteArray),.int .i64 0,.int .i64 0] 60 (0,0)) (by (with_reducible repeat (first|refine blk_drewN ?_ _|refine blk_drew ?_|refine blk_alloc ?_ _));exact BK619.out) hb);have n2_:=Aside0.mk (below_step (by repeat (first|(with_reducible first|exact HB.out|apply below_alloc|apply pw_below_drewN|apply below_drew1|refine below_set ?_ GE618.out|refine below_set ?_ GE619.out)|exact HB.out)) hb);clear BK618;clear BK619;clear HB;have BK618:=n0_;have BK619:=n1_;have HB:=n2_;clear n0_ n1_ n2_;(try clear hb);(try clear hb2);(try clear hk);(try clear hi);have hnb40:=NB619_618.out;have hnc40:=NB618_619.out;have hcz41_0 : w39.cell? ⟨gb619,0,none⟩ = some (.int .i64 0):=(blk_cell BK619.out 0).trans rfl;have hcz41_1 : w39.cell? ⟨gb619,1,none⟩ = some (.string (⟨#[]⟩ : ByteArray)):=(blk_cell BK619.out 1).trans rfl;have hcz41_2 : w39.cell? ⟨gb619,2,none⟩ = some (.int .i64 0):=(blk_cell BK619.out 2).trans rfl;have hcz41_3 : w39.cell? ⟨gb619,3,none⟩ = some (.int .i64 0):=(blk_cell BK619.out 3).trans rfl;have hfz41_0:=blk_frozen BK619.out 0;have hfz41_1:=blk_frozen BK619.out 1;have hfz41_2:=blk_frozen BK619.out 2;have hfz41_3:=blk_frozen BK619.out 3))
    refine bodyPost_ret (results_ct rfl _ _ gb619 60 #[.int .i64 2,.string t628,.int .i64 0,.int .i64 0] (0,0) _ rfl (by (with_reducible repeat (first|refine blk_drewN ?_ _|refine blk_drew ?_|refine blk_alloc ?_ _));refine blk_put (cs:=#[.int .i64 2,.string t628,.int .i64 0,.int .i64 0]) ?_ 3 _ rfl;(with_reducible repeat (first|refine blk_drewN ?_ _|refine blk_drew ?_|refine blk_alloc ?_ _));refine blk_put (cs:=#[.int .i64 2,.string t628,.int .i64 0,.int .i64 0]) ?_ 2 _ rfl;(with_reducible repeat (first|refine blk_drewN ?_ _|refine blk_drew ?_|refine blk_alloc ?_ _));refine blk_put (cs:=#[.int .i64 2,.string (⟨#[]⟩ : ByteArray),.int .i64 0,.int .i64 0]) ?_ 1 _ rfl;(with_reducible repeat (first|refine blk_drewN ?_ _|refine blk_drew ?_|refine blk_alloc ?_ _));refine blk_put (cs:=#[.int .i64 0,.string (⟨#[]⟩ : ByteArray),.int .i64 0,.int .i64 0]) ?_ 0 _ rfl;(with_reducible repeat (first|refine blk_drewN ?_ _|refine blk_drew ?_|refine blk_alloc ?_ _));exact BK619.out) Tryd.underlying60 rfl (by kernel_rfl)) rfl ?_
    exact ⟨by first|rfl|(simp [errW_none,errW_some] <;> rfl)|(simp [*,errW_none,errW_some] <;> rfl),by repeat (first|(with_reducible first|exact HB.out|apply below_alloc|apply pw_below_drewN|apply below_drew1|refine below_set ?_ GE618.out|refine below_set ?_ GE619.out)|exact HB.out)⟩
   ·rw [if_neg c35] at H
    have c35b0 : ((bt a0 0) == 34) = false:=beq_eq_false_iff_ne.mpr c35
    have c35b1 : ((bt a0 0) != 34) = true:=bne_iff_ne.mpr c35
    have HC42:=Aside0.mk H
    clear H
    go_enter Tryd.func78,Tryd.ntmps78
    go_upto_region 11 with (first|((with_reducible refine gate_dst (N:=3) rfl ?_);refine box_event ?hg (N:=3) ?hd (cs:=#[.int .i64 a1_0,.string a1_1,.int .i64 a1_2,.int .i64 a1_3]) (t:=60) ?hr ?_;(case hd=>rfl);(case hg=>rfl);(case hr=>first|(go_simp;done)|(go_simp;rfl));intro gb618 hg w43 hbox hb;have n0_:=Aside0.mk (below_step (by repeat (first|(with_reducible first|exact HB.out|apply below_alloc|apply pw_below_drewN|apply below_drew1)|exact HB.out)) hb);have n1_:=Aside0.mk (hbox);have n2_:=Aside0.mk ((by rw [hg];exact (below_size (by repeat (first|(with_reducible first|exact HB.out|apply below_alloc|apply pw_below_drewN|apply below_drew1)|exact HB.out))) : w.heap.size ≤ gb618));have n3_:=Aside0.mk ((by rw [hg];exact (below_size (by repeat (first|(with_reducible first|exact HB.out|apply below_alloc|apply pw_below_drewN|apply below_drew1)|exact HB.out))) : w.heap.size ≤ gb618));clear HB;have HB:=n0_;have BK618:=n1_;have GW618:=n2_;have GE618:=n3_;clear n0_ n1_ n2_ n3_;clear hb hbox hg)|((with_reducible refine gate_dst (N:=4) rfl ?_);refine box_event ?hg (N:=4) ?hd (cs:=#[.int .i64 0,.string (⟨#[]⟩ : ByteArray),.int .i64 0,.int .i64 0]) (t:=60) ?hr ?_;(case hd=>rfl);(case hg=>rfl);(case hr=>first|(go_simp;done)|(go_simp;rfl));intro gb619 hg w44 hbox hb;have n0_:=Aside0.mk (blk_below (g:=gb618) (o:=.cells #[.int .i64 a1_0,.string a1_1,.int .i64 a1_2,.int .i64 a1_3] 60 (0,0)) (by (with_reducible repeat (first|refine blk_drewN ?_ _|refine blk_drew ?_|refine blk_alloc ?_ _));exact BK618.out) hb);have n1_:=Aside0.mk (below_step (by repeat (first|(with_reducible first|exact HB.out|apply below_alloc|apply pw_below_drewN|apply below_drew1|refine below_set ?_ GE618.out)|exact HB.out)) hb);have n2_:=Aside0.mk (hbox);have n3_:=Aside0.mk ((by rw [hg];exact (below_size (by repeat (first|(with_reducible first|exact HB.out|apply below_alloc|apply pw_below_drewN|apply below_drew1|refine below_set ?_ GE618.out)|exact HB.out))) : w.heap.size ≤ gb619));have n4_:=Aside0.mk ((by rw [hg];exact (below_size (by repeat (first|(with_reducible first|exact HB.out|apply below_alloc|apply pw_below_drewN|apply below_drew1|refine below_set ?_ GE618.out)|exact HB.out))) : w.heap.size ≤ gb619));have n5_:=Aside0.mk ((by rw [hg];exact Nat.ne_of_lt (blk_lt (g:=gb618) (o:=.cells #[.int .i64 a1_0,.string a1_1,.int .i64 a1_2,.int .i64 a1_3] 60 (0,0)) (by (with_reducible repeat (first|refine blk_drewN ?_ _|refine blk_drew ?_|refine blk_alloc ?_ _));exact BK618.out)) : gb618 ≠ gb619));have n6_:=Aside0.mk ((by rw [hg];exact Nat.ne_of_gt (blk_lt (g:=gb618) (o:=.cells #[.int .i64 a1_0,.string a1_1,.int .i64 a1_2,.int .i64 a1_3] 60 (0,0)) (by (with_reducible repeat (first|refine blk_drewN ?_ _|refine blk_drew ?_|refine blk_alloc ?_ _));exact BK618.out)) : gb619 ≠ gb618));clear BK618;clear HB;have BK618:=n0_;have HB:=n1_;have BK619:=n2_;have GW619:=n3_;have GE619:=n4_;have NB618_619:=n5_;have NB619_618:=n6_;clear n0_ n1_ n2_ n3_ n4_ n5_ n6_;clear hb hbox hg;have p4 : 0 ≤ (0 : Int):=(by omega);have q4 : 0 < a0.size:=(by have : (0 : Int) < (a0.size : Int):=of_decide_eq_true (by first|(with_reducible assumption)|assumption);omega);have hx4 : ∀ h : 0 < a0.size,((a0[0]'h).toNat : Int) = bt a0 0:=bt_at a0 0;clear p4;have qi4 : (0 < (a0.size : Int)) = True:=eq_true (of_decide_eq_true (by first|(with_reducible assumption)|assumption));replace q4:=eq_true q4)|((with_reducible refine gate_callee (f:=100) rfl ?_);refine goesL_ (some 22) rfl rfl Tryd.func100 (by kernel_rfl) rfl #[.int .u8 (bt a0 0)] rfl (by (try simp only [List.map_toArray,List.map_cons,List.map_nil]);first|done|rfl|(simp only [List.length_drop,List.length_take];rfl)) ?_;(with_reducible refine (impl_isDigit.calls (bt a0 0) false _ A5.out).mono ?_);rintro e w' ⟨rfl,⟨nd,rfl⟩⟩;refine ⟨_,rfl,?_⟩))
    (try simp only [Act.put,List.setIfInBounds_toArray,List.set_cons_zero,List.set_cons_succ])
    go_cut [71] (fun v71 wc=>∃ (kq : Nat) (x71_41 : Bool),v71 = .bool x71_41 ∧ Aside0 (impl_lexOne.j1 kq a0 (bt a0 0) x71_41 = some (r1,r2,r3,r4,r5)) ∧ Aside0 (kq ≤ k) ∧ Aside0 (wc.heap[gb618]? = some (.cells #[.int .i64 a1_0,.string a1_1,.int .i64 a1_2,.int .i64 a1_3] 60 (0,0))) ∧ Aside0 (wc.heap[gb619]? = some (.cells #[.int .i64 0,.string (⟨#[]⟩ : ByteArray),.int .i64 0,.int .i64 0] 60 (0,0))) ∧ Aside0 (Below w.heap.size w wc))
    case first =>
     have H:=HC42.out
     clear HC42
     by_cases c45 : (bt a0 0) = 47
     ·rw [if_pos c45] at H
      have c45b0 : ((bt a0 0) == 47) = true:=beq_iff_eq.mpr c45
      have c45b1 : ((bt a0 0) != 47) = false:=bne_eq_false_iff_eq.mpr c45
      clear c45
      (first|rw [c45b0]|(simp only [i64_w,i32_w];rw [c45b0])|skip)
      replace H:=Option.bind_eq_some_iff.mp H
      obtain ⟨t630,A460,H⟩:=H
      replace H : (impl_lexOne.j1 k a0 (bt a0 0) (!t630)) = some (r1,r2,r3,r4,r5):=H
      have A46:=Aside0.mk A460
      clear A460
      have H':=Aside0.mk H
      clear H
      have hnb47:=NB618_619.out
      have hnc47:=NB619_618.out
      have hcz48_0 : w44.cell? ⟨gb618,0,none⟩ = some (.int .i64 a1_0):=(blk_cell BK618.out 0).trans rfl
      have hcz48_1 : w44.cell? ⟨gb618,1,none⟩ = some (.string a1_1):=(blk_cell BK618.out 1).trans rfl
      have hcz48_2 : w44.cell? ⟨gb618,2,none⟩ = some (.int .i64 a1_2):=(blk_cell BK618.out 2).trans rfl
      have hcz48_3 : w44.cell? ⟨gb618,3,none⟩ = some (.int .i64 a1_3):=(blk_cell BK618.out 3).trans rfl
      have hfz48_0:=blk_frozen BK618.out 0
      have hfz48_1:=blk_frozen BK618.out 1
      have hfz48_2:=blk_frozen BK618.out 2
      have hfz48_3:=blk_frozen BK618.out 3
      go_wp2_with (first|(go_at_call 114;(with_reducible refine (impl_endsOperand.calls a1_0 a1_1 a1_2 a1_3 t630 _ A46.out).mono ?_);rintro e w49 ⟨rfl,hb⟩;have n0_:=Aside0.mk (blk_below (g:=gb618) (o:=.cells #[.int .i64 a1_0,.string a1_1,.int .i64 a1_2,.int .i64 a1_3] 60 (0,0)) (by (with_reducible repeat (first|refine blk_drewN ?_ _|refine blk_drew ?_|refine blk_alloc ?_ _));exact BK618.out) hb);have n1_:=Aside0.mk (blk_below (g:=gb619) (o:=.cells #[.int .i64 0,.string (⟨#[]⟩ : ByteArray),.int .i64 0,.int .i64 0] 60 (0,0)) (by (with_reducible repeat (first|refine blk_drewN ?_ _|refine blk_drew ?_|refine blk_alloc ?_ _));exact BK619.out) hb);have n2_:=Aside0.mk (below_step (by repeat (first|(with_reducible first|exact HB.out|apply below_alloc|apply pw_below_drewN|apply below_drew1|refine below_set ?_ GE618.out|refine below_set ?_ GE619.out)|exact HB.out)) hb);clear BK618;clear BK619;clear HB;have BK618:=n0_;have BK619:=n1_;have HB:=n2_;clear n0_ n1_ n2_;(try clear hb);(try clear hb2);(try clear hk);(try clear hi)))
      go_meet
      case rel=>exact ⟨_,(!t630),(by first|rfl|(simp;done)|(simp [*];done)),H',⟨by first|omega|exact Nat.le_refl _⟩,⟨by (with_reducible repeat (first|refine blk_drewN ?_ _|refine blk_drew ?_|refine blk_alloc ?_ _));exact BK618.out⟩,⟨by (with_reducible repeat (first|refine blk_drewN ?_ _|refine blk_drew ?_|refine blk_alloc ?_ _));exact BK619.out⟩,⟨by repeat (first|(with_reducible first|exact HB.out|apply below_alloc|apply pw_below_drewN|apply below_drew1|refine below_set ?_ GE618.out|refine below_set ?_ GE619.out)|exact HB.out)⟩⟩
     ·rw [if_neg c45] at H
      have c45b0 : ((bt a0 0) == 47) = false:=beq_eq_false_iff_ne.mpr c45
      have c45b1 : ((bt a0 0) != 47) = true:=bne_iff_ne.mpr c45
      (first|rw [c45b0]|(simp only [i64_w,i32_w];rw [c45b0])|skip)
      have H':=Aside0.mk H
      clear H
      go_wp2
      go_meet
      case rel=>exact ⟨_,(false),(by first|rfl|(simp;done)|(simp [*];done)),H',⟨by first|omega|exact Nat.le_refl _⟩,⟨by (with_reducible repeat (first|refine blk_drewN ?_ _|refine blk_drew ?_|refine blk_alloc ?_ _));exact BK618.out⟩,⟨by (with_reducible repeat (first|refine blk_drewN ?_ _|refine blk_drew ?_|refine blk_alloc ?_ _));exact BK619.out⟩,⟨by repeat (first|(with_reducible first|exact HB.out|apply below_alloc|apply pw_below_drewN|apply below_drew1|refine below_set ?_ GE618.out|refine below_set ?_ GE619.out)|exact HB.out)⟩⟩
    case rest =>
     clear HC42
     try clear c1
     try clear p1
     try clear q1
     try clear hx1
     try clear c2
     try clear p2
     try clear c3
     try clear c3b0
     try clear c3b1
     try clear c4
     try clear p4
     try clear q4
     try clear hx4
     try clear qi4
     try clear c5
     try clear c6
     try clear p6
     try clear c7
     try clear c10
     try clear c11
     try clear c11b0
     try clear c12
     try clear c12b0
     try clear c13
     try clear c13b0
     try clear p14
     try clear q14
     try clear hx14
     try clear c15
     try clear c15b0
     try clear c15b1
     try clear c17
     try clear c17b0
     try clear p18
     try clear q18
     try clear hx18
     try clear c20
     try clear c23
     try clear c23b0
     try clear c23b1
     try clear c24
     try clear c24b0
     try clear c24b1
     try clear c27
     try clear c29
     try clear c29b0
     try clear c29b1
     try clear c30
     try clear c30b0
     try clear c30b1
     try clear c33
     try clear c35
     try clear c35b0
     try clear c35b1
     try clear c40
     try clear c45
     try clear c45b0
     try clear c45b1
     try clear c47
     try clear hcz28_0
     try clear hcz28_1
     try clear hcz28_2
     try clear hcz28_3
     try clear hcz34_0
     try clear hcz34_1
     try clear hcz34_2
     try clear hcz34_3
     try clear hcz41_0
     try clear hcz41_1
     try clear hcz41_2
     try clear hcz41_3
     try clear hcz48_0
     try clear hcz48_1
     try clear hcz48_2
     try clear hcz48_3
     try clear hfz28_0
     try clear hfz28_1
     try clear hfz28_2
     try clear hfz28_3
     try clear hfz34_0
     try clear hfz34_1
     try clear hfz34_2
     try clear hfz34_3
     try clear hfz41_0
     try clear hfz41_1
     try clear hfz41_2
     try clear hfz41_3
     try clear hfz48_0
     try clear hfz48_1
     try clear hfz48_2
     try clear hfz48_3
     try clear p1
     try clear p14
     try clear p18
     try clear p2
     try clear p4
     try clear p6
     try clear q1
     try clear q14
     try clear q18
     try clear q4
     obtain ⟨kq,x71_41,rfl,HA,HJ41,BK618,BK619,HB⟩:=hcut
     cases kq with
     | zero=>exact absurd HA.out (by simp [impl_lexOne.j1])
     | succ kj41 =>
      have H:=HA.out
      clear HA
      simp only [impl_lexOne.j1] at H
      by_cases c50 : x71_41 = true
      ·subst c50
       have H1 : ((impl_lexRe.f kj41 a0).bind fun bt631=>(some (3,bt631.1,0,0,bt631.2))) = some (r1,r2,r3,r4,r5):=by rw [if_pos rfl] at H;exact H
       clear H
       have H:=H1
       clear H1
       replace H:=Option.bind_eq_some_iff.mp H
       obtain ⟨⟨t631,t632⟩,A510,H⟩:=H
       replace H : (some (3,t631,0,0,t632)) = some (r1,r2,r3,r4,r5):=H
       have A51:=Aside0.mk A510
       clear A510
       simp only [Option.some.injEq,Prod.mk.injEq] at H
       obtain ⟨rfl,rfl,rfl,rfl,rfl⟩:=H
       go_wp2_with (first|((with_reducible refine gate_callee (f:=115) rfl ?_);refine goesL_ (some 81) rfl rfl Tryd.func115 (by kernel_rfl) rfl #[.string a0] rfl (by (try simp only [List.map_toArray,List.map_cons,List.map_nil]);first|done|rfl|(simp only [List.length_drop,List.length_take];rfl)) ?_;(with_reducible refine (impl_lexRe.calls kj41 a0 t631 t632 _ A51.out).mono ?_);rintro e w' ⟨rfl,⟨nd,rfl⟩⟩;refine ⟨_,rfl,?_⟩;(try (rw [drewN_self wc];generalize hq_ : World.drewN wc _ = wc;have n0_ : Aside0 (wc.heap[gb618]? = some (.cells #[.int .i64 a1_0,.string a1_1,.int .i64 a1_2,.int .i64 a1_3] 60 (0,0))):=⟨by rw [← hq_];exact (by (with_reducible repeat (first|refine blk_drewN ?_ _|refine blk_drew ?_|refine blk_alloc ?_ _));exact BK618.out)⟩;have n1_ : Aside0 (wc.heap[gb619]? = some (.cells #[.int .i64 0,.string (⟨#[]⟩ : ByteArray),.int .i64 0,.int .i64 0] 60 (0,0))):=⟨by rw [← hq_];exact (by (with_reducible repeat (first|refine blk_drewN ?_ _|refine blk_drew ?_|refine blk_alloc ?_ _));exact BK619.out)⟩;have n2_ : Aside0 (Below w.heap.size w wc):=⟨by rw [← hq_];exact (by repeat (first|(with_reducible first|exact HB.out|apply below_alloc|apply pw_below_drewN|apply below_drew1|refine below_set ?_ GE618.out|refine below_set ?_ GE619.out)|exact HB.out))⟩;clear BK618 BK619 HB hq_;have BK618:=n0_;have BK619:=n1_;have HB:=n2_;clear n0_ n1_ n2_));have hnb52:=NB619_618.out;have hnc52:=NB618_619.out;have hcz53_0 : wc.cell? ⟨gb619,0,none⟩ = some (.int .i64 0):=(blk_cell BK619.out 0).trans rfl;have hcz53_1 : wc.cell? ⟨gb619,1,none⟩ = some (.string (⟨#[]⟩ : ByteArray)):=(blk_cell BK619.out 1).trans rfl;have hcz53_2 : wc.cell? ⟨gb619,2,none⟩ = some (.int .i64 0):=(blk_cell BK619.out 2).trans rfl;have hcz53_3 : wc.cell? ⟨gb619,3,none⟩ = some (.int .i64 0):=(blk_cell BK619.out 3).trans rfl;have hfz53_0:=blk_frozen BK619.out 0;have hfz53_1:=blk_frozen BK619.out 1;have hfz53_2:=blk_frozen BK619.out 2;have hfz53_3:=blk_frozen BK619.out 3))
       refine bodyPost_ret (results_ct rfl _ _ gb619 60 #[.int .i64 3,.string t631,.int .i64 0,.int .i64 0] (0,0) _ rfl (by (with_reducible repeat (first|refine blk_drewN ?_ _|refine blk_drew ?_|refine blk_alloc ?_ _));refine blk_put (cs:=#[.int .i64 3,.string t631,.int .i64 0,.int .i64 0]) ?_ 3 _ rfl;(with_reducible repeat (first|refine blk_drewN ?_ _|refine blk_drew ?_|refine blk_alloc ?_ _));refine blk_put (cs:=#[.int .i64 3,.string t631,.int .i64 0,.int .i64 0]) ?_ 2 _ rfl;(with_reducible repeat (first|refine blk_drewN ?_ _|refine blk_drew ?_|refine blk_alloc ?_ _));refine blk_put (cs:=#[.int .i64 3,.string (⟨#[]⟩ : ByteArray),.int .i64 0,.int .i64 0]) ?_ 1 _ rfl;(with_reducible repeat (first|refine blk_drewN ?_ _|refine blk_drew ?_|refine blk_alloc ?_ _));refine blk_put (cs:=#[.int .i64 0,.string (⟨#[]⟩ : ByteArray),.int .i64 0,.int .i64 0]) ?_ 0 _ rfl;(with_reducible repeat (first|refine blk_drewN ?_ _|refine blk_drew ?_|refine blk_alloc ?_ _));exact BK619.out) Tryd.underlying60 rfl (by kernel_rfl)) rfl ?_
       exact ⟨by first|rfl|(simp [errW_none,errW_some] <;> rfl)|(simp [*,errW_none,errW_some] <;> rfl),by repeat (first|(with_reducible first|exact HB.out|apply below_alloc|apply pw_below_drewN|apply below_drew1|refine below_set ?_ GE618.out|refine below_set ?_ GE619.out)|exact HB.out)⟩
      ·replace c50:=Bool.eq_false_iff.mpr c50
       subst c50
       have H1 : ((impl_isLetter.f (bt a0 0)).bind fun t633=>(if t633 = true then ((impl_run.f a0 0 110).bind fun t634=>(if 0 ≤ (mn t634 40) then (if (mn t634 40) ≤ (a0.size : Int) then (if t634 > 40 then (some (0,(⟨#[]⟩ : ByteArray),0,0,0)) else ((impl_IsWord.f kj41 (a0.extract 0 ((mn t634 40) : Int).toNat)).bind fun t636=>(if t636 = true then (some (6,a0.extract 0 ((mn t634 40) : Int).toNat,0,0,t634)) else (if t634 < (a0.size : Int) then (if 0 ≤ t634 then (if (bt a0 t634) = 40 then (some (5,a0.extract 0 ((mn t634 40) : Int).toNat,0,0,t634)) else (some (4,a0.extract 0 ((mn t634 40) : Int).toNat,0,0,t634))) else (none)) else (some (4,a0.extract 0 ((mn t634 40) : Int).toNat,0,0,t634)))))) else (none)) else (none))) else ((strings_Split.f (⟨#[38,38,32,124,124,32,61,61,32,33,61,32,33,126,32,60,61,32,43,61,32,123,32,125,32,40,32,41,32,91,32,93,32,59,32,44,32,61,32,33,32,60,32,43,32,45,32,42,32,47,32,37,32,126,32,63,32,58,32,36]⟩ : ByteArray) (⟨#[32]⟩ : ByteArray)).bind fun t637=>(impl_lexOne.l0 kj41 a0 t637 (t637.length : Int) 0)))) = some (r1,r2,r3,r4,r5):=by rw [if_neg (show ¬ (false = true) by decide)] at H;exact H
       clear H
       have H:=H1
       clear H1
       replace H:=Option.bind_eq_some_iff.mp H
       obtain ⟨t633,A540,H⟩:=H
       replace H : (if t633 = true then ((impl_run.f a0 0 110).bind fun t634=>(if 0 ≤ (mn t634 40) then (if (mn t634 40) ≤ (a0.size : Int) then (if t634 > 40 then (some (0,(⟨#[]⟩ : ByteArray),0,0,0)) else ((impl_IsWord.f kj41 (a0.extract 0 ((mn t634 40) : Int).toNat)).bind fun t636=>(if t636 = true then (some (6,a0.extract 0 ((mn t634 40) : Int).toNat,0,0,t634)) else (if t634 < (a0.size : Int) then (if 0 ≤ t634 then (if (bt a0 t634) = 40 then (some (5,a0.extract 0 ((mn t634 40) : Int).toNat,0,0,t634)) else (some (4,a0.extract 0 ((mn t634 40) : Int).toNat,0,0,t634))) else (none)) else (some (4,a0.extract 0 ((mn t634 40) : Int).toNat,0,0,t634)))))) else (none)) else (none))) else ((strings_Split.f (⟨#[38,38,32,124,124,32,61,61,32,33,61,32,33,126,32,60,61,32,43,61,32,123,32,125,32,40,32,41,32,91,32,93,32,59,32,44,32,61,32,33,32,60,32,43,32,45,32,42,32,47,32,37,32,126,32,63,32,58,32,36]⟩ : ByteArray) (⟨#[32]⟩ : ByteArray)).bind fun t637=>(impl_lexOne.l0 kj41 a0 t637 (t637.length : Int) 0))) = some (r1,r2,r3,r4,r5):=H
       have A54:=Aside0.mk A540
       clear A540
       by_cases c55 : t633 = true
       ·subst c55
        have H1 : ((impl_run.f a0 0 110).bind fun t634=>(if 0 ≤ (mn t634 40) then (if (mn t634 40) ≤ (a0.size : Int) then (if t634 > 40 then (some (0,(⟨#[]⟩ : ByteArray),0,0,0)) else ((impl_IsWord.f kj41 (a0.extract 0 ((mn t634 40) : Int).toNat)).bind fun t636=>(if t636 = true then (some (6,a0.extract 0 ((mn t634 40) : Int).toNat,0,0,t634)) else (if t634 < (a0.size : Int) then (if 0 ≤ t634 then (if (bt a0 t634) = 40 then (some (5,a0.extract 0 ((mn t634 40) : Int).toNat,0,0,t634)) else (some (4,a0.extract 0 ((mn t634 40) : Int).toNat,0,0,t634))) else (none)) else (some (4,a0.extract 0 ((mn t634 40) : Int).toNat,0,0,t634)))))) else (none)) else (none))) = some (r1,r2,r3,r4,r5):=by rw [if_pos rfl] at H;exact H
        clear H
        have H:=H1
        clear H1
        replace H:=Option.bind_eq_some_iff.mp H
        obtain ⟨t634,A560,H⟩:=H
        replace H : (if 0 ≤ (mn t634 40) then (if (mn t634 40) ≤ (a0.size : Int) then (if t634 > 40 then (some (0,(⟨#[]⟩ : ByteArray),0,0,0)) else ((impl_IsWord.f kj41 (a0.extract 0 ((mn t634 40) : Int).toNat)).bind fun t636=>(if t636 = true then (some (6,a0.extract 0 ((mn t634 40) : Int).toNat,0,0,t634)) else (if t634 < (a0.size : Int) then (if 0 ≤ t634 then (if (bt a0 t634) = 40 then (some (5,a0.extract 0 ((mn t634 40) : Int).toNat,0,0,t634)) else (some (4,a0.extract 0 ((mn t634 40) : Int).toNat,0,0,t634))) else (none)) else (some (4,a0.extract 0 ((mn t634 40) : Int).toNat,0,0,t634)))))) else (none)) else (none)) = some (r1,r2,r3,r4,r5):=H
        have A56:=Aside0.mk A560
        clear A560
        obtain ⟨ji57,hji57⟩ : ∃ j_ : Int,(mn t634 40) = j_:=⟨_,rfl⟩
        replace H : (if 0 ≤ (ji57) then (if (ji57) ≤ (a0.size : Int) then (if t634 > 40 then (some (0,(⟨#[]⟩ : ByteArray),0,0,0)) else ((impl_IsWord.f kj41 (a0.extract 0 ((ji57) : Int).toNat)).bind fun t636=>(if t636 = true then (some (6,a0.extract 0 ((ji57) : Int).toNat,0,0,t634)) else (if t634 < (a0.size : Int) then (if 0 ≤ t634 then (if (bt a0 t634) = 40 then (some (5,a0.extract 0 ((ji57) : Int).toNat,0,0,t634)) else (some (4,a0.extract 0 ((ji57) : Int).toNat,0,0,t634))) else (none)) else (some (4,a0.extract 0 ((ji57) : Int).toNat,0,0,t634)))))) else (none)) else (none)) = some (r1,r2,r3,r4,r5):=by first|(rw [hji57] at H;exact H)|(simp only [hji57] at H ⊢;exact H)
        (try rw [hji57] at A54)
        (try rw [hji57] at A56)
        (try (have hji57h : ji57 ≤ 40:=by (rw [← hji57];unfold mn;(repeat' split) <;> omega)))
        (try (have hji57g : ji57 ≤ 64:=by omega))
        have hji57_ : (if 40 < t634 then 40 else t634) = ji57:=hji57
        by_cases c58 : 0 ≤ (ji57)
        ·rw [if_pos c58] at H
         have c58b0:=eq_true c58
         have c58b1 : decide (0 ≤ (ji57)) = true:=decide_eq_true c58
         clear c58
         by_cases c59 : (ji57) ≤ (a0.size : Int)
         ·rw [if_pos c59] at H
          have c59b0:=eq_true c59
          have c59b1 : decide ((ji57) ≤ (a0.size : Int)) = true:=decide_eq_true c59
          clear c59
          by_cases c60 : t634 > 40
          ·rw [if_pos c60] at H
           have c60b0 : decide (40 < t634) = true:=decide_eq_true c60
           clear c60
           simp only [Option.some.injEq,Prod.mk.injEq] at H
           obtain ⟨rfl,rfl,rfl,rfl,rfl⟩:=H
           go_wp2_with (first|((with_reducible refine gate_callee (f:=109) rfl ?_);refine goesL_ (some 89) rfl rfl Tryd.func109 (by kernel_rfl) rfl #[.int .u8 (bt a0 0)] rfl (by (try simp only [List.map_toArray,List.map_cons,List.map_nil]);first|done|rfl|(simp only [List.length_drop,List.length_take];rfl)) ?_;(with_reducible refine (impl_isLetter.calls (bt a0 0) true _ A54.out).mono ?_);rintro e w' ⟨rfl,⟨nd,rfl⟩⟩;refine ⟨_,rfl,?_⟩;(try (rw [drewN_self wc];generalize hq_ : World.drewN wc _ = wc;have n0_ : Aside0 (wc.heap[gb618]? = some (.cells #[.int .i64 a1_0,.string a1_1,.int .i64 a1_2,.int .i64 a1_3] 60 (0,0))):=⟨by rw [← hq_];exact (by (with_reducible repeat (first|refine blk_drewN ?_ _|refine blk_drew ?_|refine blk_alloc ?_ _));exact BK618.out)⟩;have n1_ : Aside0 (wc.heap[gb619]? = some (.cells #[.int .i64 0,.string (⟨#[]⟩ : ByteArray),.int .i64 0,.int .i64 0] 60 (0,0))):=⟨by rw [← hq_];exact (by (with_reducible repeat (first|refine blk_drewN ?_ _|refine blk_drew ?_|refine blk_alloc ?_ _));exact BK619.out)⟩;have n2_ : Aside0 (Below w.heap.size w wc):=⟨by rw [← hq_];exact (by repeat (first|(with_reducible first|exact HB.out|apply below_alloc|apply pw_below_drewN|apply below_drew1|refine below_set ?_ GE618.out|refine below_set ?_ GE619.out)|exact HB.out))⟩;clear BK618 BK619 HB hq_;have BK618:=n0_;have BK619:=n1_;have HB:=n2_;clear n0_ n1_ n2_)))|((with_reducible refine gate_callee (f:=76) rfl ?_);refine goesL_ (some 91) rfl rfl Tryd.func76 (by kernel_rfl) rfl #[.string a0,.int .i64 0,.func (.func 110) #[] #[]] rfl (by (try simp only [List.map_toArray,List.map_cons,List.map_nil]);first|done|rfl|(simp only [List.length_drop,List.length_take];rfl)) ?_;(with_reducible refine (impl_run.calls a0 0 110 t634 _ A56.out).mono ?_);rintro e w' ⟨rfl,⟨nd,rfl⟩⟩;refine ⟨_,rfl,?_⟩;(try (rw [drewN_self wc];generalize hq_ : World.drewN wc _ = wc;have n0_ : Aside0 (wc.heap[gb618]? = some (.cells #[.int .i64 a1_0,.string a1_1,.int .i64 a1_2,.int .i64 a1_3] 60 (0,0))):=⟨by rw [← hq_];exact (by (with_reducible repeat (first|refine blk_drewN ?_ _|refine blk_drew ?_|refine blk_alloc ?_ _));exact BK618.out)⟩;have n1_ : Aside0 (wc.heap[gb619]? = some (.cells #[.int .i64 0,.string (⟨#[]⟩ : ByteArray),.int .i64 0,.int .i64 0] 60 (0,0))):=⟨by rw [← hq_];exact (by (with_reducible repeat (first|refine blk_drewN ?_ _|refine blk_drew ?_|refine blk_alloc ?_ _));exact BK619.out)⟩;have n2_ : Aside0 (Below w.heap.size w wc):=⟨by rw [← hq_];exact (by repeat (first|(with_reducible first|exact HB.out|apply below_alloc|apply pw_below_drewN|apply below_drew1|refine below_set ?_ GE618.out|refine below_set ?_ GE619.out)|exact HB.out))⟩;clear BK618 BK619 HB hq_;have BK618:=n0_;have BK619:=n1_;have HB:=n2_;clear n0_ n1_ n2_)))|((with_reducible refine gate_dst (N:=15) rfl ?_);refine box_event ?hg (N:=15) ?hd (cs:=#[.int .i64 0,.string (⟨#[]⟩ : ByteArray),.int .i64 0,.int .i64 0]) (t:=60) ?hr ?_;(case hd=>rfl);(case hg=>rfl);(case hr=>first|(go_simp;done)|(go_simp;rfl));intro gb635 hg w61 hbox hb;have n0_:=Aside0.mk (blk_below (g:=gb618) (o:=.cells #[.int .i64 a1_0,.string a1_1,.int .i64 a1_2,.int .i64 a1_3] 60 (0,0)) (by (with_reducible repeat (first|refine blk_drewN ?_ _|refine blk_drew ?_|refine blk_alloc ?_ _));exact BK618.out) hb);have n1_:=Aside0.mk (blk_below (g:=gb619) (o:=.cells #[.int .i64 0,.string (⟨#[]⟩ : ByteArray),.int .i64 0,.int .i64 0] 60 (0,0)) (by (with_reducible repeat (first|refine blk_drewN ?_ _|refine blk_drew ?_|refine blk_alloc ?_ _));exact BK619.out) hb);have n2_:=Aside0.mk (below_step (by repeat (first|(with_reducible first|exact HB.out|apply below_alloc|apply pw_below_drewN|apply below_drew1|refine below_set ?_ GE618.out|refine below_set ?_ GE619.out)|exact HB.out)) hb);have n3_:=Aside0.mk (hbox);have n4_:=Aside0.mk ((by rw [hg];exact (below_size (by repeat (first|(with_reducible first|exact HB.out|apply below_alloc|apply pw_below_drewN|apply below_drew1|refine below_set ?_ GE618.out|refine below_set ?_ GE619.out)|exact HB.out))) : w.heap.size ≤ gb635));have n5_:=Aside0.mk ((by rw [hg];exact (below_size (by repeat (first|(with_reducible first|exact HB.out|apply below_alloc|apply pw_below_drewN|apply below_drew1|refine below_set ?_ GE618.out|refine below_set ?_ GE619.out)|exact HB.out))) : w.heap.size ≤ gb635));have n6_:=Aside0.mk ((by rw [hg];exact Nat.ne_of_lt (blk_lt (g:=gb618) (o:=.cells #[.int .i64 a1_0,.string a1_1,.int .i64 a1_2,.int .i64 a1_3] 60 (0,0)) (by (with_reducible repeat (first|refine blk_drewN ?_ _|refine blk_drew ?_|refine blk_alloc ?_ _));exact BK618.out)) : gb618 ≠ gb635));have n7_:=Aside0.mk ((by rw [hg];exact Nat.ne_of_gt (blk_lt (g:=gb618) (o:=.cells #[.int .i64 a1_0,.string a1_1,.int .i64 a1_2,.int .i64 a1_3] 60 (0,0)) (by (with_reducible repeat (first|refine blk_drewN ?_ _|refine blk_drew ?_|refine blk_alloc ?_ _));exact BK618.out)) : gb635 ≠ gb618));have n8_:=Aside0.mk ((by rw [hg];exact Nat.ne_of_lt (blk_lt (g:=gb619) (o:=.cells #[.int .i64 0,.string (⟨#[]⟩ : ByteArray),.int .i64 0,.int .i64 0] 60 (0,0)) (by (with_reducible repeat (first|refine blk_drewN ?_ _|refine blk_drew ?_|refine blk_alloc ?_ _));exact BK619.out)) : gb619 ≠ gb635));have n9_:=Aside0.mk ((by rw [hg];exact Nat.ne_of_gt (blk_lt (g:=gb619) (o:=.cells #[.int .i64 0,.string (⟨#[]⟩ : ByteArray),.int .i64 0,.int .i64 0] 60 (0,0)) (by (with_reducible repeat (first|refine blk_drewN ?_ _|refine blk_drew ?_|refine blk_alloc ?_ _));exact BK619.out)) : gb635 ≠ gb619));clear BK618;clear BK619;clear HB;have BK618:=n0_;have BK619:=n1_;have HB:=n2_;have BK635:=n3_;have GW635:=n4_;have GE635:=n5_;have NB618_635:=n6_;have NB635_618:=n7_;have NB619_635:=n8_;have NB635_619:=n9_;clear n0_ n1_ n2_ n3_ n4_ n5_ n6_ n7_ n8_ n9_;clear hb hbox hg;have hnb62:=NB635_618.out;have hnc62:=NB618_635.out;have hnb63:=NB635_619.out;have hnc63:=NB619_635.out;have hcz64_0 : w61.cell? ⟨gb635,0,none⟩ = some (.int .i64 0):=(blk_cell BK635.out 0).trans rfl;have hcz64_1 : w61.cell? ⟨gb635,1,none⟩ = some (.string (⟨#[]⟩ : ByteArray)):=(blk_cell BK635.out 1).trans rfl;have hcz64_2 : w61.cell? ⟨gb635,2,none⟩ = some (.int .i64 0):=(blk_cell BK635.out 2).trans rfl;have hcz64_3 : w61.cell? ⟨gb635,3,none⟩ = some (.int .i64 0):=(blk_cell BK635.out 3).trans rfl;have hfz64_0:=blk_frozen BK635.out 0;have hfz64_1:=blk_frozen BK635.out 1;have hfz64_2:=blk_frozen BK635.out 2;have hfz64_3:=blk_frozen BK635.out 3;have hnb65:=NB619_618.out;have hnc65:=NB618_619.out;have hcz66_0 : w61.cell? ⟨gb619,0,none⟩ = some (.int .i64 0):=(blk_cell BK619.out 0).trans rfl;have hcz66_1 : w61.cell? ⟨gb619,1,none⟩ = some (.string (⟨#[]⟩ : ByteArray)):=(blk_cell BK619.out 1).trans rfl;have hcz66_2 : w61.cell? ⟨gb619,2,none⟩ = some (.int .i64 0):=(blk_cell BK619.out 2).trans rfl;have hcz66_3 : w61.cell? ⟨gb619,3,none⟩ = some (.int .i64 0):=(blk_cell BK619.out 3).trans rfl;have hfz66_0:=blk_frozen BK619.out 0;have hfz66_1:=blk_frozen BK619.out 1;have hfz66_2:=blk_frozen BK619.out 2;have hfz66_3:=blk_frozen BK619.out 3))
           refine bodyPost_ret (results_ct rfl _ _ gb619 60 #[.int .i64 0,.string (⟨#[]⟩ : ByteArray),.int .i64 0,.int .i64 0] (0,0) _ rfl (by (with_reducible repeat (first|refine blk_drewN ?_ _|refine blk_drew ?_|refine blk_alloc ?_ _));refine blk_put (cs:=#[.int .i64 0,.string (⟨#[]⟩ : ByteArray),.int .i64 0,.int .i64 0]) ?_ 3 _ rfl;(with_reducible repeat (first|refine blk_drewN ?_ _|refine blk_drew ?_|refine blk_alloc ?_ _));refine blk_put (cs:=#[.int .i64 0,.string (⟨#[]⟩ : ByteArray),.int .i64 0,.int .i64 0]) ?_ 2 _ rfl;(with_reducible repeat (first|refine blk_drewN ?_ _|refine blk_drew ?_|refine blk_alloc ?_ _));refine blk_put (cs:=#[.int .i64 0,.string (⟨#[]⟩ : ByteArray),.int .i64 0,.int .i64 0]) ?_ 1 _ rfl;(with_reducible repeat (first|refine blk_drewN ?_ _|refine blk_drew ?_|refine blk_alloc ?_ _));refine blk_put (cs:=#[.int .i64 0,.string (⟨#[]⟩ : ByteArray),.int .i64 0,.int .i64 0]) ?_ 0 _ rfl;(with_reducible repeat (first|refine blk_drewN ?_ _|refine blk_drew ?_|refine blk_alloc ?_ _));refine blk_far ?_ NB619_635.out _;(with_reducible repeat (first|refine blk_drewN ?_ _|refine blk_drew ?_|refine blk_alloc ?_ _));refine blk_far ?_ NB619_635.out _;(with_reducible repeat (first|refine blk_drewN ?_ _|refine blk_drew ?_|refine blk_alloc ?_ _));refine blk_far ?_ NB619_635.out _;(with_reducible repeat (first|refine blk_drewN ?_ _|refine blk_drew ?_|refine blk_alloc ?_ _));refine blk_far ?_ NB619_635.out _;(with_reducible repeat (first|refine blk_drewN ?_ _|refine blk_drew ?_|refine blk_alloc ?_ _));exact BK619.out) Tryd.underlying60 rfl (by kernel_rfl)) rfl ?_
           exact ⟨by first|rfl|(simp [errW_none,errW_some] <;> rfl)|(simp only [← hji57];first|rfl|(simp [errW_none,errW_some] <;> rfl))|(simp [*,errW_none,errW_some] <;> rfl),by repeat (first|(with_reducible first|exact HB.out|apply below_alloc|apply pw_below_drewN|apply below_drew1|refine below_set ?_ GE618.out|refine below_set ?_ GE619.out|refine below_set ?_ GE635.out)|exact HB.out)⟩
          ·rw [if_neg c60] at H
           have c60b0 : decide (40 < t634) = false:=decide_eq_false c60
           clear c60
           replace H:=Option.bind_eq_some_iff.mp H
           obtain ⟨t636,A670,H⟩:=H
           replace H : (if t636 = true then (some (6,a0.extract 0 ((ji57) : Int).toNat,0,0,t634)) else (if t634 < (a0.size : Int) then (if 0 ≤ t634 then (if (bt a0 t634) = 40 then (some (5,a0.extract 0 ((ji57) : Int).toNat,0,0,t634)) else (some (4,a0.extract 0 ((ji57) : Int).toNat,0,0,t634))) else (none)) else (some (4,a0.extract 0 ((ji57) : Int).toNat,0,0,t634)))) = some (r1,r2,r3,r4,r5):=H
           have A67:=Aside0.mk A670
           clear A670
           by_cases c68 : t636 = true
           ·subst c68
            have H1 : (some (6,a0.extract 0 ((ji57) : Int).toNat,0,0,t634)) = some (r1,r2,r3,r4,r5):=by rw [if_pos rfl] at H;exact H
            clear H
            have H:=H1
            clear H1
            simp only [Option.some.injEq,Prod.mk.injEq] at H
            obtain ⟨rfl,rfl,rfl,rfl,rfl⟩:=H
            go_wp2_with (first|((with_reducible refine gate_callee (f:=109) rfl ?_);refine goesL_ (some 89) rfl rfl Tryd.func109 (by kernel_rfl) rfl #[.int .u8 (bt a0 0)] rfl (by (try simp only [List.map_toArray,List.map_cons,List.map_nil]);first|done|rfl|(simp only [List.length_drop,List.length_take];rfl)) ?_;(with_reducible refine (impl_isLetter.calls (bt a0 0) true _ A54.out).mono ?_);rintro e w' ⟨rfl,⟨nd,rfl⟩⟩;refine ⟨_,rfl,?_⟩;(try (rw [drewN_self wc];generalize hq_ : World.drewN wc _ = wc;have n0_ : Aside0 (wc.heap[gb618]? = some (.cells #[.int .i64 a1_0,.string a1_1,.int .i64 a1_2,.int .i64 a1_3] 60 (0,0))):=⟨by rw [← hq_];exact (by (with_reducible repeat (first|refine blk_drewN ?_ _|refine blk_drew ?_|refine blk_alloc ?_ _));exact BK618.out)⟩;have n1_ : Aside0 (wc.heap[gb619]? = some (.cells #[.int .i64 0,.string (⟨#[]⟩ : ByteArray),.int .i64 0,.int .i64 0] 60 (0,0))):=⟨by rw [← hq_];exact (by (with_reducible repeat (first|refine blk_drewN ?_ _|refine blk_drew ?_|refine blk_alloc ?_ _));exact BK619.out)⟩;have n2_ : Aside0 (Below w.heap.size w wc):=⟨by rw [← hq_];exact (by repeat (first|(with_reducible first|exact HB.out|apply below_alloc|apply pw_below_drewN|apply below_drew1|refine below_set ?_ GE618.out|refine below_set ?_ GE619.out)|exact HB.out))⟩;clear BK618 BK619 HB hq_;have BK618:=n0_;have BK619:=n1_;have HB:=n2_;clear n0_ n1_ n2_)))|((with_reducible refine gate_callee (f:=76) rfl ?_);refine goesL_ (some 91) rfl rfl Tryd.func76 (by kernel_rfl) rfl #[.string a0,.int .i64 0,.func (.func 110) #[] #[]] rfl (by (try simp only [List.map_toArray,List.map_cons,List.map_nil]);first|done|rfl|(simp only [List.length_drop,List.length_take];rfl)) ?_;(with_reducible refine (impl_run.calls a0 0 110 t634 _ A56.out).mono ?_);rintro e w' ⟨rfl,⟨nd,rfl⟩⟩;refine ⟨_,rfl,?_⟩;(try (rw [drewN_self wc];generalize hq_ : World.drewN wc _ = wc;have n0_ : Aside0 (wc.heap[gb618]? = some (.cells #[.int .i64 a1_0,.string a1_1,.int .i64 a1_2,.int .i64 a1_3] 60 (0,0))):=⟨by rw [← hq_];exact (by (with_reducible repeat (first|refine blk_drewN ?_ _|refine blk_drew ?_|refine blk_alloc ?_ _));exact BK618.out)⟩;have n1_ : Aside0 (wc.heap[gb619]? = some (.cells #[.int .i64 0,.string (⟨#[]⟩ : ByteArray),.int .i64 0,.int .i64 0] 60 (0,0))):=⟨by rw [← hq_];exact (by (with_reducible repeat (first|refine blk_drewN ?_ _|refine blk_drew ?_|refine blk_alloc ?_ _));exact BK619.out)⟩;have n2_ : Aside0 (Below w.heap.size w wc):=⟨by rw [← hq_];exact (by repeat (first|(with_reducible first|exact HB.out|apply below_alloc|apply pw_below_drewN|apply below_drew1|refine below_set ?_ GE618.out|refine below_set ?_ GE619.out)|exact HB.out))⟩;clear BK618 BK619 HB hq_;have BK618:=n0_;have BK619:=n1_;have HB:=n2_;clear n0_ n1_ n2_)))|((with_reducible refine gate_dst (N:=15) rfl ?_);refine box_event ?hg (N:=15) ?hd (cs:=#[.int .i64 0,.string (⟨#[]⟩ : ByteArray),.int .i64 0,.int .i64 0]) (t:=60) ?hr ?_;(case hd=>rfl);(case hg=>rfl);(case hr=>first|(go_simp;done)|(go_simp;rfl));intro gb635 hg w69 hbox hb;have n0_:=Aside0.mk (blk_below (g:=gb618) (o:=.cells #[.int .i64 a1_0,.string a1_1,.int .i64 a1_2,.int .i64 a1_3] 60 (0,0)) (by (with_reducible repeat (first|refine blk_drewN ?_ _|refine blk_drew ?_|refine blk_alloc ?_ _));exact BK618.out) hb);have n1_:=Aside0.mk (blk_below (g:=gb619) (o:=.cells #[.int .i64 0,.string (⟨#[]⟩ : ByteArray),.int .i64 0,.int .i64 0] 60 (0,0)) (by (with_reducible repeat (first|refine blk_drewN ?_ _|refine blk_drew ?_|refine blk_alloc ?_ _));exact BK619.out) hb);have n2_:=Aside0.mk (below_step (by repeat (first|(with_reducible first|exact HB.out|apply below_alloc|apply pw_below_drewN|apply below_drew1|refine below_set ?_ GE618.out|refine below_set ?_ GE619.out)|exact HB.out)) hb);have n3_:=Aside0.mk (hbox);have n4_:=Aside0.mk ((by rw [hg];exact (below_size (by repeat (first|(with_reducible first|exact HB.out|apply below_alloc|apply pw_below_drewN|apply below_drew1|refine below_set ?_ GE618.out|refine below_set ?_ GE619.out)|exact HB.out))) : w.heap.size ≤ gb635));have n5_:=Aside0.mk ((by rw [hg];exact (below_size (by repeat (first|(with_reducible first|exact HB.out|apply below_alloc|apply pw_below_drewN|apply below_drew1|refine below_set ?_ GE618.out|refine below_set ?_ GE619.out)|exact HB.out))) : w.heap.size ≤ gb635));have n6_:=Aside0.mk ((by rw [hg];exact Nat.ne_of_lt (blk_lt (g:=gb618) (o:=.cells #[.int .i64 a1_0,.string a1_1,.int .i64 a1_2,.int .i64 a1_3] 60 (0,0)) (by (with_reducible repeat (first|refine blk_drewN ?_ _|refine blk_drew ?_|refine blk_alloc ?_ _));exact BK618.out)) : gb618 ≠ gb635));have n7_:=Aside0.mk ((by rw [hg];exact Nat.ne_of_gt (blk_lt (g:=gb618) (o:=.cells #[.int .i64 a1_0,.string a1_1,.int .i64 a1_2,.int .i64 a1_3] 60 (0,0)) (by (with_reducible repeat (first|refine blk_drewN ?_ _|refine blk_drew ?_|refine blk_alloc ?_ _));exact BK618.out)) : gb635 ≠ gb618));have n8_:=Aside0.mk ((by rw [hg];exact Nat.ne_of_lt (blk_lt (g:=gb619) (o:=.cells #[.int .i64 0,.string (⟨#[]⟩ : ByteArray),.int .i64 0,.int .i64 0] 60 (0,0)) (by (with_reducible repeat (first|refine blk_drewN ?_ _|refine blk_drew ?_|refine blk_alloc ?_ _));exact BK619.out)) : gb619 ≠ gb635));have n9_:=Aside0.mk ((by rw [hg];exact Nat.ne_of_gt (blk_lt (g:=gb619) (o:=.cells #[.int .i64 0,.string (⟨#[]⟩ : ByteArray),.int .i64 0,.int .i64 0] 60 (0,0)) (by (with_reducible repeat (first|refine blk_drewN ?_ _|refine blk_drew ?_|refine blk_alloc ?_ _));exact BK619.out)) : gb635 ≠ gb619));clear BK618;clear BK619;clear HB;have BK618:=n0_;have BK619:=n1_;have HB:=n2_;have BK635:=n3_;have GW635:=n4_;have GE635:=n5_;have NB618_635:=n6_;have NB635_618:=n7_;have NB619_635:=n8_;have NB635_619:=n9_;clear n0_ n1_ n2_ n3_ n4_ n5_ n6_ n7_ n8_ n9_;clear hb hbox hg;have hnb70:=NB635_618.out;have hnc70:=NB618_635.out;have hnb71:=NB635_619.out;have hnc71:=NB619_635.out;have hcz72_0 : w69.cell? ⟨gb635,0,none⟩ = some (.int .i64 0):=(blk_cell BK635.out 0).trans rfl;have hcz72_1 : w69.cell? ⟨gb635,1,none⟩ = some (.string (⟨#[]⟩ : ByteArray)):=(blk_cell BK635.out 1).trans rfl;have hcz72_2 : w69.cell? ⟨gb635,2,none⟩ = some (.int .i64 0):=(blk_cell BK635.out 2).trans rfl;have hcz72_3 : w69.cell? ⟨gb635,3,none⟩ = some (.int .i64 0):=(blk_cell BK635.out 3).trans rfl;have hfz72_0:=blk_frozen BK635.out 0;have hfz72_1:=blk_frozen BK635.out 1;have hfz72_2:=blk_frozen BK635.out 2;have hfz72_3:=blk_frozen BK635.out 3)|((with_reducible refine gate_callee (f:=69) rfl ?_);refine goesL_ (some 104) rfl rfl Tryd.func69 (by kernel_rfl) rfl #[.string (a0.extract 0 ((ji57) : Int).toNat)] rfl (by (try simp only [List.map_toArray,List.map_cons,List.map_nil]);first|done|(simp only [hji57];rfl)|rfl|(simp only [List.length_drop,List.length_take];rfl)) ?_;(with_reducible refine (impl_IsWord.calls kj41 (a0.extract 0 ((ji57) : Int).toNat) true _ A67.out).mono ?_);rintro e w73 ⟨rfl,hb⟩;refine ⟨_,rfl,?_⟩;have n0_:=Aside0.mk (blk_below (g:=gb618) (o:=.cells #[.int .i64 a1_0,.string a1_1,.int .i64 a1_2,.int .i64 a1_3] 60 (0,0)) (by (with_reducible repeat (first|refine blk_drewN ?_ _|refine blk_drew ?_|refine blk_alloc ?_ _));refine blk_far ?_ NB618_635.out _;(with_reducible repeat (first|refine blk_drewN ?_ _|refine blk_drew ?_|refine blk_alloc ?_ _));refine blk_far ?_ NB618_635.out _;(with_reducible repeat (first|refine blk_drewN ?_ _|refine blk_drew ?_|refine blk_alloc ?_ _));refine blk_far ?_ NB618_635.out _;(with_reducible repeat (first|refine blk_drewN ?_ _|refine blk_drew ?_|refine blk_alloc ?_ _));refine blk_far ?_ NB618_635.out _;(with_reducible repeat (first|refine blk_drewN ?_ _|refine blk_drew ?_|refine blk_alloc ?_ _));exact BK618.out) hb);have n1_:=Aside0.mk (blk_below (g:=gb619) (o:=.cells #[.int .i64 0,.string (⟨#[]⟩ : ByteArray),.int .i64 0,.int .i64 0] 60 (0,0)) (by (with_reducible repeat (first|refine blk_drewN ?_ _|refine blk_drew ?_|refine blk_alloc ?_ _));refine blk_far ?_ NB619_635.out _;(with_reducible repeat (first|refine blk_drewN ?_ _|refine blk_drew ?_|refine blk_alloc ?_ _));refine blk_far ?_ NB619_635.out _;(with_reducible repeat (first|refine blk_drewN ?_ _|refine blk_drew ?_|refine blk_alloc ?_ _));refine blk_far ?_ NB619_635.out _;(with_reducible repeat (first|refine blk_drewN ?_ _|refine blk_drew ?_|refine blk_alloc ?_ _));refine blk_far ?_ NB619_635.out _;(with_reducible repeat (first|refine blk_drewN ?_ _|refine blk_drew ?_|refine blk_alloc ?_ _));exact BK619.out) hb);have n2_:=Aside0.mk (blk_below (g:=gb635) (o:=.cells #[.int .i64 4,.string (a0.extract 0 ((ji57) : Int).toNat),.int .i64 0,.int .i64 0] 60 (0,0)) (by (with_reducible repeat (first|refine blk_drewN ?_ _|refine blk_drew ?_|refine blk_alloc ?_ _));refine blk_put (cs:=#[.int .i64 4,.string (a0.extract 0 ((ji57) : Int).toNat),.int .i64 0,.int .i64 0]) ?_ 3 _ rfl;(with_reducible repeat (first|refine blk_drewN ?_ _|refine blk_drew ?_|refine blk_alloc ?_ _));refine blk_put (cs:=#[.int .i64 4,.string (a0.extract 0 ((ji57) : Int).toNat),.int .i64 0,.int .i64 0]) ?_ 2 _ rfl;(with_reducible repeat (first|refine blk_drewN ?_ _|refine blk_drew ?_|refine blk_alloc ?_ _));refine blk_put (cs:=#[.int .i64 4,.string (⟨#[]⟩ : ByteArray),.int .i64 0,.int .i64 0]) ?_ 1 _ rfl;(with_reducible repeat (first|refine blk_drewN ?_ _|refine blk_drew ?_|refine blk_alloc ?_ _));refine blk_put (cs:=#[.int .i64 0,.string (⟨#[]⟩ : ByteArray),.int .i64 0,.int .i64 0]) ?_ 0 _ rfl;(with_reducible repeat (first|refine blk_drewN ?_ _|refine blk_drew ?_|refine blk_alloc ?_ _));exact BK635.out) hb);have n3_:=Aside0.mk (below_step (by repeat (first|(with_reducible first|exact HB.out|apply below_alloc|apply pw_below_drewN|apply below_drew1|refine below_set ?_ GE618.out|refine below_set ?_ GE619.out|refine below_set ?_ GE635.out)|exact HB.out)) hb);clear BK618;clear BK619;clear BK635;clear HB;have BK618:=n0_;have BK619:=n1_;have BK635:=n2_;have HB:=n3_;clear n0_ n1_ n2_ n3_;(try clear hb);(try clear hb2);(try clear hk);(try clear hi);have hcz74_0 : w73.cell? ⟨gb635,0,none⟩ = some (.int .i64 4):=(blk_cell BK635.out 0).trans rfl;have hcz74_1 : w73.cell? ⟨gb635,1,none⟩ = some (.string (a0.extract 0 ((ji57) : Int).toNat)):=(blk_cell BK635.out 1).trans rfl;have hcz74_2 : w73.cell? ⟨gb635,2,none⟩ = some (.int .i64 0):=(blk_cell BK635.out 2).trans rfl;have hcz74_3 : w73.cell? ⟨gb635,3,none⟩ = some (.int .i64 0):=(blk_cell BK635.out 3).trans rfl;have hfz74_0:=blk_frozen BK635.out 0;have hfz74_1:=blk_frozen BK635.out 1;have hfz74_2:=blk_frozen BK635.out 2;have hfz74_3:=blk_frozen BK635.out 3;have hnb75:=NB619_618.out;have hnc75:=NB618_619.out;have hcz76_0 : w73.cell? ⟨gb619,0,none⟩ = some (.int .i64 0):=(blk_cell BK619.out 0).trans rfl;have hcz76_1 : w73.cell? ⟨gb619,1,none⟩ = some (.string (⟨#[]⟩ : ByteArray)):=(blk_cell BK619.out 1).trans rfl;have hcz76_2 : w73.cell? ⟨gb619,2,none⟩ = some (.int .i64 0):=(blk_cell BK619.out 2).trans rfl;have hcz76_3 : w73.cell? ⟨gb619,3,none⟩ = some (.int .i64 0):=(blk_cell BK619.out 3).trans rfl;have hfz76_0:=blk_frozen BK619.out 0;have hfz76_1:=blk_frozen BK619.out 1;have hfz76_2:=blk_frozen BK619.out 2;have hfz76_3:=blk_frozen BK619.out 3))
            refine bodyPost_ret (results_ct rfl _ _ gb619 60 #[.int .i64 6,.string (a0.extract 0 ((ji57) : Int).toNat),.int .i64 0,.int .i64 0] (0,0) _ rfl (by (with_reducible repeat (first|refine blk_drewN ?_ _|refine blk_drew ?_|refine blk_alloc ?_ _));refine blk_put (cs:=#[.int .i64 6,.string (a0.extract 0 ((ji57) : Int).toNat),.int .i64 0,.int .i64 0]) ?_ 3 _ rfl;(with_reducible repeat (first|refine blk_drewN ?_ _|refine blk_drew ?_|refine blk_alloc ?_ _));refine blk_put (cs:=#[.int .i64 6,.string (a0.extract 0 ((ji57) : Int).toNat),.int .i64 0,.int .i64 0]) ?_ 2 _ rfl;(with_reducible repeat (first|refine blk_drewN ?_ _|refine blk_drew ?_|refine blk_alloc ?_ _));refine blk_put (cs:=#[.int .i64 6,.string (⟨#[]⟩ : ByteArray),.int .i64 0,.int .i64 0]) ?_ 1 _ rfl;(with_reducible repeat (first|refine blk_drewN ?_ _|refine blk_drew ?_|refine blk_alloc ?_ _));refine blk_put (cs:=#[.int .i64 0,.string (⟨#[]⟩ : ByteArray),.int .i64 0,.int .i64 0]) ?_ 0 _ rfl;(with_reducible repeat (first|refine blk_drewN ?_ _|refine blk_drew ?_|refine blk_alloc ?_ _));refine blk_far ?_ NB619_635.out _;(with_reducible repeat (first|refine blk_drewN ?_ _|refine blk_drew ?_|refine blk_alloc ?_ _));exact BK619.out) Tryd.underlying60 rfl (by kernel_rfl)) rfl ?_
            exact ⟨by first|rfl|(simp [errW_none,errW_some] <;> rfl)|(simp only [← hji57];first|rfl|(simp [errW_none,errW_some] <;> rfl))|(simp [*,errW_none,errW_some] <;> rfl),by repeat (first|(with_reducible first|exact HB.out|apply below_alloc|apply pw_below_drewN|apply below_drew1|refine below_set ?_ GE618.out|refine below_set ?_ GE619.out|refine below_set ?_ GE635.out)|exact HB.out)⟩
           ·replace c68:=Bool.eq_false_iff.mpr c68
            subst c68
            have H1 : (if t634 < (a0.size : Int) then (if 0 ≤ t634 then (if (bt a0 t634) = 40 then (some (5,a0.extract 0 ((ji57) : Int).toNat,0,0,t634)) else (some (4,a0.extract 0 ((ji57) : Int).toNat,0,0,t634))) else (none)) else (some (4,a0.extract 0 ((ji57) : Int).toNat,0,0,t634))) = some (r1,r2,r3,r4,r5):=by rw [if_neg (show ¬ (false = true) by decide)] at H;exact H
            clear H
            have H:=H1
            clear H1
            by_cases c77 : t634 < (a0.size : Int)
            ·rw [if_pos c77] at H
             have c77b0 : decide (t634 < (a0.size : Int)) = true:=decide_eq_true c77
             clear c77
             by_cases c78 : 0 ≤ t634
             ·rw [if_pos c78] at H
              have c78b0 : decide (0 ≤ t634) = true:=decide_eq_true c78
              clear c78
              by_cases c80 : (bt a0 t634) = 40
              ·rw [if_pos c80] at H
               have c80b0 : ((bt a0 t634) == 40) = true:=beq_iff_eq.mpr c80
               have c80b1 : ((bt a0 t634) != 40) = false:=bne_eq_false_iff_eq.mpr c80
               clear c80
               simp only [Option.some.injEq,Prod.mk.injEq] at H
               obtain ⟨rfl,rfl,rfl,rfl,rfl⟩:=H
               go_wp2_with (first|((with_reducible refine gate_callee (f:=109) rfl ?_);refine goesL_ (some 89) rfl rfl Tryd.func109 (by kernel_rfl) rfl #[.int .u8 (bt a0 0)] rfl (by (try simp only [List.map_toArray,List.map_cons,List.map_nil]);first|done|rfl|(simp only [List.length_drop,List.length_take];rfl)) ?_;(with_reducible refine (impl_isLetter.calls (bt a0 0) true _ A54.out).mono ?_);rintro e w' ⟨rfl,⟨nd,rfl⟩⟩;refine ⟨_,rfl,?_⟩;(try (rw [drewN_self wc];generalize hq_ : World.drewN wc _ = wc;have n0_ : Aside0 (wc.heap[gb618]? = some (.cells #[.int .i64 a1_0,.string a1_1,.int .i64 a1_2,.int .i64 a1_3] 60 (0,0))):=⟨by rw [← hq_];exact (by (with_reducible repeat (first|refine blk_drewN ?_ _|refine blk_drew ?_|refine blk_alloc ?_ _));exact BK618.out)⟩;have n1_ : Aside0 (wc.heap[gb619]? = some (.cells #[.int .i64 0,.string (⟨#[]⟩ : ByteArray),.int .i64 0,.int .i64 0] 60 (0,0))):=⟨by rw [← hq_];exact (by (with_reducible repeat (first|refine blk_drewN ?_ _|refine blk_drew ?_|refine blk_alloc ?_ _));exact BK619.out)⟩;have n2_ : Aside0 (Below w.heap.size w wc):=⟨by rw [← hq_];exact (by repeat (first|(with_reducible first|exact HB.out|apply below_alloc|apply pw_below_drewN|apply below_drew1|refine below_set ?_ GE618.out|refine below_set ?_ GE619.out)|exact HB.out))⟩;clear BK618 BK619 HB hq_;have BK618:=n0_;have BK619:=n1_;have HB:=n2_;clear n0_ n1_ n2_)))|((with_reducible refine gate_callee (f:=76) rfl ?_);refine goesL_ (some 91) rfl rfl Tryd.func76 (by kernel_rfl) rfl #[.string a0,.int .i64 0,.func (.func 110) #[] #[]] rfl (by (try simp only [List.map_toArray,List.map_cons,List.map_nil]);first|done|rfl|(simp only [List.length_drop,List.length_take];rfl)) ?_;(with_reducible refine (impl_run.calls a0 0 110 t634 _ A56.out).mono ?_);rintro e w' ⟨rfl,⟨nd,rfl⟩⟩;refine ⟨_,rfl,?_⟩;(try (rw [drewN_self wc];generalize hq_ : World.drewN wc _ = wc;have n0_ : Aside0 (wc.heap[gb618]? = some (.cells #[.int .i64 a1_0,.string a1_1,.int .i64 a1_2,.int .i64 a1_3] 60 (0,0))):=⟨by rw [← hq_];exact (by (with_reducible repeat (first|refine blk_drewN ?_ _|refine blk_drew ?_|refine blk_alloc ?_ _));exact BK618.out)⟩;have n1_ : Aside0 (wc.heap[gb619]? = some (.cells #[.int .i64 0,.string (⟨#[]⟩ : ByteArray),.int .i64 0,.int .i64 0] 60 (0,0))):=⟨by rw [← hq_];exact (by (with_reducible repeat (first|refine blk_drewN ?_ _|refine blk_drew ?_|refine blk_alloc ?_ _));exact BK619.out)⟩;have n2_ : Aside0 (Below w.heap.size w wc):=⟨by rw [← hq_];exact (by repeat (first|(with_reducible first|exact HB.out|apply below_alloc|apply pw_below_drewN|apply below_drew1|refine below_set ?_ GE618.out|refine below_set ?_ GE619.out)|exact HB.out))⟩;clear BK618 BK619 HB hq_;have BK618:=n0_;have BK619:=n1_;have HB:=n2_;clear n0_ n1_ n2_)))|((with_reducible refine gate_dst (N:=15) rfl ?_);refine box_event ?hg (N:=15) ?hd (cs:=#[.int .i64 0,.string (⟨#[]⟩ : ByteArray),.int .i64 0,.int .i64 0]) (t:=60) ?hr ?_;(case hd=>rfl);(case hg=>rfl);(case hr=>first|(go_simp;done)|(go_simp;rfl));intro gb635 hg w81 hbox hb;have n0_:=Aside0.mk (blk_below (g:=gb618) (o:=.cells #[.int .i64 a1_0,.string a1_1,.int .i64 a1_2,.int .i64 a1_3] 60 (0,0)) (by (with_reducible repeat (first|refine blk_drewN ?_ _|refine blk_drew ?_|refine blk_alloc ?_ _));exact BK618.out) hb);have n1_:=Aside0.mk (blk_below (g:=gb619) (o:=.cells #[.int .i64 0,.string (⟨#[]⟩ : ByteArray),.int .i64 0,.int .i64 0] 60 (0,0)) (by (with_reducible repeat (first|refine blk_drewN ?_ _|refine blk_drew ?_|refine blk_alloc ?_ _));exact BK619.out) hb);have n2_:=Aside0.mk (below_step (by repeat (first|(with_reducible first|exact HB.out|apply below_alloc|apply pw_below_drewN|apply below_drew1|refine below_set ?_ GE618.out|refine below_set ?_ GE619.out)|exact HB.out)) hb);have n3_:=Aside0.mk (hbox);have n4_:=Aside0.mk ((by rw [hg];exact (below_size (by repeat (first|(with_reducible first|exact HB.out|apply below_alloc|apply pw_below_drewN|apply below_drew1|refine below_set ?_ GE618.out|refine below_set ?_ GE619.out)|exact HB.out))) : w.heap.size ≤ gb635));have n5_:=Aside0.mk ((by rw [hg];exact (below_size (by repeat (first|(with_reducible first|exact HB.out|apply below_alloc|apply pw_below_drewN|apply below_drew1|refine below_set ?_ GE618.out|refine below_set ?_ GE619.out)|exact HB.out))) : w.heap.size ≤ gb635));have n6_:=Aside0.mk ((by rw [hg];exact Nat.ne_of_lt (blk_lt (g:=gb618) (o:=.cells #[.int .i64 a1_0,.string a1_1,.int .i64 a1_2,.int .i64 a1_3] 60 (0,0)) (by (with_reducible repeat (first|refine blk_drewN ?_ _|refine blk_drew ?_|refine blk_alloc ?_ _));exact BK618.out)) : gb618 ≠ gb635));have n7_:=Aside0.mk ((by rw [hg];exact Nat.ne_of_gt (blk_lt (g:=gb618) (o:=.cells #[.int .i64 a1_0,.string a1_1,.int .i64 a1_2,.int .i64 a1_3] 60 (0,0)) (by (with_reducible repeat (first|refine blk_drewN ?_ _|refine blk_drew ?_|refine blk_alloc ?_ _));exact BK618.out)) : gb635 ≠ gb618));have n8_:=Aside0.mk ((by rw [hg];exact Nat.ne_of_lt (blk_lt (g:=gb619) (o:=.cells #[.int .i64 0,.string (⟨#[]⟩ : ByteArray),.int .i64 0,.int .i64 0] 60 (0,0)) (by (with_reducible repeat (first|refine blk_drewN ?_ _|refine blk_drew ?_|refine blk_alloc ?_ _));exact BK619.out)) : gb619 ≠ gb635));have n9_:=Aside0.mk ((by rw [hg];exact Nat.ne_of_gt (blk_lt (g:=gb619) (o:=.cells #[.int .i64 0,.string (⟨#[]⟩ : ByteArray),.int .i64 0,.int .i64 0] 60 (0,0)) (by (with_reducible repeat (first|refine blk_drewN ?_ _|refine blk_drew ?_|refine blk_alloc ?_ _));exact BK619.out)) : gb635 ≠ gb619));clear BK618;clear BK619;clear HB;have BK618:=n0_;have BK619:=n1_;have HB:=n2_;have BK635:=n3_;have GW635:=n4_;have GE635:=n5_;have NB618_635:=n6_;have NB635_618:=n7_;have NB619_635:=n8_;have NB635_619:=n9_;clear n0_ n1_ n2_ n3_ n4_ n5_ n6_ n7_ n8_ n9_;clear hb hbox hg;have hnb82:=NB635_618.out;have hnc82:=NB618_635.out;have hnb83:=NB635_619.out;have hnc83:=NB619_635.out;have hcz84_0 : w81.cell? ⟨gb635,0,none⟩ = some (.int .i64 0):=(blk_cell BK635.out 0).trans rfl;have hcz84_1 : w81.cell? ⟨gb635,1,none⟩ = some (.string (⟨#[]⟩ : ByteArray)):=(blk_cell BK635.out 1).trans rfl;have hcz84_2 : w81.cell? ⟨gb635,2,none⟩ = some (.int .i64 0):=(blk_cell BK635.out 2).trans rfl;have hcz84_3 : w81.cell? ⟨gb635,3,none⟩ = some (.int .i64 0):=(blk_cell BK635.out 3).trans rfl;have hfz84_0:=blk_frozen BK635.out 0;have hfz84_1:=blk_frozen BK635.out 1;have hfz84_2:=blk_frozen BK635.out 2;have hfz84_3:=blk_frozen BK635.out 3)|((with_reducible refine gate_callee (f:=69) rfl ?_);refine goesL_ (some 104) rfl rfl Tryd.func69 (by kernel_rfl) rfl #[.string (a0.extract 0 ((ji57) : Int).toNat)] rfl (by (try simp only [List.map_toArray,List.map_cons,List.map_nil]);first|done|(simp only [hji57];rfl)|rfl|(simp only [List.length_drop,List.length_take];rfl)) ?_;(with_reducible refine (impl_IsWord.calls kj41 (a0.extract 0 ((ji57) : Int).toNat) false _ A67.out).mono ?_);rintro e w85 ⟨rfl,hb⟩;refine ⟨_,rfl,?_⟩;have n0_:=Aside0.mk (blk_below (g:=gb618) (o:=.cells #[.int .i64 a1_0,.string a1_1,.int .i64 a1_2,.int .i64 a1_3] 60 (0,0)) (by (with_reducible repeat (first|refine blk_drewN ?_ _|refine blk_drew ?_|refine blk_alloc ?_ _));refine blk_far ?_ NB618_635.out _;(with_reducible repeat (first|refine blk_drewN ?_ _|refine blk_drew ?_|refine blk_alloc ?_ _));refine blk_far ?_ NB618_635.out _;(with_reducible repeat (first|refine blk_drewN ?_ _|refine blk_drew ?_|refine blk_alloc ?_ _));refine blk_far ?_ NB618_635.out _;(with_reducible repeat (first|refine blk_drewN ?_ _|refine blk_drew ?_|refine blk_alloc ?_ _));refine blk_far ?_ NB618_635.out _;(with_reducible repeat (first|refine blk_drewN ?_ _|refine blk_drew ?_|refine blk_alloc ?_ _));exact BK618.out) hb);have n1_:=Aside0.mk (blk_below (g:=gb619) (o:=.cells #[.int .i64 0,.string (⟨#[]⟩ : ByteArray),.int .i64 0,.int .i64 0] 60 (0,0)) (by (with_reducible repeat (first|refine blk_drewN ?_ _|refine blk_drew ?_|refine blk_alloc ?_ _));refine blk_far ?_ NB619_635.out _;(with_reducible repeat (first|refine blk_drewN ?_ _|refine blk_drew ?_|refine blk_alloc ?_ _));refine blk_far ?_ NB619_635.out _;(with_reducible repeat (first|refine blk_drewN ?_ _|refine blk_drew ?_|refine blk_alloc ?_ _));refine blk_far ?_ NB619_635.out _;(with_reducible repeat (first|refine blk_drewN ?_ _|refine blk_drew ?_|refine blk_alloc ?_ _));refine blk_far ?_ NB619_635.out _;(with_reducible repeat (first|refine blk_drewN ?_ _|refine blk_drew ?_|refine blk_alloc ?_ _));exact BK619.out) hb);have n2_:=Aside0.mk (blk_below (g:=gb635) (o:=.cells #[.int .i64 4,.string (a0.extract 0 ((ji57) : Int).toNat),.int .i64 0,.int .i64 0] 60 (0,0)) (by (with_reducible repeat (first|refine blk_drewN ?_ _|refine blk_drew ?_|refine blk_alloc ?_ _));refine blk_put (cs:=#[.int .i64 4,.string (a0.extract 0 ((ji57) : Int).toNat),.int .i64 0,.int .i64 0]) ?_ 3 _ rfl;(with_reducible repeat (first|refine blk_drewN ?_ _|refine blk_drew ?_|refine blk_alloc ?_ _));refine blk_put (cs:=#[.int .i64 4,.string (a0.extract 0 ((ji57) : Int).toNat),.int .i64 0,.int .i64 0]) ?_ 2 _ rfl;(with_reducible repeat (first|refine blk_drewN ?_ _|refine blk_drew ?_|refine blk_alloc ?_ _));refine blk_put (cs:=#[.int .i64 4,.string (⟨#[]⟩ : ByteArray),.int .i64 0,.int .i64 0]) ?_ 1 _ rfl;(with_reducible repeat (first|refine blk_drewN ?_ _|refine blk_drew ?_|refine blk_alloc ?_ _));refine blk_put (cs:=#[.int .i64 0,.string (⟨#[]⟩ : ByteArray),.int .i64 0,.int .i64 0]) ?_ 0 _ rfl;(with_reducible repeat (first|refine blk_drewN ?_ _|refine blk_drew ?_|refine blk_alloc ?_ _));exact BK635.out) hb);have n3_:=Aside0.mk (below_step (by repeat (first|(with_reducible first|exact HB.out|apply below_alloc|apply pw_below_drewN|apply below_drew1|refine below_set ?_ GE618.out|refine below_set ?_ GE619.out|refine below_set ?_ GE635.out)|exact HB.out)) hb);clear BK618;clear BK619;clear BK635;clear HB;have BK618:=n0_;have BK619:=n1_;have BK635:=n2_;have HB:=n3_;clear n0_ n1_ n2_ n3_;(try clear hb);(try clear hb2);(try clear hk);(try clear hi);have p79 : 0 ≤ (t634 : Int):=of_decide_eq_true (by first|(with_reducible assumption)|assumption);have q79 : t634 < (a0.size : Int):=of_decide_eq_true (by first|(with_reducible assumption)|assumption);have hx79:=bt_at a0 t634;replace p79:=eq_true p79;replace q79:=eq_true q79;have hcz86_0 : w85.cell? ⟨gb635,0,none⟩ = some (.int .i64 4):=(blk_cell BK635.out 0).trans rfl;have hcz86_1 : w85.cell? ⟨gb635,1,none⟩ = some (.string (a0.extract 0 ((ji57) : Int).toNat)):=(blk_cell BK635.out 1).trans rfl;have hcz86_2 : w85.cell? ⟨gb635,2,none⟩ = some (.int .i64 0):=(blk_cell BK635.out 2).trans rfl;have hcz86_3 : w85.cell? ⟨gb635,3,none⟩ = some (.int .i64 0):=(blk_cell BK635.out 3).trans rfl;have hfz86_0:=blk_frozen BK635.out 0;have hfz86_1:=blk_frozen BK635.out 1;have hfz86_2:=blk_frozen BK635.out 2;have hfz86_3:=blk_frozen BK635.out 3;have hnb87:=NB619_618.out;have hnc87:=NB618_619.out;have hcz88_0 : w85.cell? ⟨gb619,0,none⟩ = some (.int .i64 0):=(blk_cell BK619.out 0).trans rfl;have hcz88_1 : w85.cell? ⟨gb619,1,none⟩ = some (.string (⟨#[]⟩ : ByteArray)):=(blk_cell BK619.out 1).trans rfl;have hcz88_2 : w85.cell? ⟨gb619,2,none⟩ = some (.int .i64 0):=(blk_cell BK619.out 2).trans rfl;have hcz88_3 : w85.cell? ⟨gb619,3,none⟩ = some (.int .i64 0):=(blk_cell BK619.out 3).trans rfl;have hfz88_0:=blk_frozen BK619.out 0;have hfz88_1:=blk_frozen BK619.out 1;have hfz88_2:=blk_frozen BK619.out 2;have hfz88_3:=blk_frozen BK619.out 3))
               refine bodyPost_ret (results_ct rfl _ _ gb619 60 #[.int .i64 5,.string (a0.extract 0 ((ji57) : Int).toNat),.int .i64 0,.int .i64 0] (0,0) _ rfl (by (with_reducible repeat (first|refine blk_drewN ?_ _|refine blk_drew ?_|refine blk_alloc ?_ _));refine blk_put (cs:=#[.int .i64 5,.string (a0.extract 0 ((ji57) : Int).toNat),.int .i64 0,.int .i64 0]) ?_ 3 _ rfl;(with_reducible repeat (first|refine blk_drewN ?_ _|refine blk_drew ?_|refine blk_alloc ?_ _));refine blk_put (cs:=#[.int .i64 5,.string (a0.extract 0 ((ji57) : Int).toNat),.int .i64 0,.int .i64 0]) ?_ 2 _ rfl;(with_reducible repeat (first|refine blk_drewN ?_ _|refine blk_drew ?_|refine blk_alloc ?_ _));refine blk_put (cs:=#[.int .i64 5,.string (⟨#[]⟩ : ByteArray),.int .i64 0,.int .i64 0]) ?_ 1 _ rfl;(with_reducible repeat (first|refine blk_drewN ?_ _|refine blk_drew ?_|refine blk_alloc ?_ _));refine blk_put (cs:=#[.int .i64 0,.string (⟨#[]⟩ : ByteArray),.int .i64 0,.int .i64 0]) ?_ 0 _ rfl;(with_reducible repeat (first|refine blk_drewN ?_ _|refine blk_drew ?_|refine blk_alloc ?_ _));refine blk_far ?_ NB619_635.out _;(with_reducible repeat (first|refine blk_drewN ?_ _|refine blk_drew ?_|refine blk_alloc ?_ _));exact BK619.out) Tryd.underlying60 rfl (by kernel_rfl)) rfl ?_
               exact ⟨by first|rfl|(simp [errW_none,errW_some] <;> rfl)|(simp only [← hji57];first|rfl|(simp [errW_none,errW_some] <;> rfl))|(simp [*,errW_none,errW_some] <;> rfl),by repeat (first|(with_reducible first|exact HB.out|apply below_alloc|apply pw_below_drewN|apply below_drew1|refine below_set ?_ GE618.out|refine below_set ?_ GE619.out|refine below_set ?_ GE635.out)|exact HB.out)⟩
              ·rw [if_neg c80] at H
               have c80b0 : ((bt a0 t634) == 40) = false:=beq_eq_false_iff_ne.mpr c80
               have c80b1 : ((bt a0 t634) != 40) = true:=bne_iff_ne.mpr c80
               simp only [Option.some.injEq,Prod.mk.injEq] at H
               obtain ⟨rfl,rfl,rfl,rfl,rfl⟩:=H
               go_wp2_with (first|((with_reducible refine gate_callee (f:=109) rfl ?_);refine goesL_ (some 89) rfl rfl Tryd.func109 (by kernel_rfl) rfl #[.int .u8 (bt a0 0)] rfl (by (try simp only [List.map_toArray,List.map_cons,List.map_nil]);first|done|rfl|(simp only [List.length_drop,List.length_take];rfl)) ?_;(with_reducible refine (impl_isLetter.calls (bt a0 0) true _ A54.out).mono ?_);rintro e w' ⟨rfl,⟨nd,rfl⟩⟩;refine ⟨_,rfl,?_⟩;(try (rw [drewN_self wc];generalize hq_ : World.drewN wc _ = wc;have n0_ : Aside0 (wc.heap[gb618]? = some (.cells #[.int .i64 a1_0,.string a1_1,.int .i64 a1_2,.int .i64 a1_3] 60 (0,0))):=⟨by rw [← hq_];exact (by (with_reducible repeat (first|refine blk_drewN ?_ _|refine blk_drew ?_|refine blk_alloc ?_ _));exact BK618.out)⟩;have n1_ : Aside0 (wc.heap[gb619]? = some (.cells #[.int .i64 0,.string (⟨#[]⟩ : ByteArray),.int .i64 0,.int .i64 0] 60 (0,0))):=⟨by rw [← hq_];exact (by (with_reducible repeat (first|refine blk_drewN ?_ _|refine blk_drew ?_|refine blk_alloc ?_ _));exact BK619.out)⟩;have n2_ : Aside0 (Below w.heap.size w wc):=⟨by rw [← hq_];exact (by repeat (first|(with_reducible first|exact HB.out|apply below_alloc|apply pw_below_drewN|apply below_drew1|refine below_set ?_ GE618.out|refine below_set ?_ GE619.out)|exact HB.out))⟩;clear BK618 BK619 HB hq_;have BK618:=n0_;have BK619:=n1_;have HB:=n2_;clear n0_ n1_ n2_)))|((with_reducible refine gate_callee (f:=76) rfl ?_);refine goesL_ (some 91) rfl rfl Tryd.func76 (by kernel_rfl) rfl #[.string a0,.int .i64 0,.func (.func 110) #[] #[]] rfl (by (try simp only [List.map_toArray,List.map_cons,List.map_nil]);first|done|rfl|(simp only [List.length_drop,List.length_take];rfl)) ?_;(with_reducible refine (impl_run.calls a0 0 110 t634 _ A56.out).mono ?_);rintro e w' ⟨rfl,⟨nd,rfl⟩⟩;refine ⟨_,rfl,?_⟩;(try (rw [drewN_self wc];generalize hq_ : World.drewN wc _ = wc;have n0_ : Aside0 (wc.heap[gb618]? = some (.cells #[.int .i64 a1_0,.string a1_1,.int .i64 a1_2,.int .i64 a1_3] 60 (0,0))):=⟨by rw [← hq_];exact (by (with_reducible repeat (first|refine blk_drewN ?_ _|refine blk_drew ?_|refine blk_alloc ?_ _));exact BK618.out)⟩;have n1_ : Aside0 (wc.heap[gb619]? = some (.cells #[.int .i64 0,.string (⟨#[]⟩ : ByteArray),.int .i64 0,.int .i64 0] 60 (0,0))):=⟨by rw [← hq_];exact (by (with_reducible repeat (first|refine blk_drewN ?_ _|refine blk_drew ?_|refine blk_alloc ?_ _));exact BK619.out)⟩;have n2_ : Aside0 (Below w.heap.size w wc):=⟨by rw [← hq_];exact (by repeat (first|(with_reducible first|exact HB.out|apply below_alloc|apply pw_below_drewN|apply below_drew1|refine below_set ?_ GE618.out|refine below_set ?_ GE619.out)|exact HB.out))⟩;clear BK618 BK619 HB hq_;have BK618:=n0_;have BK619:=n1_;have HB:=n2_;clear n0_ n1_ n2_)))|((with_reducible refine gate_dst (N:=15) rfl ?_);refine box_event ?hg (N:=15) ?hd (cs:=#[.int .i64 0,.string (⟨#[]⟩ : ByteArray),.int .i64 0,.int .i64 0]) (t:=60) ?hr ?_;(case hd=>rfl);(case hg=>rfl);(case hr=>first|(go_simp;done)|(go_simp;rfl));intro gb635 hg w89 hbox hb;have n0_:=Aside0.mk (blk_below (g:=gb618) (o:=.cells #[.int .i64 a1_0,.string a1_1,.int .i64 a1_2,.int .i64 a1_3] 60 (0,0)) (by (with_reducible repeat (first|refine blk_drewN ?_ _|refine blk_drew ?_|refine blk_alloc ?_ _));exact BK618.out) hb);have n1_:=Aside0.mk (blk_below (g:=gb619) (o:=.cells #[.int .i64 0,.string (⟨#[]⟩ : ByteArray),.int .i64 0,.int .i64 0] 60 (0,0)) (by (with_reducible repeat (first|refine blk_drewN ?_ _|refine blk_drew ?_|refine blk_alloc ?_ _));exact BK619.out) hb);have n2_:=Aside0.mk (below_step (by repeat (first|(with_reducible first|exact HB.out|apply below_alloc|apply pw_below_drewN|apply below_drew1|refine below_set ?_ GE618.out|refine below_set ?_ GE619.out)|exact HB.out)) hb);have n3_:=Aside0.mk (hbox);have n4_:=Aside0.mk ((by rw [hg];exact (below_size (by repeat (first|(with_reducible first|exact HB.out|apply below_alloc|apply pw_below_drewN|apply below_drew1|refine below_set ?_ GE618.out|refine below_set ?_ GE619.out)|exact HB.out))) : w.heap.size ≤ gb635));have n5_:=Aside0.mk ((by rw [hg];exact (below_size (by repeat (first|(with_reducible first|exact HB.out|apply below_alloc|apply pw_below_drewN|apply below_drew1|refine below_set ?_ GE618.out|refine below_set ?_ GE619.out)|exact HB.out))) : w.heap.size ≤ gb635));have n6_:=Aside0.mk ((by rw [hg];exact Nat.ne_of_lt (blk_lt (g:=gb618) (o:=.cells #[.int .i64 a1_0,.string a1_1,.int .i64 a1_2,.int .i64 a1_3] 60 (0,0)) (by (with_reducible repeat (first|refine blk_drewN ?_ _|refine blk_drew ?_|refine blk_alloc ?_ _));exact BK618.out)) : gb618 ≠ gb635));have n7_:=Aside0.mk ((by rw [hg];exact Nat.ne_of_gt (blk_lt (g:=gb618) (o:=.cells #[.int .i64 a1_0,.string a1_1,.int .i64 a1_2,.int .i64 a1_3] 60 (0,0)) (by (with_reducible repeat (first|refine blk_drewN ?_ _|refine blk_drew ?_|refine blk_alloc ?_ _));exact BK618.out)) : gb635 ≠ gb618));have n8_:=Aside0.mk ((by rw [hg];exact Nat.ne_of_lt (blk_lt (g:=gb619) (o:=.cells #[.int .i64 0,.string (⟨#[]⟩ : ByteArray),.int .i64 0,.int .i64 0] 60 (0,0)) (by (with_reducible repeat (first|refine blk_drewN ?_ _|refine blk_drew ?_|refine blk_alloc ?_ _));exact BK619.out)) : gb619 ≠ gb635));have n9_:=Aside0.mk ((by rw [hg];exact Nat.ne_of_gt (blk_lt (g:=gb619) (o:=.cells #[.int .i64 0,.string (⟨#[]⟩ : ByteArray),.int .i64 0,.int .i64 0] 60 (0,0)) (by (with_reducible repeat (first|refine blk_drewN ?_ _|refine blk_drew ?_|refine blk_alloc ?_ _));exact BK619.out)) : gb635 ≠ gb619));clear BK618;clear BK619;clear HB;have BK618:=n0_;have BK619:=n1_;have HB:=n2_;have BK635:=n3_;have GW635:=n4_;have GE635:=n5_;have NB618_635:=n6_;have NB635_618:=n7_;have NB619_635:=n8_;have NB635_619:=n9_;clear n0_ n1_ n2_ n3_ n4_ n5_ n6_ n7_ n8_ n9_;clear hb hbox hg;have hnb90:=NB635_618.out;have hnc90:=NB618_635.out;have hnb91:=NB635_619.out;have hnc91:=NB619_635.out;have hcz92_0 : w89.cell? ⟨gb635,0,none⟩ = some (.int .i64 0):=(blk_cell BK635.out 0).trans rfl;have hcz92_1 : w89.cell? ⟨gb635,1,none⟩ = some (.string (⟨#[]⟩ : ByteArray)):=(blk_cell BK635.out 1).trans rfl;have hcz92_2 : w89.cell? ⟨gb635,2,none⟩ = some (.int .i64 0):=(blk_cell BK635.out 2).trans rfl;have hcz92_3 : w89.cell? ⟨gb635,3,none⟩ = some (.int .i64 0):=(blk_cell BK635.out 3).trans rfl;have hfz92_0:=blk_frozen BK635.out 0;have hfz92_1:=blk_frozen BK635.out 1;have hfz92_2:=blk_frozen BK635.out 2;have hfz92_3:=blk_frozen BK635.out 3)|((with_reducible refine gate_callee (f:=69) rfl ?_);refine goesL_ (some 104) rfl rfl Tryd.func69 (by kernel_rfl) rfl #[.string (a0.extract 0 ((ji57) : Int).toNat)] rfl (by (try simp only [List.map_toArray,List.map_cons,List.map_nil]);first|done|(simp only [hji57];rfl)|rfl|(simp only [List.length_drop,List.length_take];rfl)) ?_;(with_reducible refine (impl_IsWord.calls kj41 (a0.extract 0 ((ji57) : Int).toNat) false _ A67.out).mono ?_);rintro e w93 ⟨rfl,hb⟩;refine ⟨_,rfl,?_⟩;have n0_:=Aside0.mk (blk_below (g:=gb618) (o:=.cells #[.int .i64 a1_0,.string a1_1,.int .i64 a1_2,.int .i64 a1_3] 60 (0,0)) (by (with_reducible repeat (first|refine blk_drewN ?_ _|refine blk_drew ?_|refine blk_alloc ?_ _));refine blk_far ?_ NB618_635.out _;(with_reducible repeat (first|refine blk_drewN ?_ _|refine blk_drew ?_|refine blk_alloc ?_ _));refine blk_far ?_ NB618_635.out _;(with_reducible repeat (first|refine blk_drewN ?_ _|refine blk_drew ?_|refine blk_alloc ?_ _));refine blk_far ?_ NB618_635.out _;(with_reducible repeat (first|refine blk_drewN ?_ _|refine blk_drew ?_|refine blk_alloc ?_ _));refine blk_far ?_ NB618_635.out _;(with_reducible repeat (first|refine blk_drewN ?_ _|refine blk_drew ?_|refine blk_alloc ?_ _));exact BK618.out) hb);have n1_:=Aside0.mk (blk_below (g:=gb619) (o:=.cells #[.int .i64 0,.string (⟨#[]⟩ : ByteArray),.int .i64 0,.int .i64 0] 60 (0,0)) (by (with_reducible repeat (first|refine blk_drewN ?_ _|refine blk_drew ?_|refine blk_alloc ?_ _));refine blk_far ?_ NB619_635.out _;(with_reducible repeat (first|refine blk_drewN ?_ _|refine blk_drew ?_|refine blk_alloc ?_ _));refine blk_far ?_ NB619_635.out _;(with_reducible repeat (first|refine blk_drewN ?_ _|refine blk_drew ?_|refine blk_alloc ?_ _));refine blk_far ?_ NB619_635.out _;(with_reducible repeat (first|refine blk_drewN ?_ _|refine blk_drew ?_|refine blk_alloc ?_ _));refine blk_far ?_ NB619_635.out _;(with_reducible repeat (first|refine blk_drewN ?_ _|refine blk_drew ?_|refine blk_alloc ?_ _));exact BK619.out) hb);have n2_:=Aside0.mk (blk_below (g:=gb635) (o:=.cells #[.int .i64 4,.string (a0.extract 0 ((ji57) : Int).toNat),.int .i64 0,.int .i64 0] 60 (0,0)) (by (with_reducible repeat (first|refine blk_drewN ?_ _|refine blk_drew ?_|refine blk_alloc ?_ _));refine blk_put (cs:=#[.int .i64 4,.string (a0.extract 0 ((ji57) : Int).toNat),.int .i64 0,.int .i64 0]) ?_ 3 _ rfl;(with_reducible repeat (first|refine blk_drewN ?_ _|refine blk_drew ?_|refine blk_alloc ?_ _));refine blk_put (cs:=#[.int .i64 4,.string (a0.extract 0 ((ji57) : Int).toNat),.int .i64 0,.int .i64 0]) ?_ 2 _ rfl;(with_reducible repeat (first|refine blk_drewN ?_ _|refine blk_drew ?_|refine blk_alloc ?_ _));refine blk_put (cs:=#[.int .i64 4,.string (⟨#[]⟩ : ByteArray),.int .i64 0,.int .i64 0]) ?_ 1 _ rfl;(with_reducible repeat (first|refine blk_drewN ?_ _|refine blk_drew ?_|refine blk_alloc ?_ _));refine blk_put (cs:=#[.int .i64 0,.string (⟨#[]⟩ : ByteArray),.int .i64 0,.int .i64 0]) ?_ 0 _ rfl;(with_reducible repeat (first|refine blk_drewN ?_ _|refine blk_drew ?_|refine blk_alloc ?_ _));exact BK635.out) hb);have n3_:=Aside0.mk (below_step (by repeat (first|(with_reducible first|exact HB.out|apply below_alloc|apply pw_below_drewN|apply below_drew1|refine below_set ?_ GE618.out|refine below_set ?_ GE619.out|refine below_set ?_ GE635.out)|exact HB.out)) hb);clear BK618;clear BK619;clear BK635;clear HB;have BK618:=n0_;have BK619:=n1_;have BK635:=n2_;have HB:=n3_;clear n0_ n1_ n2_ n3_;(try clear hb);(try clear hb2);(try clear hk);(try clear hi);have p79 : 0 ≤ (t634 : Int):=of_decide_eq_true (by first|(with_reducible assumption)|assumption);have q79 : t634 < (a0.size : Int):=of_decide_eq_true (by first|(with_reducible assumption)|assumption);have hx79:=bt_at a0 t634;replace p79:=eq_true p79;replace q79:=eq_true q79;have hcz94_0 : w93.cell? ⟨gb635,0,none⟩ = some (.int .i64 4):=(blk_cell BK635.out 0).trans rfl;have hcz94_1 : w93.cell? ⟨gb635,1,none⟩ = some (.string (a0.extract 0 ((ji57) : Int).toNat)):=(blk_cell BK635.out 1).trans rfl;have hcz94_2 : w93.cell? ⟨gb635,2,none⟩ = some (.int .i64 0):=(blk_cell BK635.out 2).trans rfl;have hcz94_3 : w93.cell? ⟨gb635,3,none⟩ = some (.int .i64 0):=(blk_cell BK635.out 3).trans rfl;have hfz94_0:=blk_frozen BK635.out 0;have hfz94_1:=blk_frozen BK635.out 1;have hfz94_2:=blk_frozen BK635.out 2;have hfz94_3:=blk_frozen BK635.out 3;have hnb95:=NB619_618.out;have hnc95:=NB618_619.out;have hcz96_0 : w93.cell? ⟨gb619,0,none⟩ = some (.int .i64 0):=(blk_cell BK619.out 0).trans rfl;have hcz96_1 : w93.cell? ⟨gb619,1,none⟩ = some (.string (⟨#[]⟩ : ByteArray)):=(blk_cell BK619.out 1).trans rfl;have hcz96_2 : w93.cell? ⟨gb619,2,none⟩ = some (.int .i64 0):=(blk_cell BK619.out 2).trans rfl;have hcz96_3 : w93.cell? ⟨gb619,3,none⟩ = some (.int .i64 0):=(blk_cell BK619.out 3).trans rfl;have hfz96_0:=blk_frozen BK619.out 0;have hfz96_1:=blk_frozen BK619.out 1;have hfz96_2:=blk_frozen BK619.out 2;have hfz96_3:=blk_frozen BK619.out 3))
               refine bodyPost_ret (results_ct rfl _ _ gb619 60 #[.int .i64 4,.string (a0.extract 0 ((ji57) : Int).toNat),.int .i64 0,.int .i64 0] (0,0) _ rfl (by (with_reducible repeat (first|refine blk_drewN ?_ _|refine blk_drew ?_|refine blk_alloc ?_ _));refine blk_put (cs:=#[.int .i64 4,.string (a0.extract 0 ((ji57) : Int).toNat),.int .i64 0,.int .i64 0]) ?_ 3 _ rfl;(with_reducible repeat (first|refine blk_drewN ?_ _|refine blk_drew ?_|refine blk_alloc ?_ _));refine blk_put (cs:=#[.int .i64 4,.string (a0.extract 0 ((ji57) : Int).toNat),.int .i64 0,.int .i64 0]) ?_ 2 _ rfl;(with_reducible repeat (first|refine blk_drewN ?_ _|refine blk_drew ?_|refine blk_alloc ?_ _));refine blk_put (cs:=#[.int .i64 4,.string (⟨#[]⟩ : ByteArray),.int .i64 0,.int .i64 0]) ?_ 1 _ rfl;(with_reducible repeat (first|refine blk_drewN ?_ _|refine blk_drew ?_|refine blk_alloc ?_ _));refine blk_put (cs:=#[.int .i64 0,.string (⟨#[]⟩ : ByteArray),.int .i64 0,.int .i64 0]) ?_ 0 _ rfl;(with_reducible repeat (first|refine blk_drewN ?_ _|refine blk_drew ?_|refine blk_alloc ?_ _));exact BK619.out) Tryd.underlying60 rfl (by kernel_rfl)) rfl ?_
               exact ⟨by first|rfl|(simp [errW_none,errW_some] <;> rfl)|(simp only [← hji57];first|rfl|(simp [errW_none,errW_some] <;> rfl))|(simp [*,errW_none,errW_some] <;> rfl),by repeat (first|(with_reducible first|exact HB.out|apply below_alloc|apply pw_below_drewN|apply below_drew1|refine below_set ?_ GE618.out|refine below_set ?_ GE619.out|refine below_set ?_ GE635.out)|exact HB.out)⟩
             ·rw [if_neg c78] at H
              exact absurd H (by simp)
            ·rw [if_neg c77] at H
             have c77b0 : decide (t634 < (a0.size : Int)) = false:=decide_eq_false c77
             clear c77
             simp only [Option.some.injEq,Prod.mk.injEq] at H
             obtain ⟨rfl,rfl,rfl,rfl,rfl⟩:=H
             go_wp2_with (first|((with_reducible refine gate_callee (f:=109) rfl ?_);refine goesL_ (some 89) rfl rfl Tryd.func109 (by kernel_rfl) rfl #[.int .u8 (bt a0 0)] rfl (by (try simp only [List.map_toArray,List.map_cons,List.map_nil]);first|done|rfl|(simp only [List.length_drop,List.length_take];rfl)) ?_;(with_reducible refine (impl_isLetter.calls (bt a0 0) true _ A54.out).mono ?_);rintro e w' ⟨rfl,⟨nd,rfl⟩⟩;refine ⟨_,rfl,?_⟩;(try (rw [drewN_self wc];generalize hq_ : World.drewN wc _ = wc;have n0_ : Aside0 (wc.heap[gb618]? = some (.cells #[.int .i64 a1_0,.string a1_1,.int .i64 a1_2,.int .i64 a1_3] 60 (0,0))):=⟨by rw [← hq_];exact (by (with_reducible repeat (first|refine blk_drewN ?_ _|refine blk_drew ?_|refine blk_alloc ?_ _));exact BK618.out)⟩;have n1_ : Aside0 (wc.heap[gb619]? = some (.cells #[.int .i64 0,.string (⟨#[]⟩ : ByteArray),.int .i64 0,.int .i64 0] 60 (0,0))):=⟨by rw [← hq_];exact (by (with_reducible repeat (first|refine blk_drewN ?_ _|refine blk_drew ?_|refine blk_alloc ?_ _));exact BK619.out)⟩;have n2_ : Aside0 (Below w.heap.size w wc):=⟨by rw [← hq_];exact (by repeat (first|(with_reducible first|exact HB.out|apply below_alloc|apply pw_below_drewN|apply below_drew1|refine below_set ?_ GE618.out|refine below_set ?_ GE619.out)|exact HB.out))⟩;clear BK618 BK619 HB hq_;have BK618:=n0_;have BK619:=n1_;have HB:=n2_;clear n0_ n1_ n2_)))|((with_reducible refine gate_callee (f:=76) rfl ?_);refine goesL_ (some 91) rfl rfl Tryd.func76 (by kernel_rfl) rfl #[.string a0,.int .i64 0,.func (.func 110) #[] #[]] rfl (by (try simp only [List.map_toArray,List.map_cons,List.map_nil]);first|done|rfl|(simp only [List.length_drop,List.length_take];rfl)) ?_;(with_reducible refine (impl_run.calls a0 0 110 t634 _ A56.out).mono ?_);rintro e w' ⟨rfl,⟨nd,rfl⟩⟩;refine ⟨_,rfl,?_⟩;(try (rw [drewN_self wc];generalize hq_ : World.drewN wc _ = wc;have n0_ : Aside0 (wc.heap[gb618]? = some (.cells #[.int .i64 a1_0,.string a1_1,.int .i64 a1_2,.int .i64 a1_3] 60 (0,0))):=⟨by rw [← hq_];exact (by (with_reducible repeat (first|refine blk_drewN ?_ _|refine blk_drew ?_|refine blk_alloc ?_ _));exact BK618.out)⟩;have n1_ : Aside0 (wc.heap[gb619]? = some (.cells #[.int .i64 0,.string (⟨#[]⟩ : ByteArray),.int .i64 0,.int .i64 0] 60 (0,0))):=⟨by rw [← hq_];exact (by (with_reducible repeat (first|refine blk_drewN ?_ _|refine blk_drew ?_|refine blk_alloc ?_ _));exact BK619.out)⟩;have n2_ : Aside0 (Below w.heap.size w wc):=⟨by rw [← hq_];exact (by repeat (first|(with_reducible first|exact HB.out|apply below_alloc|apply pw_below_drewN|apply below_drew1|refine below_set ?_ GE618.out|refine below_set ?_ GE619.out)|exact HB.out))⟩;clear BK618 BK619 HB hq_;have BK618:=n0_;have BK619:=n1_;have HB:=n2_;clear n0_ n1_ n2_)))|((with_reducible refine gate_dst (N:=15) rfl ?_);refine box_event ?hg (N:=15) ?hd (cs:=#[.int .i64 0,.string (⟨#[]⟩ : ByteArray),.int .i64 0,.int .i64 0]) (t:=60) ?hr ?_;(case hd=>rfl);(case hg=>rfl);(case hr=>first|(go_simp;done)|(go_simp;rfl));intro gb635 hg w97 hbox hb;have n0_:=Aside0.mk (blk_below (g:=gb618) (o:=.cells #[.int .i64 a1_0,.string a1_1,.int .i64 a1_2,.int .i64 a1_3] 60 (0,0)) (by (with_reducible repeat (first|refine blk_drewN ?_ _|refine blk_drew ?_|refine blk_alloc ?_ _));exact BK618.out) hb);have n1_:=Aside0.mk (blk_below (g:=gb619) (o:=.cells #[.int .i64 0,.string (⟨#[]⟩ : ByteArray),.int .i64 0,.int .i64 0] 60 (0,0)) (by (with_reducible repeat (first|refine blk_drewN ?_ _|refine blk_drew ?_|refine blk_alloc ?_ _));exact BK619.out) hb);have n2_:=Aside0.mk (below_step (by repeat (first|(with_reducible first|exact HB.out|apply below_alloc|apply pw_below_drewN|apply below_drew1|refine below_set ?_ GE618.out|refine below_set ?_ GE619.out)|exact HB.out)) hb);have n3_:=Aside0.mk (hbox);have n4_:=Aside0.mk ((by rw [hg];exact (below_size (by repeat (first|(with_reducible first|exact HB.out|apply below_alloc|apply pw_below_drewN|apply below_drew1|refine below_set ?_ GE618.out|refine below_set ?_ GE619.out)|exact HB.out))) : w.heap.size ≤ gb635));have n5_:=Aside0.mk ((by rw [hg];exact (below_size (by repeat (first|(with_reducible first|exact HB.out|apply below_alloc|apply pw_below_drewN|apply below_drew1|refine below_set ?_ GE618.out|refine below_set ?_ GE619.out)|exact HB.out))) : w.heap.size ≤ gb635));have n6_:=Aside0.mk ((by rw [hg];exact Nat.ne_of_lt (blk_lt (g:=gb618) (o:=.cells #[.int .i64 a1_0,.string a1_1,.int .i64 a1_2,.int .i64 a1_3] 60 (0,0)) (by (with_reducible repeat (first|refine blk_drewN ?_ _|refine blk_drew ?_|refine blk_alloc ?_ _));exact BK618.out)) : gb618 ≠ gb635));have n7_:=Aside0.mk ((by rw [hg];exact Nat.ne_of_gt (blk_lt (g:=gb618) (o:=.cells #[.int .i64 a1_0,.string a1_1,.int .i64 a1_2,.int .i64 a1_3] 60 (0,0)) (by (with_reducible repeat (first|refine blk_drewN ?_ _|refine blk_drew ?_|refine blk_alloc ?_ _));exact BK618.out)) : gb635 ≠ gb618));have n8_:=Aside0.mk ((by rw [hg];exact Nat.ne_of_lt (blk_lt (g:=gb619) (o:=.cells #[.int .i64 0,.string (⟨#[]⟩ : ByteArray),.int .i64 0,.int .i64 0] 60 (0,0)) (by (with_reducible repeat (first|refine blk_drewN ?_ _|refine blk_drew ?_|refine blk_alloc ?_ _));exact BK619.out)) : gb619 ≠ gb635));have n9_:=Aside0.mk ((by rw [hg];exact Nat.ne_of_gt (blk_lt (g:=gb619) (o:=.cells #[.int .i64 0,.string (⟨#[]⟩ : ByteArray),.int .i64 0,.int .i64 0] 60 (0,0)) (by (with_reducible repeat (first|refine blk_drewN ?_ _|refine blk_drew ?_|refine blk_alloc ?_ _));exact BK619.out)) : gb635 ≠ gb619));clear BK618;clear BK619;clear HB;have BK618:=n0_;have BK619:=n1_;have HB:=n2_;have BK635:=n3_;have GW635:=n4_;have GE635:=n5_;have NB618_635:=n6_;have NB635_618:=n7_;have NB619_635:=n8_;have NB635_619:=n9_;clear n0_ n1_ n2_ n3_ n4_ n5_ n6_ n7_ n8_ n9_;clear hb hbox hg;have hnb98:=NB635_618.out;have hnc98:=NB618_635.out;have hnb99:=NB635_619.out;have hnc99:=NB619_635.out;have hcz100_0 : w97.cell? ⟨gb635,0,none⟩ = some (.int .i64 0):=(blk_cell BK635.out 0).trans rfl;have hcz100_1 : w97.cell? ⟨gb635,1,none⟩ = some (.string (⟨#[]⟩ : ByteArray)):=(blk_cell BK635.out 1).trans rfl;have hcz100_2 : w97.cell? ⟨gb635,2,none⟩ = some (.int .i64 0):=(blk_cell BK635.out 2).trans rfl;have hcz100_3 : w97.cell? ⟨gb635,3,none⟩ = some (.int .i64 0):=(blk_cell BK635.out 3).trans rfl;have hfz100_0:=blk_frozen BK635.out 0;have hfz100_1:=blk_frozen BK635.out 1;have hfz100_2:=blk_frozen BK635.out 2;have hfz100_3:=blk_frozen BK635.out 3)|((with_reducible refine gate_callee (f:=69) rfl ?_);refine goesL_ (some 104) rfl rfl Tryd.func69 (by kernel_rfl) rfl #[.string (a0.extract 0 ((ji57) : Int).toNat)] rfl (by (try simp only [List.map_toArray,List.map_cons,List.map_nil]);first|done|(simp only [hji57];rfl)|rfl|(simp only [List.length_drop,List.length_take];rfl)) ?_;(with_reducible refine (impl_IsWord.calls kj41 (a0.extract 0 ((ji57) : Int).toNat) false _ A67.out).mono ?_);rintro e w101 ⟨rfl,hb⟩;refine ⟨_,rfl,?_⟩;have n0_:=Aside0.mk (blk_below (g:=gb618) (o:=.cells #[.int .i64 a1_0,.string a1_1,.int .i64 a1_2,.int .i64 a1_3] 60 (0,0)) (by (with_reducible repeat (first|refine blk_drewN ?_ _|refine blk_drew ?_|refine blk_alloc ?_ _));refine blk_far ?_ NB618_635.out _;(with_reducible repeat (first|refine blk_drewN ?_ _|refine blk_drew ?_|refine blk_alloc ?_ _));refine blk_far ?_ NB618_635.out _;(with_reducible repeat (first|refine blk_drewN ?_ _|refine blk_drew ?_|refine blk_alloc ?_ _));refine blk_far ?_ NB618_635.out _;(with_reducible repeat (first|refine blk_drewN ?_ _|refine blk_drew ?_|refine blk_alloc ?_ _));refine blk_far ?_ NB618_635.out _;(with_reducible repeat (first|refine blk_drewN ?_ _|refine blk_drew ?_|refine blk_alloc ?_ _));exact BK618.out) hb);have n1_:=Aside0.mk (blk_below (g:=gb619) (o:=.cells #[.int .i64 0,.string (⟨#[]⟩ : ByteArray),.int .i64 0,.int .i64 0] 60 (0,0)) (by (with_reducible repeat (first|refine blk_drewN ?_ _|refine blk_drew ?_|refine blk_alloc ?_ _));refine blk_far ?_ NB619_635.out _;(with_reducible repeat (first|refine blk_drewN ?_ _|refine blk_drew ?_|refine blk_alloc ?_ _));refine blk_far ?_ NB619_635.out _;(with_reducible repeat (first|refine blk_drewN ?_ _|refine blk_drew ?_|refine blk_alloc ?_ _));refine blk_far ?_ NB619_635.out _;(with_reducible repeat (first|refine blk_drewN ?_ _|refine blk_drew ?_|refine blk_alloc ?_ _));refine blk_far ?_ NB619_635.out _;(with_reducible repeat (first|refine blk_drewN ?_ _|refine blk_drew ?_|refine blk_alloc ?_ _));exact BK619.out) hb);have n2_:=Aside0.mk (blk_below (g:=gb635) (o:=.cells #[.int .i64 4,.string (a0.extract 0 ((ji57) : Int).toNat),.int .i64 0,.int .i64 0] 60 (0,0)) (by (with_reducible repeat (first|refine blk_drewN ?_ _|refine blk_drew ?_|refine blk_alloc ?_ _));refine blk_put (cs:=#[.int .i64 4,.string (a0.extract 0 ((ji57) : Int).toNat),.int .i64 0,.int .i64 0]) ?_ 3 _ rfl;(with_reducible repeat (first|refine blk_drewN ?_ _|refine blk_drew ?_|refine blk_alloc ?_ _));refine blk_put (cs:=#[.int .i64 4,.string (a0.extract 0 ((ji57) : Int).toNat),.int .i64 0,.int .i64 0]) ?_ 2 _ rfl;(with_reducible repeat (first|refine blk_drewN ?_ _|refine blk_drew ?_|refine blk_alloc ?_ _));refine blk_put (cs:=#[.int .i64 4,.string (⟨#[]⟩ : ByteArray),.int .i64 0,.int .i64 0]) ?_ 1 _ rfl;(with_reducible repeat (first|refine blk_drewN ?_ _|refine blk_drew ?_|refine blk_alloc ?_ _));refine blk_put (cs:=#[.int .i64 0,.string (⟨#[]⟩ : ByteArray),.int .i64 0,.int .i64 0]) ?_ 0 _ rfl;(with_reducible repeat (first|refine blk_drewN ?_ _|refine blk_drew ?_|refine blk_alloc ?_ _));exact BK635.out) hb);have n3_:=Aside0.mk (below_step (by repeat (first|(with_reducible first|exact HB.out|apply below_alloc|apply pw_below_drewN|apply below_drew1|refine below_set ?_ GE618.out|refine below_set ?_ GE619.out|refine below_set ?_ GE635.out)|exact HB.out)) hb);clear BK618;clear BK619;clear BK635;clear HB;have BK618:=n0_;have BK619:=n1_;have BK635:=n2_;have HB:=n3_;clear n0_ n1_ n2_ n3_;(try clear hb);(try clear hb2);(try clear hk);(try clear hi);have hcz102_0 : w101.cell? ⟨gb635,0,none⟩ = some (.int .i64 4):=(blk_cell BK635.out 0).trans rfl;have hcz102_1 : w101.cell? ⟨gb635,1,none⟩ = some (.string (a0.extract 0 ((ji57) : Int).toNat)):=(blk_cell BK635.out 1).trans rfl;have hcz102_2 : w101.cell? ⟨gb635,2,none⟩ = some (.int .i64 0):=(blk_cell BK635.out 2).trans rfl;have hcz102_3 : w101.cell? ⟨gb635,3,none⟩ = some (.int .i64 0):=(blk_cell BK635.out 3).trans rfl;have hfz102_0:=blk_frozen BK635.out 0;have hfz102_1:=blk_frozen BK635.out 1;have hfz102_2:=blk_frozen BK635.out 2;have hfz102_3:=blk_frozen BK635.out 3;have hnb103:=NB619_618.out;have hnc103:=NB618_619.out;have hcz104_0 : w101.cell? ⟨gb619,0,none⟩ = some (.int .i64 0):=(blk_cell BK619.out 0).trans rfl;have hcz104_1 : w101.cell? ⟨gb619,1,none⟩ = some (.string (⟨#[]⟩ : ByteArray)):=(blk_cell BK619.out 1).trans rfl;have hcz104_2 : w101.cell? ⟨gb619,2,none⟩ = some (.int .i64 0):=(blk_cell BK619.out 2).trans rfl;have hcz104_3 : w101.cell? ⟨gb619,3,none⟩ = some (.int .i64 0):=(blk_cell BK619.out 3).trans rfl;have hfz104_0:=blk_frozen BK619.out 0;have hfz104_1:=blk_frozen BK619.out 1;have hfz104_2:=blk_frozen BK619.out 2;have hfz104_3:=blk_frozen BK619.out 3))
             refine bodyPost_ret (results_ct rfl _ _ gb619 60 #[.int .i64 4,.string (a0.extract 0 ((ji57) : Int).toNat),.int .i64 0,.int .i64 0] (0,0) _ rfl (by (with_reducible repeat (first|refine blk_drewN ?_ _|refine blk_drew ?_|refine blk_alloc ?_ _));refine blk_put (cs:=#[.int .i64 4,.string (a0.extract 0 ((ji57) : Int).toNat),.int .i64 0,.int .i64 0]) ?_ 3 _ rfl;(with_reducible repeat (first|refine blk_drewN ?_ _|refine blk_drew ?_|refine blk_alloc ?_ _));refine blk_put (cs:=#[.int .i64 4,.string (a0.extract 0 ((ji57) : Int).toNat),.int .i64 0,.int .i64 0]) ?_ 2 _ rfl;(with_reducible repeat (first|refine blk_drewN ?_ _|refine blk_drew ?_|refine blk_alloc ?_ _));refine blk_put (cs:=#[.int .i64 4,.string (⟨#[]⟩ : ByteArray),.int .i64 0,.int .i64 0]) ?_ 1 _ rfl;(with_reducible repeat (first|refine blk_drewN ?_ _|refine blk_drew ?_|refine blk_alloc ?_ _));refine blk_put (cs:=#[.int .i64 0,.string (⟨#[]⟩ : ByteArray),.int .i64 0,.int .i64 0]) ?_ 0 _ rfl;(with_reducible repeat (first|refine blk_drewN ?_ _|refine blk_drew ?_|refine blk_alloc ?_ _));exact BK619.out) Tryd.underlying60 rfl (by kernel_rfl)) rfl ?_
             exact ⟨by first|rfl|(simp [errW_none,errW_some] <;> rfl)|(simp only [← hji57];first|rfl|(simp [errW_none,errW_some] <;> rfl))|(simp [*,errW_none,errW_some] <;> rfl),by repeat (first|(with_reducible first|exact HB.out|apply below_alloc|apply pw_below_drewN|apply below_drew1|refine below_set ?_ GE618.out|refine below_set ?_ GE619.out|refine below_set ?_ GE635.out)|exact HB.out)⟩
         ·rw [if_neg c59] at H
          exact absurd H (by simp)
        ·rw [if_neg c58] at H
         exact absurd H (by simp)
       ·replace c55:=Bool.eq_false_iff.mpr c55
        subst c55
        have H1 : ((strings_Split.f (⟨#[38,38,32,124,124,32,61,61,32,33,61,32,33,126,32,60,61,32,43,61,32,123,32,125,32,40,32,41,32,91,32,93,32,59,32,44,32,61,32,33,32,60,32,43,32,45,32,42,32,47,32,37,32,126,32,63,32,58,32,36]⟩ : ByteArray) (⟨#[32]⟩ : ByteArray)).bind fun t637=>(impl_lexOne.l0 kj41 a0 t637 (t637.length : Int) 0)) = some (r1,r2,r3,r4,r5):=by rw [if_neg (show ¬ (false = true) by decide)] at H;exact H
        clear H
        have H:=H1
        clear H1
        replace H:=Option.bind_eq_some_iff.mp H
        obtain ⟨t637,A1050,H⟩:=H
        replace H : (impl_lexOne.l0 kj41 a0 t637 (t637.length : Int) 0) = some (r1,r2,r3,r4,r5):=H
        have A105:=Aside0.mk A1050
        clear A1050
        have H':=Aside0.mk H
        clear H
        go_wp2_with (first|((with_reducible refine gate_callee (f:=109) rfl ?_);refine goesL_ (some 89) rfl rfl Tryd.func109 (by kernel_rfl) rfl #[.int .u8 (bt a0 0)] rfl (by (try simp only [List.map_toArray,List.map_cons,List.map_nil]);first|done|rfl|(simp only [List.length_drop,List.length_take];rfl)) ?_;(with_reducible refine (impl_isLetter.calls (bt a0 0) false _ A54.out).mono ?_);rintro e w' ⟨rfl,⟨nd,rfl⟩⟩;refine ⟨_,rfl,?_⟩)|((with_reducible refine gate_callee (f:=116) rfl ?_);refine goesL_ (some 120) rfl rfl Tryd.func116 (by kernel_rfl) rfl #[.string (⟨#[38,38,32,124,124,32,61,61,32,33,61,32,33,126,32,60,61,32,43,61,32,123,32,125,32,40,32,41,32,91,32,93,32,59,32,44,32,61,32,33,32,60,32,43,32,45,32,42,32,47,32,37,32,126,32,63,32,58,32,36]⟩ : ByteArray),.string (⟨#[32]⟩ : ByteArray)] rfl (by (try simp only [List.map_toArray,List.map_cons,List.map_nil]);first|done|rfl|(simp only [List.length_drop,List.length_take];rfl)) ?_;(with_reducible refine (strings_Split.calls (⟨#[38,38,32,124,124,32,61,61,32,33,61,32,33,126,32,60,61,32,43,61,32,123,32,125,32,40,32,41,32,91,32,93,32,59,32,44,32,61,32,33,32,60,32,43,32,45,32,42,32,47,32,37,32,126,32,63,32,58,32,36]⟩ : ByteArray) (⟨#[32]⟩ : ByteArray) t637 _ A105.out).mono ?_);rintro e w106 ⟨v638,rfl,ho0,hb⟩;refine ⟨_,rfl,?_⟩;have n0_:=Aside0.mk (Kd.R_lower ho0 (below_size (by repeat (first|(with_reducible first|exact HB.out|apply below_alloc|apply pw_below_drewN|apply below_drew1|refine below_set ?_ GE618.out|refine below_set ?_ GE619.out)|exact HB.out))));have n1_:=Aside0.mk (blk_below (g:=gb618) (o:=.cells #[.int .i64 a1_0,.string a1_1,.int .i64 a1_2,.int .i64 a1_3] 60 (0,0)) (by (with_reducible repeat (first|refine blk_drewN ?_ _|refine blk_drew ?_|refine blk_alloc ?_ _));exact BK618.out) hb);have n2_:=Aside0.mk (blk_below (g:=gb619) (o:=.cells #[.int .i64 0,.string (⟨#[]⟩ : ByteArray),.int .i64 0,.int .i64 0] 60 (0,0)) (by (with_reducible repeat (first|refine blk_drewN ?_ _|refine blk_drew ?_|refine blk_alloc ?_ _));exact BK619.out) hb);have n3_:=Aside0.mk (below_step (by repeat (first|(with_reducible first|exact HB.out|apply below_alloc|apply pw_below_drewN|apply below_drew1|refine below_set ?_ GE618.out|refine below_set ?_ GE619.out)|exact HB.out)) hb);clear BK618;clear BK619;clear HB;have HO639:=n0_;have BK618:=n1_;have BK619:=n2_;have HB:=n3_;clear n0_ n1_ n2_ n3_;(try clear hb);(try clear hb2);(try clear hk);(try clear hi);(try clear ho0);obtain ⟨Ao107,co107,eo107⟩:=Kd.R_slice HO639.out;subst eo107))
        go_loopg [122] kj41 (fun kq v122 w'=>∃ (x122_2 : Int) (x620000_2 : Int) (x620001_2 : ByteArray) (x620002_2 : Int) (x620003_2 : Int),v122 = .int .i64 x122_2 ∧ Aside0 (impl_lexOne.l0 kq a0 t637 (t637.length : Int) x122_2 = some (r1,r2,r3,r4,r5)) ∧ Aside0 (kq ≤ kj41) ∧ Aside0 (Kd.R Kd.string 9 w' w.heap.size (fun _=>True) (.slice Ao107 t637.length co107) t637) ∧ Aside0 (w'.heap[gb618]? = some (.cells #[.int .i64 a1_0,.string a1_1,.int .i64 a1_2,.int .i64 a1_3] 60 (0,0))) ∧ Aside0 (w'.heap[gb619]? = some (.cells #[.int .i64 x620000_2,.string x620001_2,.int .i64 x620002_2,.int .i64 x620003_2] 60 (0,0))) ∧ Aside0 (Below w.heap.size w w'))
        case atStart=>exact ⟨(0),(0),((⟨#[]⟩ : ByteArray)),(0),(0),(by first|rfl|(simp;done)|(simp [*];done)),H',⟨Nat.le_refl _⟩,⟨by (with_reducible repeat (first|apply Kd.R_alloc|apply Kd.R_drewN|apply Kd.R_drew));exact HO639.out⟩,⟨by (with_reducible repeat (first|refine blk_drewN ?_ _|refine blk_drew ?_|refine blk_alloc ?_ _));exact BK618.out⟩,⟨by (with_reducible repeat (first|refine blk_drewN ?_ _|refine blk_drew ?_|refine blk_alloc ?_ _));exact BK619.out⟩,⟨by repeat (first|(with_reducible first|exact HB.out|apply below_alloc|apply pw_below_drewN|apply below_drew1|refine below_set ?_ GE618.out|refine below_set ?_ GE619.out)|exact HB.out)⟩⟩
        case round =>
         clear H'
         try clear c1
         try clear p1
         try clear q1
         try clear hx1
         try clear c2
         try clear p2
         try clear c3
         try clear c3b0
         try clear c3b1
         try clear c4
         try clear p4
         try clear q4
         try clear hx4
         try clear qi4
         try clear c5
         try clear c6
         try clear p6
         try clear c7
         try clear p7
         try clear q7
         try clear hx7
         try clear c8
         try clear c9
         try clear c10
         try clear c11
         try clear c11b0
         try clear c12
         try clear c12b0
         try clear c13
         try clear c13b0
         try clear p14
         try clear q14
         try clear hx14
         try clear c15
         try clear c15b0
         try clear c15b1
         try clear c17
         try clear c17b0
         try clear p18
         try clear q18
         try clear hx18
         try clear c20
         try clear c23
         try clear c23b0
         try clear c23b1
         try clear c24
         try clear c24b0
         try clear c24b1
         try clear c27
         try clear c29
         try clear c29b0
         try clear c29b1
         try clear c30
         try clear c30b0
         try clear c30b1
         try clear c33
         try clear c35
         try clear c35b0
         try clear c35b1
         try clear c40
         try clear c45
         try clear c45b0
         try clear c45b1
         try clear c47
         try clear c50
         try clear c52
         try clear c55
         try clear c58
         try clear c58b0
         try clear c58b1
         try clear c59
         try clear c59b0
         try clear c59b1
         try clear c60
         try clear c60b0
         try clear c62
         try clear c63
         try clear p64
         try clear c65
         try clear c68
         try clear c69
         try clear c70
         try clear c71
         try clear c75
         try clear c76
         try clear c77
         try clear c77b0
         try clear c78
         try clear c78b0
         try clear p79
         try clear q79
         try clear hx79
         try clear c80
         try clear c80b0
         try clear c80b1
         try clear c82
         try clear c83
         try clear c87
         try clear c90
         try clear c91
         try clear c95
         try clear c98
         try clear c99
         try clear c100
         try clear c103
         try clear hcz100_0
         try clear hcz100_1
         try clear hcz100_2
         try clear hcz100_3
         try clear hcz102_0
         try clear hcz102_1
         try clear hcz102_2
         try clear hcz102_3
         try clear hcz104_0
         try clear hcz104_1
         try clear hcz104_2
         try clear hcz104_3
         try clear hcz28_0
         try clear hcz28_1
         try clear hcz28_2
         try clear hcz28_3
         try clear hcz34_0
         try clear hcz34_1
         try clear hcz34_2
         try clear hcz34_3
         try clear hcz41_0
         try clear hcz41_1
         try clear hcz41_2
         try clear hcz41_3
         try clear hcz48_0
         try clear hcz48_1
         try clear hcz48_2
         try clear hcz48_3
         try clear hcz53_0
         try clear hcz53_1
         try clear hcz53_2
         try clear hcz53_3
         try clear hcz64_0
         try clear hcz64_1
         try clear hcz64_2
         try clear hcz64_3
         try clear hcz66_0
         try clear hcz66_1
         try clear hcz66_2
         try clear hcz66_3
         try clear hcz72_0
         try clear hcz72_1
         try clear hcz72_2
         try clear hcz72_3
         try clear hcz74_0
         try clear hcz74_1
         try clear hcz74_2
         try clear hcz74_3
         try clear hcz76_0
         try clear hcz76_1
         try clear hcz76_2
         try clear hcz76_3
         try clear hcz84_0
         try clear hcz84_1
         try clear hcz84_2
         try clear hcz84_3
         try clear hcz86_0
         try clear hcz86_1
         try clear hcz86_2
         try clear hcz86_3
         try clear hcz88_0
         try clear hcz88_1
         try clear hcz88_2
         try clear hcz88_3
         try clear hcz92_0
         try clear hcz92_1
         try clear hcz92_2
         try clear hcz92_3
         try clear hcz94_0
         try clear hcz94_1
         try clear hcz94_2
         try clear hcz94_3
         try clear hcz96_0
         try clear hcz96_1
         try clear hcz96_2
         try clear hcz96_3
         try clear hfz100_0
         try clear hfz100_1
         try clear hfz100_2
         try clear hfz100_3
         try clear hfz102_0
         try clear hfz102_1
         try clear hfz102_2
         try clear hfz102_3
         try clear hfz104_0
         try clear hfz104_1
         try clear hfz104_2
         try clear hfz104_3
         try clear hfz28_0
         try clear hfz28_1
         try clear hfz28_2
         try clear hfz28_3
         try clear hfz34_0
         try clear hfz34_1
         try clear hfz34_2
         try clear hfz34_3
         try clear hfz41_0
         try clear hfz41_1
         try clear hfz41_2
         try clear hfz41_3
         try clear hfz48_0
         try clear hfz48_1
         try clear hfz48_2
         try clear hfz48_3
         try clear hfz53_0
         try clear hfz53_1
         try clear hfz53_2
         try clear hfz53_3
         try clear hfz64_0
         try clear hfz64_1
         try clear hfz64_2
         try clear hfz64_3
         try clear hfz66_0
         try clear hfz66_1
         try clear hfz66_2
         try clear hfz66_3
         try clear hfz72_0
         try clear hfz72_1
         try clear hfz72_2
         try clear hfz72_3
         try clear hfz74_0
         try clear hfz74_1
         try clear hfz74_2
         try clear hfz74_3
         try clear hfz76_0
         try clear hfz76_1
         try clear hfz76_2
         try clear hfz76_3
         try clear hfz84_0
         try clear hfz84_1
         try clear hfz84_2
         try clear hfz84_3
         try clear hfz86_0
         try clear hfz86_1
         try clear hfz86_2
         try clear hfz86_3
         try clear hfz88_0
         try clear hfz88_1
         try clear hfz88_2
         try clear hfz88_3
         try clear hfz92_0
         try clear hfz92_1
         try clear hfz92_2
         try clear hfz92_3
         try clear hfz94_0
         try clear hfz94_1
         try clear hfz94_2
         try clear hfz94_3
         try clear hfz96_0
         try clear hfz96_1
         try clear hfz96_2
         try clear hfz96_3
         try clear p1
         try clear p14
         try clear p18
         try clear p2
         try clear p4
         try clear p6
         try clear p79
         try clear q1
         try clear q14
         try clear q18
         try clear q4
         try clear q79
         obtain ⟨x122_2,x620000_2,x620001_2,x620002_2,x620003_2,rfl,HA,HK2,HO_120,BK618,BK619,HB⟩:=hrel
         cases gk with
         | zero=>exact absurd HA.out (by simp [impl_lexOne.l0])
         | succ k2 =>
          have H:=HA.out
          clear HA
          simp only [impl_lexOne.l0] at H
          by_cases c108 : x122_2 < (t637.length : Int)
          ·rw [if_pos c108] at H
           have c108b0 : decide (x122_2 < (t637.length : Int)) = true:=decide_eq_true c108
           clear c108
           by_cases c109 : 0 ≤ x122_2
           ·rw [if_pos c109] at H
            have c109b0 : decide (0 ≤ x122_2) = true:=decide_eq_true c109
            clear c109
            by_cases c110 : x122_2 < (t637.length : Int)
            ·rw [if_pos c110] at H
             have c110b0 : decide (x122_2 < (t637.length : Int)) = true:=decide_eq_true c110
             clear c110
             replace H:=Option.bind_eq_some_iff.mp H
             obtain ⟨t641,A1110,H⟩:=H
             replace H : (if t641 = true then (some (7,rdOf ByteArray.empty t637 x122_2,0,0,((rdOf ByteArray.empty t637 x122_2).size : Int))) else (impl_lexOne.l0 k2 a0 t637 (t637.length : Int) (wrap64 (x122_2 + 1)))) = some (r1,r2,r3,r4,r5):=H
             have A111:=Aside0.mk A1110
             clear A1110
             by_cases c112 : t641 = true
             ·subst c112
              have H1 : (some (7,rdOf ByteArray.empty t637 x122_2,0,0,((rdOf ByteArray.empty t637 x122_2).size : Int))) = some (r1,r2,r3,r4,r5):=by rw [if_pos rfl] at H;exact H
              clear H
              have H:=H1
              clear H1
              simp only [Option.some.injEq,Prod.mk.injEq] at H
              obtain ⟨rfl,rfl,rfl,rfl,rfl⟩:=H
              have p640 : 0 ≤ (x122_2 : Int):=of_decide_eq_true (by first|(with_reducible assumption)|assumption)
              have q640 : x122_2 < (t637.length : Int):=of_decide_eq_true (by first|(with_reducible assumption)|assumption)
              obtain ⟨ad640,e640,hx640_0⟩:=Kd.at_string (Kd.R_reads' HO_120.out).2.2 x122_2 p640 q640
              cases e640
              replace p640:=eq_true p640
              replace q640:=eq_true q640
              go_wp2_with (first|((with_reducible refine gate_callee (f:=117) rfl ?_);refine goesL_ (some 128) rfl rfl Tryd.func117 (by kernel_rfl) rfl #[.string a0,.string (rdOf ByteArray.empty t637 x122_2)] rfl (by (try simp only [List.map_toArray,List.map_cons,List.map_nil]);first|done|rfl|(simp only [List.length_drop,List.length_take];rfl)) ?_;(with_reducible refine (strings_HasPrefix.calls a0 (rdOf ByteArray.empty t637 x122_2) true _ A111.out).mono ?_);rintro e w' ⟨rfl,⟨nd,rfl⟩⟩;refine ⟨_,rfl,?_⟩;(try (rw [drewN_self wr];generalize hq_ : World.drewN wr _ = wr;have n0_ : Aside0 (Kd.R Kd.string 9 wr w.heap.size (fun _=>True) (.slice (some ad640) t637.length co107) t637):=⟨by rw [← hq_];exact (by (with_reducible repeat (first|apply Kd.R_alloc|apply Kd.R_drewN|apply Kd.R_drew));exact HO_120.out)⟩;have n1_ : Aside0 (wr.heap[gb618]? = some (.cells #[.int .i64 a1_0,.string a1_1,.int .i64 a1_2,.int .i64 a1_3] 60 (0,0))):=⟨by rw [← hq_];exact (by (with_reducible repeat (first|refine blk_drewN ?_ _|refine blk_drew ?_|refine blk_alloc ?_ _));exact BK618.out)⟩;have n2_ : Aside0 (wr.heap[gb619]? = some (.cells #[.int .i64 x620000_2,.string x620001_2,.int .i64 x620002_2,.int .i64 x620003_2] 60 (0,0))):=⟨by rw [← hq_];exact (by (with_reducible repeat (first|refine blk_drewN ?_ _|refine blk_drew ?_|refine blk_alloc ?_ _));exact BK619.out)⟩;have n3_ : Aside0 (Below w.heap.size w wr):=⟨by rw [← hq_];exact (by repeat (first|(with_reducible first|exact HB.out|apply below_alloc|apply pw_below_drewN|apply below_drew1|refine below_set ?_ GE618.out|refine below_set ?_ GE619.out)|exact HB.out))⟩;clear HO_120 BK618 BK619 HB hq_;have HO_120:=n0_;have BK618:=n1_;have BK619:=n2_;have HB:=n3_;clear n0_ n1_ n2_ n3_));have hnb113:=NB619_618.out;have hnc113:=NB618_619.out;have hcz114_0 : wr.cell? ⟨gb619,0,none⟩ = some (.int .i64 x620000_2):=(blk_cell BK619.out 0).trans rfl;have hcz114_1 : wr.cell? ⟨gb619,1,none⟩ = some (.string x620001_2):=(blk_cell BK619.out 1).trans rfl;have hcz114_2 : wr.cell? ⟨gb619,2,none⟩ = some (.int .i64 x620002_2):=(blk_cell BK619.out 2).trans rfl;have hcz114_3 : wr.cell? ⟨gb619,3,none⟩ = some (.int .i64 x620003_2):=(blk_cell BK619.out 3).trans rfl;have hfz114_0:=blk_frozen BK619.out 0;have hfz114_1:=blk_frozen BK619.out 1;have hfz114_2:=blk_frozen BK619.out 2;have hfz114_3:=blk_frozen BK619.out 3))
              refine bodyPost_ret (results_ct rfl _ _ gb619 60 #[.int .i64 7,.string (rdOf ByteArray.empty t637 x122_2),.int .i64 0,.int .i64 0] (0,0) _ rfl (by (with_reducible repeat (first|refine blk_drewN ?_ _|refine blk_drew ?_|refine blk_alloc ?_ _));refine blk_put (cs:=#[.int .i64 7,.string (rdOf ByteArray.empty t637 x122_2),.int .i64 0,.int .i64 x620003_2]) ?_ 3 _ rfl;(with_reducible repeat (first|refine blk_drewN ?_ _|refine blk_drew ?_|refine blk_alloc ?_ _));refine blk_put (cs:=#[.int .i64 7,.string (rdOf ByteArray.empty t637 x122_2),.int .i64 x620002_2,.int .i64 x620003_2]) ?_ 2 _ rfl;(with_reducible repeat (first|refine blk_drewN ?_ _|refine blk_drew ?_|refine blk_alloc ?_ _));refine blk_put (cs:=#[.int .i64 7,.string x620001_2,.int .i64 x620002_2,.int .i64 x620003_2]) ?_ 1 _ rfl;(with_reducible repeat (first|refine blk_drewN ?_ _|refine blk_drew ?_|refine blk_alloc ?_ _));refine blk_put (cs:=#[.int .i64 x620000_2,.string x620001_2,.int .i64 x620002_2,.int .i64 x620003_2]) ?_ 0 _ rfl;(with_reducible repeat (first|refine blk_drewN ?_ _|refine blk_drew ?_|refine blk_alloc ?_ _));exact BK619.out) Tryd.underlying60 rfl (by kernel_rfl)) rfl ?_
              exact ⟨by first|rfl|(simp [errW_none,errW_some] <;> rfl)|(simp [*,errW_none,errW_some] <;> rfl),by repeat (first|(with_reducible first|exact HB.out|apply below_alloc|apply pw_below_drewN|apply below_drew1|refine below_set ?_ GE618.out|refine below_set ?_ GE619.out)|exact HB.out)⟩
             ·replace c112:=Bool.eq_false_iff.mpr c112
              subst c112
              have H1 : (impl_lexOne.l0 k2 a0 t637 (t637.length : Int) (wrap64 (x122_2 + 1))) = some (r1,r2,r3,r4,r5):=by rw [if_neg (show ¬ (false = true) by decide)] at H;exact H
              clear H
              have H:=H1
              clear H1
              have H':=Aside0.mk H
              clear H
              have p640 : 0 ≤ (x122_2 : Int):=of_decide_eq_true (by first|(with_reducible assumption)|assumption)
              have q640 : x122_2 < (t637.length : Int):=of_decide_eq_true (by first|(with_reducible assumption)|assumption)
              obtain ⟨ad640,e640,hx640_0⟩:=Kd.at_string (Kd.R_reads' HO_120.out).2.2 x122_2 p640 q640
              cases e640
              replace p640:=eq_true p640
              replace q640:=eq_true q640
              go_wp2_with (first|((with_reducible refine gate_callee (f:=117) rfl ?_);refine goesL_ (some 128) rfl rfl Tryd.func117 (by kernel_rfl) rfl #[.string a0,.string (rdOf ByteArray.empty t637 x122_2)] rfl (by (try simp only [List.map_toArray,List.map_cons,List.map_nil]);first|done|rfl|(simp only [List.length_drop,List.length_take];rfl)) ?_;(with_reducible refine (strings_HasPrefix.calls a0 (rdOf ByteArray.empty t637 x122_2) false _ A111.out).mono ?_);rintro e w' ⟨rfl,⟨nd,rfl⟩⟩;refine ⟨_,rfl,?_⟩))
              go_roundg k2
              case measure=>have:=HJ41.out;have:=HK2.out;omega
              case rel=>exact ⟨(wrap64 (x122_2 + 1)),(x620000_2),(x620001_2),(x620002_2),(x620003_2),(by first|rfl|(simp;done)|(simp [*];done)),H',⟨by have:=HJ41.out;have:=HK2.out;omega⟩,⟨by (with_reducible repeat (first|apply Kd.R_alloc|apply Kd.R_drewN|apply Kd.R_drew));exact HO_120.out⟩,⟨by (with_reducible repeat (first|refine blk_drewN ?_ _|refine blk_drew ?_|refine blk_alloc ?_ _));exact BK618.out⟩,⟨by (with_reducible repeat (first|refine blk_drewN ?_ _|refine blk_drew ?_|refine blk_alloc ?_ _));exact BK619.out⟩,⟨by repeat (first|(with_reducible first|exact HB.out|apply below_alloc|apply pw_below_drewN|apply below_drew1|refine below_set ?_ GE618.out|refine below_set ?_ GE619.out)|exact HB.out)⟩⟩
            ·rw [if_neg c110] at H
             exact absurd H (by simp)
           ·rw [if_neg c109] at H
            exact absurd H (by simp)
          ·rw [if_neg c108] at H
           have c108b0 : decide (x122_2 < (t637.length : Int)) = false:=decide_eq_false c108
           clear c108
           simp only [Option.some.injEq,Prod.mk.injEq] at H
           obtain ⟨rfl,rfl,rfl,rfl,rfl⟩:=H
           have hnb115:=NB619_618.out
           have hnc115:=NB618_619.out
           have hcz116_0 : wr.cell? ⟨gb619,0,none⟩ = some (.int .i64 x620000_2):=(blk_cell BK619.out 0).trans rfl
           have hcz116_1 : wr.cell? ⟨gb619,1,none⟩ = some (.string x620001_2):=(blk_cell BK619.out 1).trans rfl
           have hcz116_2 : wr.cell? ⟨gb619,2,none⟩ = some (.int .i64 x620002_2):=(blk_cell BK619.out 2).trans rfl
           have hcz116_3 : wr.cell? ⟨gb619,3,none⟩ = some (.int .i64 x620003_2):=(blk_cell BK619.out 3).trans rfl
           have hfz116_0:=blk_frozen BK619.out 0
           have hfz116_1:=blk_frozen BK619.out 1
           have hfz116_2:=blk_frozen BK619.out 2
           have hfz116_3:=blk_frozen BK619.out 3
           go_wp2
           refine bodyPost_ret (results_ct rfl _ _ gb619 60 #[.int .i64 0,.string (⟨#[]⟩ : ByteArray),.int .i64 0,.int .i64 0] (0,0) _ rfl (by (with_reducible repeat (first|refine blk_drewN ?_ _|refine blk_drew ?_|refine blk_alloc ?_ _));refine blk_put (cs:=#[.int .i64 0,.string (⟨#[]⟩ : ByteArray),.int .i64 0,.int .i64 x620003_2]) ?_ 3 _ rfl;(with_reducible repeat (first|refine blk_drewN ?_ _|refine blk_drew ?_|refine blk_alloc ?_ _));refine blk_put (cs:=#[.int .i64 0,.string (⟨#[]⟩ : ByteArray),.int .i64 x620002_2,.int .i64 x620003_2]) ?_ 2 _ rfl;(with_reducible repeat (first|refine blk_drewN ?_ _|refine blk_drew ?_|refine blk_alloc ?_ _));refine blk_put (cs:=#[.int .i64 0,.string x620001_2,.int .i64 x620002_2,.int .i64 x620003_2]) ?_ 1 _ rfl;(with_reducible repeat (first|refine blk_drewN ?_ _|refine blk_drew ?_|refine blk_alloc ?_ _));refine blk_put (cs:=#[.int .i64 x620000_2,.string x620001_2,.int .i64 x620002_2,.int .i64 x620003_2]) ?_ 0 _ rfl;(with_reducible repeat (first|refine blk_drewN ?_ _|refine blk_drew ?_|refine blk_alloc ?_ _));exact BK619.out) Tryd.underlying60 rfl (by kernel_rfl)) rfl ?_
           exact ⟨by first|rfl|(simp [errW_none,errW_some] <;> rfl)|(simp [*,errW_none,errW_some] <;> rfl),by repeat (first|(with_reducible first|exact HB.out|apply below_alloc|apply pw_below_drewN|apply below_drew1|refine below_set ?_ GE618.out|refine below_set ?_ GE619.out)|exact HB.out)⟩
 ·rw [if_neg c3] at H
  exact absurd H (by simp)
def impl_Lex.l0 : Nat → ByteArray → List (S60) → Int → Int → ByteArray → Int → Int → Option ((List (S60)) × Int)
 | 0,_,_,_,_,_,_,_=>none
 | k + 1,x0,x4,x6,x646000,x646001,x646002,x646003=>if x6 < (x0.size : Int) then (if 0 ≤ x6 then ((impl_isSpace.f (bt x0 x6)).bind fun t646=>(if t646 = true then (impl_Lex.l0 k x0 x4 (wrap64 (x6 + 1)) x646000 x646001 x646002 x646003) else (if (bt x0 x6) = 35 then ((impl_run.f x0 x6 77).bind fun t647=>(impl_Lex.l0 k x0 x4 (wrap64 (x6 + t647)) x646000 x646001 x646002 x646003)) else (if x6 ≤ (x0.size : Int) then ((impl_lexOne.f k (x0.extract (x6 : Int).toNat x0.size) x646000 x646001 x646002 x646003).bind fun bt648=>(if bt648.2.2.2.2 = 0 then (some (([] : List (S60)),x6)) else (if x4.length < 3518437208883 then (impl_Lex.l0 k x0 (x4 ++ [(⟨bt648.1,bt648.2.1,bt648.2.2.1,x6⟩ : S60)]) (wrap64 (x6 + bt648.2.2.2.2)) bt648.1 bt648.2.1 bt648.2.2.1 x6) else (none)))) else (none))))) else (none)) else (some (x4,(-1)))
def impl_Lex.f (k : Nat) (a0 : ByteArray) : Option ((List (S60)) × Int):=if (a0.size : Int) > 4000 then (some (([] : List (S60)),0)) else (impl_Lex.l0 k a0 (([] : List (S60))) 0 0 (⟨#[]⟩ : ByteArray) 0 0)
theorem impl_Lex.mono_l : ∀ k,(∀ y0 y1 y2 y3 y4 y5 y6,LeO (impl_Lex.l0 k y0 y1 y2 y3 y4 y5 y6) (impl_Lex.l0 (k + 1) y0 y1 y2 y3 y4 y5 y6))
 | 0=>fun _ _ _ _ _ _ _ r h=>by simp [impl_Lex.l0] at h
 | k + 1=>by
  have ih0:=impl_Lex.mono_l k
  ·intro y0 y1 y2 y3 y4 y5 y6
   unfold impl_Lex.l0
   repeat' first
   | (with_reducible exact ih0 _ _ _ _ _ _ _)
   | (with_reducible exact impl_lexOne.mono _ _ _ _ _ _)
   | (with_reducible exact LeO.refl _)
   | (with_reducible exact LeO.none _)
   | (with_reducible refine LeO.ite ?_ ?_)
   | (with_reducible refine LeO.bind ?_ (fun _=>?_))
   | exact ih0 _ _ _ _ _ _ _
   | exact impl_lexOne.mono _ _ _ _ _ _
   | exact LeO.none _
   | refine LeO.ite ?_ ?_
   | refine LeO.bind ?_ (fun _=>?_)
theorem impl_Lex.mono : ∀ a0 k,LeO (impl_Lex.f k a0) (impl_Lex.f (k + 1) a0):=by
 intro a0 k
 have ih0:=impl_Lex.mono_l k
 unfold impl_Lex.f
 repeat' first
   | (with_reducible exact ih0 _ _ _ _ _ _ _)
   | (with_reducible exact impl_lexOne.mono _ _ _ _ _ _)
   | (with_reducible exact LeO.refl _)
   | (with_reducible exact LeO.none _)
   | (with_reducible refine LeO.ite ?_ ?_)
   | (with_reducible refine LeO.bind ?_ (fun _=>?_))
   | exact ih0 _ _ _ _ _ _ _
   | exact impl_lexOne.mono _ _ _ _ _ _
   | exact LeO.none _
   | refine LeO.ite ?_ ?_
   | refine LeO.bind ?_ (fun _=>?_)
def impl_Lex.T10 : Bool × List (List Nat × List Nat):=(true,[([],[]),([],[]),([0,1],[0,1]),([],[]),([2,3],[2,3]),([4],[4]),([5],[5]),([5],[5]),([],[]),([8,6,4,0,1,2,3,4,5,6,8],[6,8]),([7,9,0,1,2,3,4,5,6,7,8,9],[7])])
def impl_Lex.B10 : List Nat:=[0,0,3,0,15,31,63,63,0,383,1023]
theorem impl_Lex.tab10 : rtab .any (opsOf Tryd.f39 10) = impl_Lex.T10:=by kernel_rfl
theorem impl_Lex.bits10 : waitsOk impl_Lex.T10.2 impl_Lex.B10 = true:=by kernel_rfl
def impl_Lex.T14 : Bool × List (List Nat × List Nat):=(true,[([],[]),([],[]),([1],[1]),([0,2],[0,2]),([],[]),([],[]),([],[]),([5,6],[5,6]),([3,3,0,1,2,3],[0,3]),([4,8,0,1,2,3,4,8],[4]),([7,9,0,1,2,3,4,5,6,7,8,9],[5,7])])
def impl_Lex.B14 : List Nat:=[0,0,2,7,0,0,0,96,15,287,1023]
theorem impl_Lex.tab14 : rtab .any (opsOf Tryd.f39 14) = impl_Lex.T14:=by kernel_rfl
theorem impl_Lex.bits14 : waitsOk impl_Lex.T14.2 impl_Lex.B14 = true:=by kernel_rfl
end Go.Proofs.YtnfiljnncpieoaaDoor.Q
