/- What the row of FnAriths rests on, and the row: for every input that can be read the call returns true and the input reads as it did; condition: what the row lists of the library reads as the program lays it. -/
import Derived.Test.YtnfiljnncpieoaaGreatDoorKFnArithsd
set_option linter.unusedVariables false
set_option linter.unusedSimpArgs false
namespace Go.Proofs.YtnfiljnncpieoaaGreatDoor.Q
open Go.RowKit Go.Proofs.YtnfiljnncpieoaaGreatDoorW.PrintWords Go.Proofs.YtnfiljnncpieoaaGreatDoorW.PrintLast Go.Proofs.YtnfiljnncpieoaaGreatDoorW.PrintMore
attribute [local go_sem] max2_int min2_int max_two min_two max_three min_three max_four min_four   -- for this text's walks alone
set_option linter.unusedVariables false
set_option linter.unusedSimpArgs false
set_option maxHeartbeats 8000000 in
set_option maxRecDepth 100000 in
theorem impl_DecText.calls (k : Nat) (a0 : Int) (r : ByteArray) (w : World) (h : impl_DecText.f k a0 = some r) (hT : Tabs w:=by first|assumption|(refine Aside0.out (p:=Tabs _) ?_;assumption)|(refine Tabs.below (w:=?ww) (Aside0.out ?ha) ?hb;(case ha=>assumption);(case hb=>repeat (first|(with_reducible first|exact Below.refl _ _|(refine Aside0.out ?_;assumption)|apply below_alloc|apply pw_below_drewN|apply below_drew1|(refine below_set ?_ (Aside0.out ?_);(rotate_left;assumption)))|(refine Aside0.out ?_;assumption))))|(refine Tabs.drewN (w:=?ww) (Aside0.out ?ha) _;(case ha=>assumption))) :
  Calls Tryz.prog 83 #[.int .i64 a0] w fun e w'=>e = .returned (.string r) ∧ Below w.heap.size w w':=by
 have HT_:=Aside0.mk hT
 clear hT
 have HB:=Aside0.mk (Below.refl w.heap.size w)
 have H : ((impl_DecOk.f a0).bind fun t351=>(if t351 = true then (if a0 < 0 then (impl_DecText.j0 k (mx a0 (wrap64 (-a0))) (⟨#[45]⟩ : ByteArray)) else (impl_DecText.j0 k (mx a0 (wrap64 (-a0))) (⟨#[]⟩ : ByteArray))) else (some (⟨#[]⟩ : ByteArray)))) = some r:=h
 clear h
 replace H:=Option.bind_eq_some_iff.mp H
 obtain ⟨t351,A20,H⟩:=H
 replace H : (if t351 = true then (if a0 < 0 then (impl_DecText.j0 k (mx a0 (wrap64 (-a0))) (⟨#[45]⟩ : ByteArray)) else (impl_DecText.j0 k (mx a0 (wrap64 (-a0))) (⟨#[]⟩ : ByteArray))) else (some (⟨#[]⟩ : ByteArray))) = some r:=H
 have A2:=Aside0.mk A20
 clear A20
 by_cases c3 : t351 = true
 ·subst c3
  have H1 : (if a0 < 0 then (impl_DecText.j0 k (mx a0 (wrap64 (-a0))) (⟨#[45]⟩ : ByteArray)) else (impl_DecText.j0 k (mx a0 (wrap64 (-a0))) (⟨#[]⟩ : ByteArray))) = some r:=by rw [if_pos rfl] at H;exact H
  clear H
  have H:=H1
  clear H1
  obtain ⟨ji4,hji4⟩ : ∃ j_ : Int,(mx a0 (wrap64 (-a0))) = j_:=⟨_,rfl⟩
  replace H : (if a0 < 0 then (impl_DecText.j0 k ji4 (⟨#[45]⟩ : ByteArray)) else (impl_DecText.j0 k ji4 (⟨#[]⟩ : ByteArray))) = some r:=by first|(rw [hji4] at H;exact H)|(simp only [hji4] at H ⊢;exact H)
  (try rw [hji4] at A2)
  have hji4_ : (if a0 < (wrap64 (-a0)) then (wrap64 (-a0)) else a0) = ji4:=hji4
  have HC5:=Aside0.mk H
  clear H
  go_enter Tryz.func83,Tryz.ntmps83
  go_upto_if 14 with (first|((with_reducible refine gate_callee (f:=43) rfl ?_);refine goesL_ (some 7) rfl rfl Tryz.func43 (by kernel_rfl) rfl #[.int .i64 a0] rfl (by (try simp only [List.map_toArray,List.map_cons,List.map_nil]);first|done|rfl|(simp only [List.length_drop,List.length_take];rfl)) ?_;(with_reducible refine (impl_DecOk.calls a0 true _ A2.out).mono ?_);rintro e w' ⟨rfl,⟨nd,rfl⟩⟩;refine ⟨_,rfl,?_⟩))
  (try simp only [Act.put,List.setIfInBounds_toArray,List.set_cons_zero,List.set_cons_succ])
  go_cut [4] (fun v4 wc=>∃ (kq : Nat) (x4_4 : ByteArray),v4 = .string x4_4 ∧ Aside0 (impl_DecText.j0 kq ji4 x4_4 = some r) ∧ Aside0 (kq ≤ k) ∧ Aside0 (Below w.heap.size w wc))
  case first =>
   have H:=HC5.out
   clear HC5
   by_cases c6 : a0 < 0
   ·rw [if_pos c6] at H
    have c6b0 : decide (a0 < 0) = true:=decide_eq_true c6
    clear c6
    (first|rw [c6b0]|(simp only [i64_w,i32_w];rw [c6b0])|skip)
    have H':=Aside0.mk H
    clear H
    go_wp2
    go_meet
    case rel=>exact ⟨_,((⟨#[45]⟩ : ByteArray)),(by first|rfl|(simp;done)|(simp [*];done)),H',⟨by first|omega|exact Nat.le_refl _⟩,⟨by repeat (first|(with_reducible first|exact HB.out|apply below_alloc|apply pw_below_drewN|apply below_drew1)|exact HB.out)⟩⟩
   ·rw [if_neg c6] at H
    have c6b0 : decide (a0 < 0) = false:=decide_eq_false c6
    clear c6
    (first|rw [c6b0]|(simp only [i64_w,i32_w];rw [c6b0])|skip)
    have H':=Aside0.mk H
    clear H
    go_wp2
    go_meet
    case rel=>exact ⟨_,((⟨#[]⟩ : ByteArray)),(by first|rfl|(simp;done)|(simp [*];done)),H',⟨by first|omega|exact Nat.le_refl _⟩,⟨by repeat (first|(with_reducible first|exact HB.out|apply below_alloc|apply pw_below_drewN|apply below_drew1)|exact HB.out)⟩⟩
  case rest =>
   clear HC5
   try clear p2
   try clear c3
   try clear c4
   try clear c6
   try clear c6b0
   try clear p6
   obtain ⟨kq,x4_4,rfl,HA,HJ4,HB⟩:=hcut
   cases kq with
   | zero=>exact absurd HA.out (by simp [impl_DecText.j0])
   | succ kj4 =>
    have H:=HA.out
    clear HA
    simp only [impl_DecText.j0] at H
    replace H:=Option.bind_eq_some_iff.mp H
    obtain ⟨t352,A70,H⟩:=H
    replace H : (if x4_4.size + t352.size ≤ 9223372036854775807 then (if (Int.tmod ji4 1000000) > 0 then ((strconv_Itoa.f (wrap64 (1000000 + (Int.tmod ji4 1000000)))).bind fun t353=>(if 1 ≤ (t353.size : Int) then ((strings_TrimRight.f kj4 (t353.extract 1 t353.size) (⟨#[48]⟩ : ByteArray)).bind fun t354=>(if 1 + t354.size ≤ 9223372036854775807 then (if (x4_4 ++ t352).size + ((⟨#[46]⟩ : ByteArray) ++ t354).size ≤ 9223372036854775807 then (some ((x4_4 ++ t352) ++ ((⟨#[46]⟩ : ByteArray) ++ t354))) else (none)) else (none))) else (none))) else (some (x4_4 ++ t352))) else (none)) = some r:=H
    have A7:=Aside0.mk A70
    clear A70
    by_cases c8 : x4_4.size + t352.size ≤ 9223372036854775807
    ·rw [if_pos c8] at H
     have c8b0:=eq_true c8
     have c8b1 : decide (x4_4.size + t352.size ≤ 9223372036854775807) = true:=decide_eq_true c8
     try have c8b2 : (9223372036854775807 < x4_4.size + t352.size) = False:=eq_false (Nat.not_lt.2 c8)
     by_cases c9 : (Int.tmod ji4 1000000) > 0
     ·rw [if_pos c9] at H
      have c9b0 : decide (0 < (Int.tmod ji4 1000000)) = true:=decide_eq_true c9
      clear c9
      replace H:=Option.bind_eq_some_iff.mp H
      obtain ⟨t353,A100,H⟩:=H
      replace H : (if 1 ≤ (t353.size : Int) then ((strings_TrimRight.f kj4 (t353.extract 1 t353.size) (⟨#[48]⟩ : ByteArray)).bind fun t354=>(if 1 + t354.size ≤ 9223372036854775807 then (if (x4_4 ++ t352).size + ((⟨#[46]⟩ : ByteArray) ++ t354).size ≤ 9223372036854775807 then (some ((x4_4 ++ t352) ++ ((⟨#[46]⟩ : ByteArray) ++ t354))) else (none)) else (none))) else (none)) = some r:=H
      have A10:=Aside0.mk A100
      clear A100
      by_cases c11 : 1 ≤ (t353.size : Int)
      ·rw [if_pos c11] at H
       have c11b0:=eq_true c11
       have c11b1 : decide (1 ≤ (t353.size : Int)) = true:=decide_eq_true c11
       clear c11
       replace H:=Option.bind_eq_some_iff.mp H
       obtain ⟨t354,A120,H⟩:=H
       replace H : (if 1 + t354.size ≤ 9223372036854775807 then (if (x4_4 ++ t352).size + ((⟨#[46]⟩ : ByteArray) ++ t354).size ≤ 9223372036854775807 then (some ((x4_4 ++ t352) ++ ((⟨#[46]⟩ : ByteArray) ++ t354))) else (none)) else (none)) = some r:=H
       have A12:=Aside0.mk A120
       clear A120
       by_cases c13 : 1 + t354.size ≤ 9223372036854775807
       ·rw [if_pos c13] at H
        have c13b0:=eq_true c13
        have c13b1 : decide (1 + t354.size ≤ 9223372036854775807) = true:=decide_eq_true c13
        try have c13b2 : (9223372036854775807 < 1 + t354.size) = False:=eq_false (Nat.not_lt.2 c13)
        by_cases c14 : (x4_4 ++ t352).size + ((⟨#[46]⟩ : ByteArray) ++ t354).size ≤ 9223372036854775807
        ·rw [if_pos c14] at H
         have c14b0:=eq_true c14
         have c14b1 : decide ((x4_4 ++ t352).size + ((⟨#[46]⟩ : ByteArray) ++ t354).size ≤ 9223372036854775807) = true:=decide_eq_true c14
         try have c14b2 : (9223372036854775807 < (x4_4 ++ t352).size + ((⟨#[46]⟩ : ByteArray) ++ t354).size) = False:=eq_false (Nat.not_lt.2 c14)
         try (have c14b4:=c14b2;simp only [ByteArray.size_append] at c14b4)
         obtain rfl:=Option.some.inj H
         go_wp2_with (first|((with_reducible refine gate_callee (f:=97) rfl ?_);refine goesL_ (some 18) rfl rfl Tryz.func97 (by kernel_rfl) rfl #[.int .i64 (wrap64 (Int.tdiv ji4 1000000))] rfl (by (try simp only [List.map_toArray,List.map_cons,List.map_nil]);first|done|(simp only [hji4];rfl)|rfl|(simp only [List.length_drop,List.length_take];rfl)) ?_;(with_reducible refine (strconv_Itoa.calls (wrap64 (Int.tdiv ji4 1000000)) t352 _ A7.out).mono ?_);rintro e w15 ⟨rfl,hb⟩;refine ⟨_,rfl,?_⟩;have n0_:=Aside0.mk (below_step (by repeat (first|(with_reducible first|exact HB.out|apply below_alloc|apply pw_below_drewN|apply below_drew1)|exact HB.out)) hb);clear HB;have HB:=n0_;clear n0_;(try clear hb);(try clear hb2);(try clear hk);(try clear hi))|((with_reducible refine gate_callee (f:=97) rfl ?_);refine goesL_ (some 27) rfl rfl Tryz.func97 (by kernel_rfl) rfl #[.int .i64 (wrap64 (1000000 + (Int.tmod ji4 1000000)))] rfl (by (try simp only [List.map_toArray,List.map_cons,List.map_nil]);first|done|(simp only [hji4];rfl)|rfl|(simp only [List.length_drop,List.length_take];rfl)) ?_;(with_reducible refine (strconv_Itoa.calls (wrap64 (1000000 + (Int.tmod ji4 1000000))) t353 _ A10.out).mono ?_);rintro e w16 ⟨rfl,hb⟩;refine ⟨_,rfl,?_⟩;have n0_:=Aside0.mk (below_step (by repeat (first|(with_reducible first|exact HB.out|apply below_alloc|apply pw_below_drewN|apply below_drew1)|exact HB.out)) hb);clear HB;have HB:=n0_;clear n0_;(try clear hb);(try clear hb2);(try clear hk);(try clear hi))|((with_reducible refine gate_callee (f:=98) rfl ?_);refine goesL_ (some 29) rfl rfl Tryz.func98 (by kernel_rfl) rfl #[.string (t353.extract 1 t353.size),.string (⟨#[48]⟩ : ByteArray)] rfl (by (try simp only [List.map_toArray,List.map_cons,List.map_nil]);first|done|rfl|(simp only [List.length_drop,List.length_take];rfl)) ?_;(with_reducible refine (strings_TrimRight.calls kj4 (t353.extract 1 t353.size) (⟨#[48]⟩ : ByteArray) t354 _ A12.out).mono ?_);rintro e w17 ⟨rfl,hb⟩;refine ⟨_,rfl,?_⟩;have n0_:=Aside0.mk (below_step (by repeat (first|(with_reducible first|exact HB.out|apply below_alloc|apply pw_below_drewN|apply below_drew1)|exact HB.out)) hb);clear HB;have HB:=n0_;clear n0_;(try clear hb);(try clear hb2);(try clear hk);(try clear hi)))
         go_ret
         exact ⟨by first|rfl|(simp [errW_none,errW_some] <;> rfl)|(simp only [← hji4];first|rfl|(simp [errW_none,errW_some] <;> rfl))|(simp [*,errW_none,errW_some] <;> rfl),by repeat (first|(with_reducible first|exact HB.out|apply below_alloc|apply pw_below_drewN|apply below_drew1)|exact HB.out)⟩
        ·rw [if_neg c14] at H
         exact absurd H (by simp)
       ·rw [if_neg c13] at H
        exact absurd H (by simp)
      ·rw [if_neg c11] at H
       exact absurd H (by simp)
     ·rw [if_neg c9] at H
      have c9b0 : decide (0 < (Int.tmod ji4 1000000)) = false:=decide_eq_false c9
      clear c9
      obtain rfl:=Option.some.inj H
      go_wp2_with (first|((with_reducible refine gate_callee (f:=97) rfl ?_);refine goesL_ (some 18) rfl rfl Tryz.func97 (by kernel_rfl) rfl #[.int .i64 (wrap64 (Int.tdiv ji4 1000000))] rfl (by (try simp only [List.map_toArray,List.map_cons,List.map_nil]);first|done|(simp only [hji4];rfl)|rfl|(simp only [List.length_drop,List.length_take];rfl)) ?_;(with_reducible refine (strconv_Itoa.calls (wrap64 (Int.tdiv ji4 1000000)) t352 _ A7.out).mono ?_);rintro e w18 ⟨rfl,hb⟩;refine ⟨_,rfl,?_⟩;have n0_:=Aside0.mk (below_step (by repeat (first|(with_reducible first|exact HB.out|apply below_alloc|apply pw_below_drewN|apply below_drew1)|exact HB.out)) hb);clear HB;have HB:=n0_;clear n0_;(try clear hb);(try clear hb2);(try clear hk);(try clear hi)))
      go_ret
      exact ⟨by first|rfl|(simp [errW_none,errW_some] <;> rfl)|(simp only [← hji4];first|rfl|(simp [errW_none,errW_some] <;> rfl))|(simp [*,errW_none,errW_some] <;> rfl),by repeat (first|(with_reducible first|exact HB.out|apply below_alloc|apply pw_below_drewN|apply below_drew1)|exact HB.out)⟩
    ·rw [if_neg c8] at H
     exact absurd H (by simp)
 ·replace c3:=Bool.eq_false_iff.mpr c3
  subst c3
  have H1 : (some (⟨#[]⟩ : ByteArray)) = some r:=by rw [if_neg (show ¬ (false = true) by decide)] at H;exact H
  clear H
  have H:=H1
  clear H1
  obtain rfl:=Option.some.inj H
  go_enter Tryz.func83,Tryz.ntmps83
  go_wp2_with (first|((with_reducible refine gate_callee (f:=43) rfl ?_);refine goesL_ (some 7) rfl rfl Tryz.func43 (by kernel_rfl) rfl #[.int .i64 a0] rfl (by (try simp only [List.map_toArray,List.map_cons,List.map_nil]);first|done|rfl|(simp only [List.length_drop,List.length_take];rfl)) ?_;(with_reducible refine (impl_DecOk.calls a0 false _ A2.out).mono ?_);rintro e w' ⟨rfl,⟨nd,rfl⟩⟩;refine ⟨_,rfl,?_⟩))
  go_ret
  exact ⟨by first|rfl|(simp [errW_none,errW_some] <;> rfl)|(simp [*,errW_none,errW_some] <;> rfl),by repeat (first|(with_reducible first|exact HB.out|apply below_alloc|apply pw_below_drewN|apply below_drew1)|exact HB.out)⟩
def impl_Cell_str.f (k : Nat) (a0_0 : Int) (a0_1 : Int) (a0_2 : ByteArray) : Option (ByteArray):=if a0_0 = 1 then ((impl_DecText.f k a0_1).bind fun t356=>(some t356)) else (some a0_2)
theorem impl_Cell_str.mono : ∀ a0 a1 a2 k,LeO (impl_Cell_str.f k a0 a1 a2) (impl_Cell_str.f (k + 1) a0 a1 a2):=by
 intro a0 a1 a2 k
 unfold impl_Cell_str.f
 repeat' first
   | (with_reducible exact impl_DecText.mono _ _)
   | (with_reducible exact LeO.refl _)
   | (with_reducible exact LeO.none _)
   | (with_reducible refine LeO.ite ?_ ?_)
   | (with_reducible refine LeO.bind ?_ (fun _=>?_))
   | exact impl_DecText.mono _ _
   | exact LeO.none _
   | refine LeO.ite ?_ ?_
   | refine LeO.bind ?_ (fun _=>?_)
set_option maxHeartbeats 8000000 in
set_option maxRecDepth 100000 in
theorem impl_Cell_str.calls (k : Nat) (a0_0 : Int) (a0_1 : Int) (a0_2 : ByteArray) (r : ByteArray) (w : World) (h : impl_Cell_str.f k a0_0 a0_1 a0_2 = some r) (hT : Tabs w:=by first|assumption|(refine Aside0.out (p:=Tabs _) ?_;assumption)|(refine Tabs.below (w:=?ww) (Aside0.out ?ha) ?hb;(case ha=>assumption);(case hb=>repeat (first|(with_reducible first|exact Below.refl _ _|(refine Aside0.out ?_;assumption)|apply below_alloc|apply pw_below_drewN|apply below_drew1|(refine below_set ?_ (Aside0.out ?_);(rotate_left;assumption)))|(refine Aside0.out ?_;assumption))))|(refine Tabs.drewN (w:=?ww) (Aside0.out ?ha) _;(case ha=>assumption))) :
  Calls Tryz.prog 74 #[.agg #[.int .i64 a0_0,.int .i64 a0_1,.string a0_2]] w fun e w'=>e = .returned (.string r) ∧ Below w.heap.size w w':=by
 have HT_:=Aside0.mk hT
 clear hT
 have hu24:=Tryz.underlying24
 have HB:=Aside0.mk (Below.refl w.heap.size w)
 have H : (if a0_0 = 1 then ((impl_DecText.f k a0_1).bind fun t356=>(some t356)) else (some a0_2)) = some r:=h
 clear h
 by_cases c2 : a0_0 = 1
 ·rw [if_pos c2] at H
  have c2b0 : (a0_0 == 1) = true:=beq_iff_eq.mpr c2
  have c2b1 : (a0_0 != 1) = false:=bne_eq_false_iff_eq.mpr c2
  clear c2
  replace H:=Option.bind_eq_some_iff.mp H
  obtain ⟨t356,A30,H⟩:=H
  replace H : (some t356) = some r:=H
  have A3:=Aside0.mk A30
  clear A30
  obtain rfl:=Option.some.inj H
  go_enter Tryz.func74,Tryz.ntmps74
  go_wp2_with (first|((with_reducible refine gate_dst (N:=1) rfl ?_);refine box_event ?hg (N:=1) ?hd (cs:=#[.int .i64 a0_0,.int .i64 a0_1,.string a0_2]) (t:=24) ?hr ?_;(case hd=>rfl);(case hg=>rfl);(case hr=>first|(go_simp;done)|(go_simp;rfl));intro gb355 hg w4 hbox hb;have n0_:=Aside0.mk (below_step (by repeat (first|(with_reducible first|exact HB.out|apply below_alloc|apply pw_below_drewN|apply below_drew1)|exact HB.out)) hb);have n1_:=Aside0.mk (hbox);have n2_:=Aside0.mk ((by rw [hg];exact (below_size (by repeat (first|(with_reducible first|exact HB.out|apply below_alloc|apply pw_below_drewN|apply below_drew1)|exact HB.out))) : w.heap.size ≤ gb355));have n3_:=Aside0.mk ((by rw [hg];exact (below_size (by repeat (first|(with_reducible first|exact HB.out|apply below_alloc|apply pw_below_drewN|apply below_drew1)|exact HB.out))) : w.heap.size ≤ gb355));clear HB;have HB:=n0_;have BK355:=n1_;have GW355:=n2_;have GE355:=n3_;clear n0_ n1_ n2_ n3_;clear hb hbox hg;have hcz5_0 : w4.cell? ⟨gb355,0,none⟩ = some (.int .i64 a0_0):=(blk_cell BK355.out 0).trans rfl;have hcz5_1 : w4.cell? ⟨gb355,1,none⟩ = some (.int .i64 a0_1):=(blk_cell BK355.out 1).trans rfl;have hcz5_2 : w4.cell? ⟨gb355,2,none⟩ = some (.string a0_2):=(blk_cell BK355.out 2).trans rfl;have hfz5_0:=blk_frozen BK355.out 0;have hfz5_1:=blk_frozen BK355.out 1;have hfz5_2:=blk_frozen BK355.out 2)|((with_reducible refine gate_callee (f:=83) rfl ?_);refine goesL_ (some 8) rfl rfl Tryz.func83 (by kernel_rfl) rfl #[.int .i64 a0_1] rfl (by (try simp only [List.map_toArray,List.map_cons,List.map_nil]);first|done|rfl|(simp only [List.length_drop,List.length_take];rfl)) ?_;(with_reducible refine (impl_DecText.calls k a0_1 t356 _ A3.out).mono ?_);rintro e w6 ⟨rfl,hb⟩;refine ⟨_,rfl,?_⟩;have n0_:=Aside0.mk (blk_below (g:=gb355) (o:=.cells #[.int .i64 a0_0,.int .i64 a0_1,.string a0_2] 24 (0,0)) (by (with_reducible repeat (first|refine blk_drewN ?_ _|refine blk_drew ?_|refine blk_alloc ?_ _));exact BK355.out) hb);have n1_:=Aside0.mk (below_step (by repeat (first|(with_reducible first|exact HB.out|apply below_alloc|apply pw_below_drewN|apply below_drew1|refine below_set ?_ GE355.out)|exact HB.out)) hb);clear BK355;clear HB;have BK355:=n0_;have HB:=n1_;clear n0_ n1_;(try clear hb);(try clear hb2);(try clear hk);(try clear hi)))
  go_ret
  exact ⟨by first|rfl|(simp [errW_none,errW_some] <;> rfl)|(simp [*,errW_none,errW_some] <;> rfl),by repeat (first|(with_reducible first|exact HB.out|apply below_alloc|apply pw_below_drewN|apply below_drew1|refine below_set ?_ GE355.out)|exact HB.out)⟩
 ·rw [if_neg c2] at H
  have c2b0 : (a0_0 == 1) = false:=beq_eq_false_iff_ne.mpr c2
  have c2b1 : (a0_0 != 1) = true:=bne_iff_ne.mpr c2
  obtain rfl:=Option.some.inj H
  go_enter Tryz.func74,Tryz.ntmps74
  go_wp2_with (first|((with_reducible refine gate_dst (N:=1) rfl ?_);refine box_event ?hg (N:=1) ?hd (cs:=#[.int .i64 a0_0,.int .i64 a0_1,.string a0_2]) (t:=24) ?hr ?_;(case hd=>rfl);(case hg=>rfl);(case hr=>first|(go_simp;done)|(go_simp;rfl));intro gb355 hg w7 hbox hb;have n0_:=Aside0.mk (below_step (by repeat (first|(with_reducible first|exact HB.out|apply below_alloc|apply pw_below_drewN|apply below_drew1)|exact HB.out)) hb);have n1_:=Aside0.mk (hbox);have n2_:=Aside0.mk ((by rw [hg];exact (below_size (by repeat (first|(with_reducible first|exact HB.out|apply below_alloc|apply pw_below_drewN|apply below_drew1)|exact HB.out))) : w.heap.size ≤ gb355));have n3_:=Aside0.mk ((by rw [hg];exact (below_size (by repeat (first|(with_reducible first|exact HB.out|apply below_alloc|apply pw_below_drewN|apply below_drew1)|exact HB.out))) : w.heap.size ≤ gb355));clear HB;have HB:=n0_;have BK355:=n1_;have GW355:=n2_;have GE355:=n3_;clear n0_ n1_ n2_ n3_;clear hb hbox hg;have hcz8_0 : w7.cell? ⟨gb355,0,none⟩ = some (.int .i64 a0_0):=(blk_cell BK355.out 0).trans rfl;have hcz8_1 : w7.cell? ⟨gb355,1,none⟩ = some (.int .i64 a0_1):=(blk_cell BK355.out 1).trans rfl;have hcz8_2 : w7.cell? ⟨gb355,2,none⟩ = some (.string a0_2):=(blk_cell BK355.out 2).trans rfl;have hfz8_0:=blk_frozen BK355.out 0;have hfz8_1:=blk_frozen BK355.out 1;have hfz8_2:=blk_frozen BK355.out 2))
  go_ret
  exact ⟨by first|rfl|(simp [errW_none,errW_some] <;> rfl)|(simp [*,errW_none,errW_some] <;> rfl),by repeat (first|(with_reducible first|exact HB.out|apply below_alloc|apply pw_below_drewN|apply below_drew1|refine below_set ?_ GE355.out)|exact HB.out)⟩
def impl_ToStr.f (k : Nat) (a0_0 : Int) (a0_1 : Int) (a0_2 : ByteArray) : Option (ByteArray):=(impl_CellOk.f a0_0 a0_1 a0_2).bind fun t358=>(if t358 = true then ((impl_Cell_str.f k a0_0 a0_1 a0_2).bind fun t359=>(some t359)) else (some (⟨#[]⟩ : ByteArray)))
theorem impl_ToStr.mono : ∀ a0 a1 a2 k,LeO (impl_ToStr.f k a0 a1 a2) (impl_ToStr.f (k + 1) a0 a1 a2):=by
 intro a0 a1 a2 k
 unfold impl_ToStr.f
 repeat' first
   | (with_reducible exact impl_Cell_str.mono _ _ _ _)
   | (with_reducible exact LeO.refl _)
   | (with_reducible exact LeO.none _)
   | (with_reducible refine LeO.ite ?_ ?_)
   | (with_reducible refine LeO.bind ?_ (fun _=>?_))
   | exact impl_Cell_str.mono _ _ _ _
   | exact LeO.none _
   | refine LeO.ite ?_ ?_
   | refine LeO.bind ?_ (fun _=>?_)
set_option maxHeartbeats 8000000 in
set_option maxRecDepth 100000 in
theorem impl_ToStr.calls (k : Nat) (a0_0 : Int) (a0_1 : Int) (a0_2 : ByteArray) (r : ByteArray) (w : World) (h : impl_ToStr.f k a0_0 a0_1 a0_2 = some r) (hT : Tabs w:=by first|assumption|(refine Aside0.out (p:=Tabs _) ?_;assumption)|(refine Tabs.below (w:=?ww) (Aside0.out ?ha) ?hb;(case ha=>assumption);(case hb=>repeat (first|(with_reducible first|exact Below.refl _ _|(refine Aside0.out ?_;assumption)|apply below_alloc|apply pw_below_drewN|apply below_drew1|(refine below_set ?_ (Aside0.out ?_);(rotate_left;assumption)))|(refine Aside0.out ?_;assumption))))|(refine Tabs.drewN (w:=?ww) (Aside0.out ?ha) _;(case ha=>assumption))) :
  Calls Tryz.prog 40 #[.agg #[.int .i64 a0_0,.int .i64 a0_1,.string a0_2]] w fun e w'=>e = .returned (.string r) ∧ Below w.heap.size w w':=by
 have HT_:=Aside0.mk hT
 clear hT
 have hu24:=Tryz.underlying24
 have HB:=Aside0.mk (Below.refl w.heap.size w)
 have H : ((impl_CellOk.f a0_0 a0_1 a0_2).bind fun t358=>(if t358 = true then ((impl_Cell_str.f k a0_0 a0_1 a0_2).bind fun t359=>(some t359)) else (some (⟨#[]⟩ : ByteArray)))) = some r:=h
 clear h
 replace H:=Option.bind_eq_some_iff.mp H
 obtain ⟨t358,A20,H⟩:=H
 replace H : (if t358 = true then ((impl_Cell_str.f k a0_0 a0_1 a0_2).bind fun t359=>(some t359)) else (some (⟨#[]⟩ : ByteArray))) = some r:=H
 have A2:=Aside0.mk A20
 clear A20
 by_cases c3 : t358 = true
 ·subst c3
  have H1 : ((impl_Cell_str.f k a0_0 a0_1 a0_2).bind fun t359=>(some t359)) = some r:=by rw [if_pos rfl] at H;exact H
  clear H
  have H:=H1
  clear H1
  replace H:=Option.bind_eq_some_iff.mp H
  obtain ⟨t359,A40,H⟩:=H
  replace H : (some t359) = some r:=H
  have A4:=Aside0.mk A40
  clear A40
  obtain rfl:=Option.some.inj H
  go_enter Tryz.func40,Tryz.ntmps40
  go_wp2_with (first|((with_reducible refine gate_dst (N:=1) rfl ?_);refine box_event ?hg (N:=1) ?hd (cs:=#[.int .i64 a0_0,.int .i64 a0_1,.string a0_2]) (t:=24) ?hr ?_;(case hd=>rfl);(case hg=>rfl);(case hr=>first|(go_simp;done)|(go_simp;rfl));intro gb357 hg w5 hbox hb;have n0_:=Aside0.mk (below_step (by repeat (first|(with_reducible first|exact HB.out|apply below_alloc|apply pw_below_drewN|apply below_drew1)|exact HB.out)) hb);have n1_:=Aside0.mk (hbox);have n2_:=Aside0.mk ((by rw [hg];exact (below_size (by repeat (first|(with_reducible first|exact HB.out|apply below_alloc|apply pw_below_drewN|apply below_drew1)|exact HB.out))) : w.heap.size ≤ gb357));have n3_:=Aside0.mk ((by rw [hg];exact (below_size (by repeat (first|(with_reducible first|exact HB.out|apply below_alloc|apply pw_below_drewN|apply below_drew1)|exact HB.out))) : w.heap.size ≤ gb357));clear HB;have HB:=n0_;have BK357:=n1_;have GW357:=n2_;have GE357:=n3_;clear n0_ n1_ n2_ n3_;clear hb hbox hg;have hcz6_0 : w5.cell? ⟨gb357,0,none⟩ = some (.int .i64 a0_0):=(blk_cell BK357.out 0).trans rfl;have hcz6_1 : w5.cell? ⟨gb357,1,none⟩ = some (.int .i64 a0_1):=(blk_cell BK357.out 1).trans rfl;have hcz6_2 : w5.cell? ⟨gb357,2,none⟩ = some (.string a0_2):=(blk_cell BK357.out 2).trans rfl;have hfz6_0:=blk_frozen BK357.out 0;have hfz6_1:=blk_frozen BK357.out 1;have hfz6_2:=blk_frozen BK357.out 2)|((with_reducible refine gate_callee (f:=11) rfl ?_);refine goesL_ (some 4) rfl rfl Tryz.func11 (by kernel_rfl) rfl #[.agg #[.int .i64 a0_0,.int .i64 a0_1,.string a0_2]] rfl (by (try simp only [List.map_toArray,List.map_cons,List.map_nil]);first|done|rfl|(simp only [List.length_drop,List.length_take];rfl)) ?_;(with_reducible refine (impl_CellOk.calls a0_0 a0_1 a0_2 true _ A2.out).mono ?_);rintro e w7 ⟨rfl,hb⟩;refine ⟨_,rfl,?_⟩;have n0_:=Aside0.mk (blk_below (g:=gb357) (o:=.cells #[.int .i64 a0_0,.int .i64 a0_1,.string a0_2] 24 (0,0)) (by (with_reducible repeat (first|refine blk_drewN ?_ _|refine blk_drew ?_|refine blk_alloc ?_ _));exact BK357.out) hb);have n1_:=Aside0.mk (below_step (by repeat (first|(with_reducible first|exact HB.out|apply below_alloc|apply pw_below_drewN|apply below_drew1|refine below_set ?_ GE357.out)|exact HB.out)) hb);clear BK357;clear HB;have BK357:=n0_;have HB:=n1_;clear n0_ n1_;(try clear hb);(try clear hb2);(try clear hk);(try clear hi);have hcz8_0 : w7.cell? ⟨gb357,0,none⟩ = some (.int .i64 a0_0):=(blk_cell BK357.out 0).trans rfl;have hcz8_1 : w7.cell? ⟨gb357,1,none⟩ = some (.int .i64 a0_1):=(blk_cell BK357.out 1).trans rfl;have hcz8_2 : w7.cell? ⟨gb357,2,none⟩ = some (.string a0_2):=(blk_cell BK357.out 2).trans rfl;have hfz8_0:=blk_frozen BK357.out 0;have hfz8_1:=blk_frozen BK357.out 1;have hfz8_2:=blk_frozen BK357.out 2)|((with_reducible refine gate_callee (f:=74) rfl ?_);refine goesL_ (some 7) rfl rfl Tryz.func74 (by kernel_rfl) rfl #[.agg #[.int .i64 a0_0,.int .i64 a0_1,.string a0_2]] rfl (by (try simp only [List.map_toArray,List.map_cons,List.map_nil]);first|done|rfl|(simp only [List.length_drop,List.length_take];rfl)) ?_;(with_reducible refine (impl_Cell_str.calls k a0_0 a0_1 a0_2 t359 _ A4.out).mono ?_);rintro e w9 ⟨rfl,hb⟩;refine ⟨_,rfl,?_⟩;have n0_:=Aside0.mk (blk_below (g:=gb357) (o:=.cells #[.int .i64 a0_0,.int .i64 a0_1,.string a0_2] 24 (0,0)) (by (with_reducible repeat (first|refine blk_drewN ?_ _|refine blk_drew ?_|refine blk_alloc ?_ _));exact BK357.out) hb);have n1_:=Aside0.mk (below_step (by repeat (first|(with_reducible first|exact HB.out|apply below_alloc|apply pw_below_drewN|apply below_drew1|refine below_set ?_ GE357.out)|exact HB.out)) hb);clear BK357;clear HB;have BK357:=n0_;have HB:=n1_;clear n0_ n1_;(try clear hb);(try clear hb2);(try clear hk);(try clear hi)))
  go_ret
  exact ⟨by first|rfl|(simp [errW_none,errW_some] <;> rfl)|(simp [*,errW_none,errW_some] <;> rfl),by repeat (first|(with_reducible first|exact HB.out|apply below_alloc|apply pw_below_drewN|apply below_drew1|refine below_set ?_ GE357.out)|exact HB.out)⟩
 ·replace c3:=Bool.eq_false_iff.mpr c3
  subst c3
  have H1 : (some (⟨#[]⟩ : ByteArray)) = some r:=by rw [if_neg (show ¬ (false = true) by decide)] at H;exact H
  clear H
  have H:=H1
  clear H1
  obtain rfl:=Option.some.inj H
  go_enter Tryz.func40,Tryz.ntmps40
  go_wp2_with (first|((with_reducible refine gate_dst (N:=1) rfl ?_);refine box_event ?hg (N:=1) ?hd (cs:=#[.int .i64 a0_0,.int .i64 a0_1,.string a0_2]) (t:=24) ?hr ?_;(case hd=>rfl);(case hg=>rfl);(case hr=>first|(go_simp;done)|(go_simp;rfl));intro gb357 hg w10 hbox hb;have n0_:=Aside0.mk (below_step (by repeat (first|(with_reducible first|exact HB.out|apply below_alloc|apply pw_below_drewN|apply below_drew1)|exact HB.out)) hb);have n1_:=Aside0.mk (hbox);have n2_:=Aside0.mk ((by rw [hg];exact (below_size (by repeat (first|(with_reducible first|exact HB.out|apply below_alloc|apply pw_below_drewN|apply below_drew1)|exact HB.out))) : w.heap.size ≤ gb357));have n3_:=Aside0.mk ((by rw [hg];exact (below_size (by repeat (first|(with_reducible first|exact HB.out|apply below_alloc|apply pw_below_drewN|apply below_drew1)|exact HB.out))) : w.heap.size ≤ gb357));clear HB;have HB:=n0_;have BK357:=n1_;have GW357:=n2_;have GE357:=n3_;clear n0_ n1_ n2_ n3_;clear hb hbox hg;have hcz11_0 : w10.cell? ⟨gb357,0,none⟩ = some (.int .i64 a0_0):=(blk_cell BK357.out 0).trans rfl;have hcz11_1 : w10.cell? ⟨gb357,1,none⟩ = some (.int .i64 a0_1):=(blk_cell BK357.out 1).trans rfl;have hcz11_2 : w10.cell? ⟨gb357,2,none⟩ = some (.string a0_2):=(blk_cell BK357.out 2).trans rfl;have hfz11_0:=blk_frozen BK357.out 0;have hfz11_1:=blk_frozen BK357.out 1;have hfz11_2:=blk_frozen BK357.out 2)|((with_reducible refine gate_callee (f:=11) rfl ?_);refine goesL_ (some 4) rfl rfl Tryz.func11 (by kernel_rfl) rfl #[.agg #[.int .i64 a0_0,.int .i64 a0_1,.string a0_2]] rfl (by (try simp only [List.map_toArray,List.map_cons,List.map_nil]);first|done|rfl|(simp only [List.length_drop,List.length_take];rfl)) ?_;(with_reducible refine (impl_CellOk.calls a0_0 a0_1 a0_2 false _ A2.out).mono ?_);rintro e w12 ⟨rfl,hb⟩;refine ⟨_,rfl,?_⟩;have n0_:=Aside0.mk (blk_below (g:=gb357) (o:=.cells #[.int .i64 a0_0,.int .i64 a0_1,.string a0_2] 24 (0,0)) (by (with_reducible repeat (first|refine blk_drewN ?_ _|refine blk_drew ?_|refine blk_alloc ?_ _));exact BK357.out) hb);have n1_:=Aside0.mk (below_step (by repeat (first|(with_reducible first|exact HB.out|apply below_alloc|apply pw_below_drewN|apply below_drew1|refine below_set ?_ GE357.out)|exact HB.out)) hb);clear BK357;clear HB;have BK357:=n0_;have HB:=n1_;clear n0_ n1_;(try clear hb);(try clear hb2);(try clear hk);(try clear hi)))
  go_ret
  exact ⟨by first|rfl|(simp [errW_none,errW_some] <;> rfl)|(simp [*,errW_none,errW_some] <;> rfl),by repeat (first|(with_reducible first|exact HB.out|apply below_alloc|apply pw_below_drewN|apply below_drew1|refine below_set ?_ GE357.out)|exact HB.out)⟩
def cmp_isNaN_int.f (a0 : Int) : Option (Bool):=some (a0 != a0)
set_option maxHeartbeats 8000000 in
set_option maxRecDepth 100000 in
theorem cmp_isNaN_int.calls (a0 : Int) (r : Bool) (w : World) (h : cmp_isNaN_int.f a0 = some r) :
  Calls Tryz.prog 107 #[.int .i64 a0] w fun e w'=>e = .returned (.bool r) ∧ Drawn0 w w':=by
 have H : (some (a0 != a0)) = some r:=h
 clear h
 obtain rfl:=Option.some.inj H
 go_enter Tryz.func107,Tryz.ntmps107
 go_wp2
 go_ret
 exact ⟨by first|rfl|(simp;done)|(simp [*];done),by repeat (first|exact Drawn0.refl _|apply Drawn0.step)⟩
def cmp_Compare_int.f (a0 : Int) (a1 : Int) : Option (Int):=(cmp_isNaN_int.f a0).bind fun t360=>((cmp_isNaN_int.f a1).bind fun t361=>(if t360 = true then (if t361 = true then (some 0) else (some (-1))) else (if t361 = true then (some 1) else (if a0 < a1 then (some (-1)) else (if a0 > a1 then (some 1) else (some 0))))))
set_option maxHeartbeats 8000000 in
set_option maxRecDepth 100000 in
theorem cmp_Compare_int.calls (a0 : Int) (a1 : Int) (r : Int) (w : World) (h : cmp_Compare_int.f a0 a1 = some r) :
  Calls Tryz.prog 92 #[.int .i64 a0,.int .i64 a1] w fun e w'=>e = .returned (.int .i64 r) ∧ Drawn0 w w':=by
 have H : ((cmp_isNaN_int.f a0).bind fun t360=>((cmp_isNaN_int.f a1).bind fun t361=>(if t360 = true then (if t361 = true then (some 0) else (some (-1))) else (if t361 = true then (some 1) else (if a0 < a1 then (some (-1)) else (if a0 > a1 then (some 1) else (some 0))))))) = some r:=h
 clear h
 replace H:=Option.bind_eq_some_iff.mp H
 obtain ⟨t360,A30,H⟩:=H
 replace H : ((cmp_isNaN_int.f a1).bind fun t361=>(if t360 = true then (if t361 = true then (some 0) else (some (-1))) else (if t361 = true then (some 1) else (if a0 < a1 then (some (-1)) else (if a0 > a1 then (some 1) else (some 0)))))) = some r:=H
 have A3:=Aside0.mk A30
 clear A30
 replace H:=Option.bind_eq_some_iff.mp H
 obtain ⟨t361,A40,H⟩:=H
 replace H : (if t360 = true then (if t361 = true then (some 0) else (some (-1))) else (if t361 = true then (some 1) else (if a0 < a1 then (some (-1)) else (if a0 > a1 then (some 1) else (some 0))))) = some r:=H
 have A4:=Aside0.mk A40
 clear A40
 by_cases c5 : t360 = true
 ·subst c5
  have H1 : (if t361 = true then (some 0) else (some (-1))) = some r:=by rw [if_pos rfl] at H;exact H
  clear H
  have H:=H1
  clear H1
  by_cases c6 : t361 = true
  ·subst c6
   have H1 : (some 0) = some r:=by rw [if_pos rfl] at H;exact H
   clear H
   have H:=H1
   clear H1
   obtain rfl:=Option.some.inj H
   go_enter Tryz.func92,Tryz.ntmps92
   go_wp2_with (first|((with_reducible refine gate_callee (f:=107) rfl ?_);refine goesL_ (some 8) rfl rfl Tryz.func107 (by kernel_rfl) rfl #[.int .i64 a0] rfl (by (try simp only [List.map_toArray,List.map_cons,List.map_nil]);first|done|rfl|(simp only [List.length_drop,List.length_take];rfl)) ?_;(with_reducible refine (cmp_isNaN_int.calls a0 true _ A3.out).mono ?_);rintro e w' ⟨rfl,⟨nd,rfl⟩⟩;refine ⟨_,rfl,?_⟩)|((with_reducible refine gate_callee (f:=107) rfl ?_);refine goesL_ (some 10) rfl rfl Tryz.func107 (by kernel_rfl) rfl #[.int .i64 a1] rfl (by (try simp only [List.map_toArray,List.map_cons,List.map_nil]);first|done|rfl|(simp only [List.length_drop,List.length_take];rfl)) ?_;(with_reducible refine (cmp_isNaN_int.calls a1 true _ A4.out).mono ?_);rintro e w' ⟨rfl,⟨nd,rfl⟩⟩;refine ⟨_,rfl,?_⟩))
   go_ret
   exact ⟨by first|rfl|(simp;done)|(simp [*];done),by repeat (first|exact Drawn0.refl _|apply Drawn0.step)⟩
  ·replace c6:=Bool.eq_false_iff.mpr c6
   subst c6
   have H1 : (some (-1)) = some r:=by rw [if_neg (show ¬ (false = true) by decide)] at H;exact H
   clear H
   have H:=H1
   clear H1
   obtain rfl:=Option.some.inj H
   go_enter Tryz.func92,Tryz.ntmps92
   go_wp2_with (first|((with_reducible refine gate_callee (f:=107) rfl ?_);refine goesL_ (some 8) rfl rfl Tryz.func107 (by kernel_rfl) rfl #[.int .i64 a0] rfl (by (try simp only [List.map_toArray,List.map_cons,List.map_nil]);first|done|rfl|(simp only [List.length_drop,List.length_take];rfl)) ?_;(with_reducible refine (cmp_isNaN_int.calls a0 true _ A3.out).mono ?_);rintro e w' ⟨rfl,⟨nd,rfl⟩⟩;refine ⟨_,rfl,?_⟩)|((with_reducible refine gate_callee (f:=107) rfl ?_);refine goesL_ (some 10) rfl rfl Tryz.func107 (by kernel_rfl) rfl #[.int .i64 a1] rfl (by (try simp only [List.map_toArray,List.map_cons,List.map_nil]);first|done|rfl|(simp only [List.length_drop,List.length_take];rfl)) ?_;(with_reducible refine (cmp_isNaN_int.calls a1 false _ A4.out).mono ?_);rintro e w' ⟨rfl,⟨nd,rfl⟩⟩;refine ⟨_,rfl,?_⟩))
   go_ret
   exact ⟨by first|rfl|(simp;done)|(simp [*];done),by repeat (first|exact Drawn0.refl _|apply Drawn0.step)⟩
 ·replace c5:=Bool.eq_false_iff.mpr c5
  subst c5
  have H1 : (if t361 = true then (some 1) else (if a0 < a1 then (some (-1)) else (if a0 > a1 then (some 1) else (some 0)))) = some r:=by rw [if_neg (show ¬ (false = true) by decide)] at H;exact H
  clear H
  have H:=H1
  clear H1
  by_cases c7 : t361 = true
  ·subst c7
   have H1 : (some 1) = some r:=by rw [if_pos rfl] at H;exact H
   clear H
   have H:=H1
   clear H1
   obtain rfl:=Option.some.inj H
   go_enter Tryz.func92,Tryz.ntmps92
   go_wp2_with (first|((with_reducible refine gate_callee (f:=107) rfl ?_);refine goesL_ (some 8) rfl rfl Tryz.func107 (by kernel_rfl) rfl #[.int .i64 a0] rfl (by (try simp only [List.map_toArray,List.map_cons,List.map_nil]);first|done|rfl|(simp only [List.length_drop,List.length_take];rfl)) ?_;(with_reducible refine (cmp_isNaN_int.calls a0 false _ A3.out).mono ?_);rintro e w' ⟨rfl,⟨nd,rfl⟩⟩;refine ⟨_,rfl,?_⟩)|((with_reducible refine gate_callee (f:=107) rfl ?_);refine goesL_ (some 10) rfl rfl Tryz.func107 (by kernel_rfl) rfl #[.int .i64 a1] rfl (by (try simp only [List.map_toArray,List.map_cons,List.map_nil]);first|done|rfl|(simp only [List.length_drop,List.length_take];rfl)) ?_;(with_reducible refine (cmp_isNaN_int.calls a1 true _ A4.out).mono ?_);rintro e w' ⟨rfl,⟨nd,rfl⟩⟩;refine ⟨_,rfl,?_⟩))
   go_ret
   exact ⟨by first|rfl|(simp;done)|(simp [*];done),by repeat (first|exact Drawn0.refl _|apply Drawn0.step)⟩
  ·replace c7:=Bool.eq_false_iff.mpr c7
   subst c7
   have H1 : (if a0 < a1 then (some (-1)) else (if a0 > a1 then (some 1) else (some 0))) = some r:=by rw [if_neg (show ¬ (false = true) by decide)] at H;exact H
   clear H
   have H:=H1
   clear H1
   by_cases c8 : a0 < a1
   ·rw [if_pos c8] at H
    have c8b0 : decide (a0 < a1) = true:=decide_eq_true c8
    clear c8
    obtain rfl:=Option.some.inj H
    go_enter Tryz.func92,Tryz.ntmps92
    go_wp2_with (first|((with_reducible refine gate_callee (f:=107) rfl ?_);refine goesL_ (some 8) rfl rfl Tryz.func107 (by kernel_rfl) rfl #[.int .i64 a0] rfl (by (try simp only [List.map_toArray,List.map_cons,List.map_nil]);first|done|rfl|(simp only [List.length_drop,List.length_take];rfl)) ?_;(with_reducible refine (cmp_isNaN_int.calls a0 false _ A3.out).mono ?_);rintro e w' ⟨rfl,⟨nd,rfl⟩⟩;refine ⟨_,rfl,?_⟩)|((with_reducible refine gate_callee (f:=107) rfl ?_);refine goesL_ (some 10) rfl rfl Tryz.func107 (by kernel_rfl) rfl #[.int .i64 a1] rfl (by (try simp only [List.map_toArray,List.map_cons,List.map_nil]);first|done|rfl|(simp only [List.length_drop,List.length_take];rfl)) ?_;(with_reducible refine (cmp_isNaN_int.calls a1 false _ A4.out).mono ?_);rintro e w' ⟨rfl,⟨nd,rfl⟩⟩;refine ⟨_,rfl,?_⟩))
    go_ret
    exact ⟨by first|rfl|(simp;done)|(simp [*];done),by repeat (first|exact Drawn0.refl _|apply Drawn0.step)⟩
   ·rw [if_neg c8] at H
    have c8b0 : decide (a0 < a1) = false:=decide_eq_false c8
    clear c8
    by_cases c9 : a0 > a1
    ·rw [if_pos c9] at H
     have c9b0 : decide (a1 < a0) = true:=decide_eq_true c9
     clear c9
     obtain rfl:=Option.some.inj H
     go_enter Tryz.func92,Tryz.ntmps92
     go_wp2_with (first|((with_reducible refine gate_callee (f:=107) rfl ?_);refine goesL_ (some 8) rfl rfl Tryz.func107 (by kernel_rfl) rfl #[.int .i64 a0] rfl (by (try simp only [List.map_toArray,List.map_cons,List.map_nil]);first|done|rfl|(simp only [List.length_drop,List.length_take];rfl)) ?_;(with_reducible refine (cmp_isNaN_int.calls a0 false _ A3.out).mono ?_);rintro e w' ⟨rfl,⟨nd,rfl⟩⟩;refine ⟨_,rfl,?_⟩)|((with_reducible refine gate_callee (f:=107) rfl ?_);refine goesL_ (some 10) rfl rfl Tryz.func107 (by kernel_rfl) rfl #[.int .i64 a1] rfl (by (try simp only [List.map_toArray,List.map_cons,List.map_nil]);first|done|rfl|(simp only [List.length_drop,List.length_take];rfl)) ?_;(with_reducible refine (cmp_isNaN_int.calls a1 false _ A4.out).mono ?_);rintro e w' ⟨rfl,⟨nd,rfl⟩⟩;refine ⟨_,rfl,?_⟩))
     go_ret
     exact ⟨by first|rfl|(simp;done)|(simp [*];done),by repeat (first|exact Drawn0.refl _|apply Drawn0.step)⟩
    ·rw [if_neg c9] at H
     have c9b0 : decide (a1 < a0) = false:=decide_eq_false c9
     clear c9
     obtain rfl:=Option.some.inj H
     go_enter Tryz.func92,Tryz.ntmps92
     go_wp2_with (first|((with_reducible refine gate_callee (f:=107) rfl ?_);refine goesL_ (some 8) rfl rfl Tryz.func107 (by kernel_rfl) rfl #[.int .i64 a0] rfl (by (try simp only [List.map_toArray,List.map_cons,List.map_nil]);first|done|rfl|(simp only [List.length_drop,List.length_take];rfl)) ?_;(with_reducible refine (cmp_isNaN_int.calls a0 false _ A3.out).mono ?_);rintro e w' ⟨rfl,⟨nd,rfl⟩⟩;refine ⟨_,rfl,?_⟩)|((with_reducible refine gate_callee (f:=107) rfl ?_);refine goesL_ (some 10) rfl rfl Tryz.func107 (by kernel_rfl) rfl #[.int .i64 a1] rfl (by (try simp only [List.map_toArray,List.map_cons,List.map_nil]);first|done|rfl|(simp only [List.length_drop,List.length_take];rfl)) ?_;(with_reducible refine (cmp_isNaN_int.calls a1 false _ A4.out).mono ?_);rintro e w' ⟨rfl,⟨nd,rfl⟩⟩;refine ⟨_,rfl,?_⟩))
     go_ret
     exact ⟨by first|rfl|(simp;done)|(simp [*];done),by repeat (first|exact Drawn0.refl _|apply Drawn0.step)⟩
def impl_compare.j0 : Nat → Bool → Int → Int → ByteArray → Int → Int → ByteArray → Option (Int)
 | 0,_,_,_,_,_,_,_=>none
 | k + 1,x12,x363000,x363001,x363002,x364000,x364001,x364002=>if x12 = true then ((cmp_Compare_int.f x363001 x364001).bind fun t364=>(some t364)) else ((impl_Cell_str.f k x363000 x363001 x363002).bind fun t365=>((impl_Cell_str.f k x364000 x364001 x364002).bind fun t366=>((cmp_Compare_string.f t365 t366).bind fun t367=>(some t367))))
def impl_compare.f (k : Nat) (a0_0 : Int) (a0_1 : Int) (a0_2 : ByteArray) (a1_0 : Int) (a1_1 : Int) (a1_2 : ByteArray) : Option (Int):=if a0_0 = 2 then (impl_compare.j0 k false a0_0 a0_1 a0_2 a1_0 a1_1 a1_2) else (impl_compare.j0 k (a1_0 != 2) a0_0 a0_1 a0_2 a1_0 a1_1 a1_2)
theorem impl_compare.mono_l : ∀ k,(∀ y0 y1 y2 y3 y4 y5 y6,LeO (impl_compare.j0 k y0 y1 y2 y3 y4 y5 y6) (impl_compare.j0 (k + 1) y0 y1 y2 y3 y4 y5 y6))
 | 0=>fun _ _ _ _ _ _ _ r h=>by simp [impl_compare.j0] at h
 | k + 1=>by
  have ih0:=impl_compare.mono_l k
  ·intro y0 y1 y2 y3 y4 y5 y6
   unfold impl_compare.j0
   repeat' first
   | (with_reducible exact ih0 _ _ _ _ _ _ _)
   | (with_reducible exact impl_Cell_str.mono _ _ _ _)
   | (with_reducible exact LeO.refl _)
   | (with_reducible exact LeO.none _)
   | (with_reducible refine LeO.ite ?_ ?_)
   | (with_reducible refine LeO.bind ?_ (fun _=>?_))
   | exact ih0 _ _ _ _ _ _ _
   | exact impl_Cell_str.mono _ _ _ _
   | exact LeO.none _
   | refine LeO.ite ?_ ?_
   | refine LeO.bind ?_ (fun _=>?_)
theorem impl_compare.mono : ∀ a0 a1 a2 a3 a4 a5 k,LeO (impl_compare.f k a0 a1 a2 a3 a4 a5) (impl_compare.f (k + 1) a0 a1 a2 a3 a4 a5):=by
 intro a0 a1 a2 a3 a4 a5 k
 have ih0:=impl_compare.mono_l k
 unfold impl_compare.f
 repeat' first
   | (with_reducible exact ih0 _ _ _ _ _ _ _)
   | (with_reducible exact impl_Cell_str.mono _ _ _ _)
   | (with_reducible exact LeO.refl _)
   | (with_reducible exact LeO.none _)
   | (with_reducible refine LeO.ite ?_ ?_)
   | (with_reducible refine LeO.bind ?_ (fun _=>?_))
   | exact ih0 _ _ _ _ _ _ _
   | exact impl_Cell_str.mono _ _ _ _
   | exact LeO.none _
   | refine LeO.ite ?_ ?_
   | refine LeO.bind ?_ (fun _=>?_)
set_option maxHeartbeats 8000000 in
set_option maxRecDepth 100000 in
theorem impl_compare.calls (k : Nat) (a0_0 : Int) (a0_1 : Int) (a0_2 : ByteArray) (a1_0 : Int) (a1_1 : Int) (a1_2 : ByteArray) (r : Int) (w : World) (h : impl_compare.f k a0_0 a0_1 a0_2 a1_0 a1_1 a1_2 = some r) (hT : Tabs w:=by first|assumption|(refine Aside0.out (p:=Tabs _) ?_;assumption)|(refine Tabs.below (w:=?ww) (Aside0.out ?ha) ?hb;(case ha=>assumption);(case hb=>repeat (first|(with_reducible first|exact Below.refl _ _|(refine Aside0.out ?_;assumption)|apply below_alloc|apply pw_below_drewN|apply below_drew1|(refine below_set ?_ (Aside0.out ?_);(rotate_left;assumption)))|(refine Aside0.out ?_;assumption))))|(refine Tabs.drewN (w:=?ww) (Aside0.out ?ha) _;(case ha=>assumption))) :
  Calls Tryz.prog 75 #[.agg #[.int .i64 a0_0,.int .i64 a0_1,.string a0_2],.agg #[.int .i64 a1_0,.int .i64 a1_1,.string a1_2]] w fun e w'=>e = .returned (.int .i64 r) ∧ Below w.heap.size w w':=by
 have HT_:=Aside0.mk hT
 clear hT
 have hu24:=Tryz.underlying24
 have HB:=Aside0.mk (Below.refl w.heap.size w)
 have H : (if a0_0 = 2 then (impl_compare.j0 k false a0_0 a0_1 a0_2 a1_0 a1_1 a1_2) else (impl_compare.j0 k (a1_0 != 2) a0_0 a0_1 a0_2 a1_0 a1_1 a1_2)) = some r:=h
 clear h
 have HC3:=Aside0.mk H
 clear H
 go_enter Tryz.func75,Tryz.ntmps75
 go_upto_region 1 with (first|((with_reducible refine gate_dst (N:=2) rfl ?_);refine box_event ?hg (N:=2) ?hd (cs:=#[.int .i64 a0_0,.int .i64 a0_1,.string a0_2]) (t:=24) ?hr ?_;(case hd=>rfl);(case hg=>rfl);(case hr=>first|(go_simp;done)|(go_simp;rfl));intro gb362 hg w4 hbox hb;have n0_:=Aside0.mk (below_step (by repeat (first|(with_reducible first|exact HB.out|apply below_alloc|apply pw_below_drewN|apply below_drew1)|exact HB.out)) hb);have n1_:=Aside0.mk (hbox);have n2_:=Aside0.mk ((by rw [hg];exact (below_size (by repeat (first|(with_reducible first|exact HB.out|apply below_alloc|apply pw_below_drewN|apply below_drew1)|exact HB.out))) : w.heap.size ≤ gb362));have n3_:=Aside0.mk ((by rw [hg];exact (below_size (by repeat (first|(with_reducible first|exact HB.out|apply below_alloc|apply pw_below_drewN|apply below_drew1)|exact HB.out))) : w.heap.size ≤ gb362));clear HB;have HB:=n0_;have BK362:=n1_;have GW362:=n2_;have GE362:=n3_;clear n0_ n1_ n2_ n3_;clear hb hbox hg)|((with_reducible refine gate_dst (N:=3) rfl ?_);refine box_event ?hg (N:=3) ?hd (cs:=#[.int .i64 a1_0,.int .i64 a1_1,.string a1_2]) (t:=24) ?hr ?_;(case hd=>rfl);(case hg=>rfl);(case hr=>first|(go_simp;done)|(go_simp;rfl));intro gb363 hg w5 hbox hb;have n0_:=Aside0.mk (blk_below (g:=gb362) (o:=.cells #[.int .i64 a0_0,.int .i64 a0_1,.string a0_2] 24 (0,0)) (by (with_reducible repeat (first|refine blk_drewN ?_ _|refine blk_drew ?_|refine blk_alloc ?_ _));exact BK362.out) hb);have n1_:=Aside0.mk (below_step (by repeat (first|(with_reducible first|exact HB.out|apply below_alloc|apply pw_below_drewN|apply below_drew1|refine below_set ?_ GE362.out)|exact HB.out)) hb);have n2_:=Aside0.mk (hbox);have n3_:=Aside0.mk ((by rw [hg];exact (below_size (by repeat (first|(with_reducible first|exact HB.out|apply below_alloc|apply pw_below_drewN|apply below_drew1|refine below_set ?_ GE362.out)|exact HB.out))) : w.heap.size ≤ gb363));have n4_:=Aside0.mk ((by rw [hg];exact (below_size (by repeat (first|(with_reducible first|exact HB.out|apply below_alloc|apply pw_below_drewN|apply below_drew1|refine below_set ?_ GE362.out)|exact HB.out))) : w.heap.size ≤ gb363));have n5_:=Aside0.mk ((by rw [hg];exact Nat.ne_of_lt (blk_lt (g:=gb362) (o:=.cells #[.int .i64 a0_0,.int .i64 a0_1,.string a0_2] 24 (0,0)) (by (with_reducible repeat (first|refine blk_drewN ?_ _|refine blk_drew ?_|refine blk_alloc ?_ _));exact BK362.out)) : gb362 ≠ gb363));have n6_:=Aside0.mk ((by rw [hg];exact Nat.ne_of_gt (blk_lt (g:=gb362) (o:=.cells #[.int .i64 a0_0,.int .i64 a0_1,.string a0_2] 24 (0,0)) (by (with_reducible repeat (first|refine blk_drewN ?_ _|refine blk_drew ?_|refine blk_alloc ?_ _));exact BK362.out)) : gb363 ≠ gb362));clear BK362;clear HB;have BK362:=n0_;have HB:=n1_;have BK363:=n2_;have GW363:=n3_;have GE363:=n4_;have NB362_363:=n5_;have NB363_362:=n6_;clear n0_ n1_ n2_ n3_ n4_ n5_ n6_;clear hb hbox hg))
 (try simp only [Act.put,List.setIfInBounds_toArray,List.set_cons_zero,List.set_cons_succ])
 go_cut [12] (fun v12 wc=>∃ (kq : Nat) (x12_2 : Bool),v12 = .bool x12_2 ∧ Aside0 (impl_compare.j0 kq x12_2 a0_0 a0_1 a0_2 a1_0 a1_1 a1_2 = some r) ∧ Aside0 (kq ≤ k) ∧ Aside0 (wc.heap[gb362]? = some (.cells #[.int .i64 a0_0,.int .i64 a0_1,.string a0_2] 24 (0,0))) ∧ Aside0 (wc.heap[gb363]? = some (.cells #[.int .i64 a1_0,.int .i64 a1_1,.string a1_2] 24 (0,0))) ∧ Aside0 (Below w.heap.size w wc))
 case first =>
  have H:=HC3.out
  clear HC3
  by_cases c6 : a0_0 = 2
  ·rw [if_pos c6] at H
   have c6b0 : (a0_0 == 2) = true:=beq_iff_eq.mpr c6
   have c6b1 : (a0_0 != 2) = false:=bne_eq_false_iff_eq.mpr c6
   clear c6
   (first|rw [c6b0]|(simp only [i64_w,i32_w];rw [c6b0])|skip)
   have H':=Aside0.mk H
   clear H
   have hnb7:=NB362_363.out
   have hnc7:=NB363_362.out
   have hcz8_0 : w5.cell? ⟨gb362,0,none⟩ = some (.int .i64 a0_0):=(blk_cell BK362.out 0).trans rfl
   have hcz8_1 : w5.cell? ⟨gb362,1,none⟩ = some (.int .i64 a0_1):=(blk_cell BK362.out 1).trans rfl
   have hcz8_2 : w5.cell? ⟨gb362,2,none⟩ = some (.string a0_2):=(blk_cell BK362.out 2).trans rfl
   have hfz8_0:=blk_frozen BK362.out 0
   have hfz8_1:=blk_frozen BK362.out 1
   have hfz8_2:=blk_frozen BK362.out 2
   go_wp2
   go_meet
   case rel=>exact ⟨_,(false),(by first|rfl|(simp;done)|(simp [*];done)),H',⟨by first|omega|exact Nat.le_refl _⟩,⟨by (with_reducible repeat (first|refine blk_drewN ?_ _|refine blk_drew ?_|refine blk_alloc ?_ _));exact BK362.out⟩,⟨by (with_reducible repeat (first|refine blk_drewN ?_ _|refine blk_drew ?_|refine blk_alloc ?_ _));exact BK363.out⟩,⟨by repeat (first|(with_reducible first|exact HB.out|apply below_alloc|apply pw_below_drewN|apply below_drew1|refine below_set ?_ GE362.out|refine below_set ?_ GE363.out)|exact HB.out)⟩⟩
  ·rw [if_neg c6] at H
   have c6b0 : (a0_0 == 2) = false:=beq_eq_false_iff_ne.mpr c6
   have c6b1 : (a0_0 != 2) = true:=bne_iff_ne.mpr c6
   (first|rw [c6b0]|(simp only [i64_w,i32_w];rw [c6b0])|skip)
   have H':=Aside0.mk H
   clear H
   have hnb9:=NB362_363.out
   have hnc9:=NB363_362.out
   have hcz10_0 : w5.cell? ⟨gb362,0,none⟩ = some (.int .i64 a0_0):=(blk_cell BK362.out 0).trans rfl
   have hcz10_1 : w5.cell? ⟨gb362,1,none⟩ = some (.int .i64 a0_1):=(blk_cell BK362.out 1).trans rfl
   have hcz10_2 : w5.cell? ⟨gb362,2,none⟩ = some (.string a0_2):=(blk_cell BK362.out 2).trans rfl
   have hfz10_0:=blk_frozen BK362.out 0
   have hfz10_1:=blk_frozen BK362.out 1
   have hfz10_2:=blk_frozen BK362.out 2
   have hcz11_0 : w5.cell? ⟨gb363,0,none⟩ = some (.int .i64 a1_0):=(blk_cell BK363.out 0).trans rfl
   have hcz11_1 : w5.cell? ⟨gb363,1,none⟩ = some (.int .i64 a1_1):=(blk_cell BK363.out 1).trans rfl
   have hcz11_2 : w5.cell? ⟨gb363,2,none⟩ = some (.string a1_2):=(blk_cell BK363.out 2).trans rfl
   have hfz11_0:=blk_frozen BK363.out 0
   have hfz11_1:=blk_frozen BK363.out 1
   have hfz11_2:=blk_frozen BK363.out 2
   go_wp2
   go_meet
   case rel=>exact ⟨_,((a1_0 != 2)),(by first|rfl|(simp;done)|(simp [*];done)),H',⟨by first|omega|exact Nat.le_refl _⟩,⟨by (with_reducible repeat (first|refine blk_drewN ?_ _|refine blk_drew ?_|refine blk_alloc ?_ _));exact BK362.out⟩,⟨by (with_reducible repeat (first|refine blk_drewN ?_ _|refine blk_drew ?_|refine blk_alloc ?_ _));exact BK363.out⟩,⟨by repeat (first|(with_reducible first|exact HB.out|apply below_alloc|apply pw_below_drewN|apply below_drew1|refine below_set ?_ GE362.out|refine below_set ?_ GE363.out)|exact HB.out)⟩⟩
 case rest =>
  clear HC3
  try clear p2
  try clear c6
  try clear c6b0
  try clear c6b1
  try clear c7
  try clear c9
  try clear hcz10_0
  try clear hcz10_1
  try clear hcz10_2
  try clear hcz11_0
  try clear hcz11_1
  try clear hcz11_2
  try clear hcz8_0
  try clear hcz8_1
  try clear hcz8_2
  try clear hfz10_0
  try clear hfz10_1
  try clear hfz10_2
  try clear hfz11_0
  try clear hfz11_1
  try clear hfz11_2
  try clear hfz8_0
  try clear hfz8_1
  try clear hfz8_2
  obtain ⟨kq,x12_2,rfl,HA,HJ2,BK362,BK363,HB⟩:=hcut
  cases kq with
  | zero=>exact absurd HA.out (by simp [impl_compare.j0])
  | succ kj2 =>
   have H:=HA.out
   clear HA
   simp only [impl_compare.j0] at H
   by_cases c12 : x12_2 = true
   ·subst c12
    have H1 : ((cmp_Compare_int.f a0_1 a1_1).bind fun t364=>(some t364)) = some r:=by rw [if_pos rfl] at H;exact H
    clear H
    have H:=H1
    clear H1
    replace H:=Option.bind_eq_some_iff.mp H
    obtain ⟨t364,A130,H⟩:=H
    replace H : (some t364) = some r:=H
    have A13:=Aside0.mk A130
    clear A130
    obtain rfl:=Option.some.inj H
    have hnb14:=NB362_363.out
    have hnc14:=NB363_362.out
    have hcz15_0 : wc.cell? ⟨gb362,0,none⟩ = some (.int .i64 a0_0):=(blk_cell BK362.out 0).trans rfl
    have hcz15_1 : wc.cell? ⟨gb362,1,none⟩ = some (.int .i64 a0_1):=(blk_cell BK362.out 1).trans rfl
    have hcz15_2 : wc.cell? ⟨gb362,2,none⟩ = some (.string a0_2):=(blk_cell BK362.out 2).trans rfl
    have hfz15_0:=blk_frozen BK362.out 0
    have hfz15_1:=blk_frozen BK362.out 1
    have hfz15_2:=blk_frozen BK362.out 2
    have hcz16_0 : wc.cell? ⟨gb363,0,none⟩ = some (.int .i64 a1_0):=(blk_cell BK363.out 0).trans rfl
    have hcz16_1 : wc.cell? ⟨gb363,1,none⟩ = some (.int .i64 a1_1):=(blk_cell BK363.out 1).trans rfl
    have hcz16_2 : wc.cell? ⟨gb363,2,none⟩ = some (.string a1_2):=(blk_cell BK363.out 2).trans rfl
    have hfz16_0:=blk_frozen BK363.out 0
    have hfz16_1:=blk_frozen BK363.out 1
    have hfz16_2:=blk_frozen BK363.out 2
    go_wp2_with (first|((with_reducible refine gate_callee (f:=92) rfl ?_);refine goesL_ (some 17) rfl rfl Tryz.func92 (by kernel_rfl) rfl #[.int .i64 a0_1,.int .i64 a1_1] rfl (by (try simp only [List.map_toArray,List.map_cons,List.map_nil]);first|done|rfl|(simp only [List.length_drop,List.length_take];rfl)) ?_;(with_reducible refine (cmp_Compare_int.calls a0_1 a1_1 t364 _ A13.out).mono ?_);rintro e w' ⟨rfl,⟨nd,rfl⟩⟩;refine ⟨_,rfl,?_⟩))
    go_ret
    exact ⟨by first|rfl|(simp [errW_none,errW_some] <;> rfl)|(simp [*,errW_none,errW_some] <;> rfl),by repeat (first|(with_reducible first|exact HB.out|apply below_alloc|apply pw_below_drewN|apply below_drew1|refine below_set ?_ GE362.out|refine below_set ?_ GE363.out)|exact HB.out)⟩
   ·replace c12:=Bool.eq_false_iff.mpr c12
    subst c12
    have H1 : ((impl_Cell_str.f kj2 a0_0 a0_1 a0_2).bind fun t365=>((impl_Cell_str.f kj2 a1_0 a1_1 a1_2).bind fun t366=>((cmp_Compare_string.f t365 t366).bind fun t367=>(some t367)))) = some r:=by rw [if_neg (show ¬ (false = true) by decide)] at H;exact H
    clear H
    have H:=H1
    clear H1
    replace H:=Option.bind_eq_some_iff.mp H
    obtain ⟨t365,A170,H⟩:=H
    replace H : ((impl_Cell_str.f kj2 a1_0 a1_1 a1_2).bind fun t366=>((cmp_Compare_string.f t365 t366).bind fun t367=>(some t367))) = some r:=H
    have A17:=Aside0.mk A170
    clear A170
    replace H:=Option.bind_eq_some_iff.mp H
    obtain ⟨t366,A180,H⟩:=H
    replace H : ((cmp_Compare_string.f t365 t366).bind fun t367=>(some t367)) = some r:=H
    have A18:=Aside0.mk A180
    clear A180
    replace H:=Option.bind_eq_some_iff.mp H
    obtain ⟨t367,A190,H⟩:=H
    replace H : (some t367) = some r:=H
    have A19:=Aside0.mk A190
    clear A190
    obtain rfl:=Option.some.inj H
    try go_wp2
    have n0_:=Aside0.mk (blk_drew BK362.out)
    have n1_:=Aside0.mk (blk_drew BK363.out)
    have n2_:=Aside0.mk (below_drew1 HB.out)
    clear BK362
    clear BK363
    clear HB
    have BK362:=n0_
    have BK363:=n1_
    have HB:=n2_
    clear n0_ n1_ n2_
    refine start_ (n:=6) (S:=fun w'=>w'.cell? ⟨gb362,0,none⟩ = some (.int .i64 a0_0) ∧ w'.cell? ⟨gb362,1,none⟩ = some (.int .i64 a0_1) ∧ w'.cell? ⟨gb362,2,none⟩ = some (.string a0_2) ∧ w'.cell? ⟨gb363,0,none⟩ = some (.int .i64 a1_0) ∧ w'.cell? ⟨gb363,1,none⟩ = some (.int .i64 a1_1) ∧ w'.cell? ⟨gb363,2,none⟩ = some (.string a1_2)) (ds:=[]) #[false,false,false,false,false,false] (by kernel_rfl) rfl rfl ⟨(blk_cell BK362.out 0).trans rfl,(blk_cell BK362.out 1).trans rfl,(blk_cell BK362.out 2).trans rfl,(blk_cell BK363.out 0).trans rfl,(blk_cell BK363.out 1).trans rfl,(blk_cell BK363.out 2).trans rfl⟩ (fun hHeld=>?_)
    generalize wc.drew = w20 at BK362 BK363 HB hHeld ⊢
    refine take_ (i:=0) (N:=some 18) (v:=?_) (a':=?_) #[true,false,false,false,false,false] rfl rfl (by kernel_rfl) (fun _ _ _ h=>h) (Or.inl ⟨by rfl,?_⟩) hHeld ?_ ?_
    rotate_left
    ·rintro w' ⟨s0,s1,s2,s3,s4,s5⟩
     go_simp
     first|with_reducible rfl|(rw [if_neg (by simp only [ByteArray.size_append,ByteArray.size_extract,eq_iff_iff,iff_true,iff_false] at *;omega)];try with_reducible rfl)
    rotate_left
    ·simp only [Act.put,List.setIfInBounds_toArray,List.set_cons_zero,List.set_cons_succ,i64_w,i32_w]
     rfl
    refine take_ (i:=2) (N:=some 20) (v:=?_) (a':=?_) #[true,false,true,false,false,false] rfl rfl (by kernel_rfl) (fun _ _ _ h=>h) (Or.inl ⟨by rfl,?_⟩) hHeld ?_ ?_
    rotate_left
    ·rintro w' ⟨s0,s1,s2,s3,s4,s5⟩
     go_simp
     first|with_reducible rfl|(rw [if_neg (by simp only [ByteArray.size_append,ByteArray.size_extract,eq_iff_iff,iff_true,iff_false] at *;omega)];try with_reducible rfl)
    rotate_left
    ·simp only [Act.put,List.setIfInBounds_toArray,List.set_cons_zero,List.set_cons_succ,i64_w,i32_w]
     rfl
    refine one_ (i:=1) (N:=some 19) #[true,true,true,false,false,false] rfl rfl (by kernel_rfl) (by decide) (fun K hK=>?_)
    refine goes_ Tryz.func74 (by kernel_rfl) rfl #[.agg #[.int .i64 a0_0,.int .i64 a0_1,.string a0_2]] (by rfl) rfl rfl (by (try simp only [List.map_toArray,List.map_cons,List.map_nil]);first|done|rfl|(simp only [List.length_drop,List.length_take];rfl)) ?_
    with_reducible refine (impl_Cell_str.calls kj2 a0_0 a0_1 a0_2 t365 _ A17.out).mono ?_
    rintro e w21 ⟨rfl,hb⟩
    refine ⟨_,rfl,?_⟩
    have n0_:=Aside0.mk (blk_below (g:=gb362) (o:=.cells #[.int .i64 a0_0,.int .i64 a0_1,.string a0_2] 24 (0,0)) (by (with_reducible repeat (first|refine blk_drewN ?_ _|refine blk_drew ?_|refine blk_alloc ?_ _));exact BK362.out) hb)
    have n1_:=Aside0.mk (blk_below (g:=gb363) (o:=.cells #[.int .i64 a1_0,.int .i64 a1_1,.string a1_2] 24 (0,0)) (by (with_reducible repeat (first|refine blk_drewN ?_ _|refine blk_drew ?_|refine blk_alloc ?_ _));exact BK363.out) hb)
    have n2_:=Aside0.mk (below_step (by repeat (first|(with_reducible first|exact HB.out|apply below_alloc|apply pw_below_drewN|apply below_drew1|refine below_set ?_ GE362.out|refine below_set ?_ GE363.out)|exact HB.out)) hb)
    clear BK362
    clear BK363
    clear HB
    have BK362:=n0_
    have BK363:=n1_
    have HB:=n2_
    clear n0_ n1_ n2_
    (try clear hb)
    (try clear hb2)
    (try clear hk)
    (try clear hi)
    refine hK.out _ _ ⟨(blk_cell BK362.out 0).trans rfl,(blk_cell BK362.out 1).trans rfl,(blk_cell BK362.out 2).trans rfl,(blk_cell BK363.out 0).trans rfl,(blk_cell BK363.out 1).trans rfl,(blk_cell BK363.out 2).trans rfl⟩ (fun hHeld=>?_)
    clear hK K
    refine norm_ (a':=?_) ?_ ?_
    rotate_left
    ·show Act.put _ (some 19) _ = _
     simp only [Act.put,List.setIfInBounds_toArray,List.set_cons_zero,List.set_cons_succ,i64_w,i32_w]
     rfl
    refine one_ (i:=3) (N:=some 21) #[true,true,true,true,false,false] rfl rfl (by kernel_rfl) (by decide) (fun K hK=>?_)
    refine goes_ Tryz.func74 (by kernel_rfl) rfl #[.agg #[.int .i64 a1_0,.int .i64 a1_1,.string a1_2]] (by rfl) rfl rfl (by (try simp only [List.map_toArray,List.map_cons,List.map_nil]);first|done|rfl|(simp only [List.length_drop,List.length_take];rfl)) ?_
    with_reducible refine (impl_Cell_str.calls kj2 a1_0 a1_1 a1_2 t366 _ A18.out).mono ?_
    rintro e w22 ⟨rfl,hb⟩
    refine ⟨_,rfl,?_⟩
    have n0_:=Aside0.mk (blk_below (g:=gb362) (o:=.cells #[.int .i64 a0_0,.int .i64 a0_1,.string a0_2] 24 (0,0)) (by (with_reducible repeat (first|refine blk_drewN ?_ _|refine blk_drew ?_|refine blk_alloc ?_ _));exact BK362.out) hb)
    have n1_:=Aside0.mk (blk_below (g:=gb363) (o:=.cells #[.int .i64 a1_0,.int .i64 a1_1,.string a1_2] 24 (0,0)) (by (with_reducible repeat (first|refine blk_drewN ?_ _|refine blk_drew ?_|refine blk_alloc ?_ _));exact BK363.out) hb)
    have n2_:=Aside0.mk (below_step (by repeat (first|(with_reducible first|exact HB.out|apply below_alloc|apply pw_below_drewN|apply below_drew1|refine below_set ?_ GE362.out|refine below_set ?_ GE363.out)|exact HB.out)) hb)
    clear BK362
    clear BK363
    clear HB
    have BK362:=n0_
    have BK363:=n1_
    have HB:=n2_
    clear n0_ n1_ n2_
    (try clear hb)
    (try clear hb2)
    (try clear hk)
    (try clear hi)
    refine hK.out _ _ ⟨(blk_cell BK362.out 0).trans rfl,(blk_cell BK362.out 1).trans rfl,(blk_cell BK362.out 2).trans rfl,(blk_cell BK363.out 0).trans rfl,(blk_cell BK363.out 1).trans rfl,(blk_cell BK363.out 2).trans rfl⟩ (fun hHeld=>?_)
    clear hK K
    refine norm_ (a':=?_) ?_ ?_
    rotate_left
    ·show Act.put _ (some 21) _ = _
     simp only [Act.put,List.setIfInBounds_toArray,List.set_cons_zero,List.set_cons_succ,i64_w,i32_w]
     rfl
    refine one_ (i:=4) (N:=some 22) #[true,true,true,true,true,false] rfl rfl (by kernel_rfl) (by decide) (fun K hK=>?_)
    refine goes_ Tryz.func93 (by kernel_rfl) rfl #[.string t365,.string t366] (by rfl) rfl rfl (by (try simp only [List.map_toArray,List.map_cons,List.map_nil]);first|done|rfl|(simp only [List.length_drop,List.length_take];rfl)) ?_
    with_reducible refine (cmp_Compare_string.calls t365 t366 t367 _ A19.out).mono ?_
    rintro e w' ⟨rfl,⟨nd,rfl⟩⟩
    refine ⟨_,rfl,?_⟩
    refine hK.out _ _ ⟨(blk_cell BK362.out 0).trans rfl,(blk_cell BK362.out 1).trans rfl,(blk_cell BK362.out 2).trans rfl,(blk_cell BK363.out 0).trans rfl,(blk_cell BK363.out 1).trans rfl,(blk_cell BK363.out 2).trans rfl⟩ (fun hHeld=>?_)
    clear hK K
    refine norm_ (a':=?_) ?_ ?_
    rotate_left
    ·show Act.put _ (some 22) _ = _
     simp only [Act.put,List.setIfInBounds_toArray,List.set_cons_zero,List.set_cons_succ,i64_w,i32_w]
     rfl
    refine pure_ (i:=5) (N:=some 4) (v:=?_) (a':=?_) #[true,true,true,true,true,true] rfl rfl (by kernel_rfl) (fun _ _ _ h=>h) (Or.inl ⟨by rfl,?_⟩) ?_ ?_
    rotate_left
    ·intro w'
     go_simp
     first|with_reducible rfl|(rw [if_neg (by simp only [ByteArray.size_append,ByteArray.size_extract,eq_iff_iff,iff_true,iff_false] at *;omega)];try with_reducible rfl)
    rotate_left
    ·simp only [Act.put,List.setIfInBounds_toArray,List.set_cons_zero,List.set_cons_succ,i64_w,i32_w]
     rfl
    refine done_ (by kernel_rfl) ?_
    try go_wp2
    go_ret
    exact ⟨by first|rfl|(simp [errW_none,errW_some] <;> rfl)|(simp [*,errW_none,errW_some] <;> rfl),by repeat (first|(with_reducible first|exact HB.out|apply below_alloc|apply pw_below_drewN|apply below_drew1|refine below_set ?_ GE362.out|refine below_set ?_ GE363.out)|exact HB.out)⟩
def impl_Compare.f (k : Nat) (a0_0 : Int) (a0_1 : Int) (a0_2 : ByteArray) (a1_0 : Int) (a1_1 : Int) (a1_2 : ByteArray) : Option (Int):=(impl_CellOk.f a0_0 a0_1 a0_2).bind fun t370=>(if t370 = true then ((impl_CellOk.f a1_0 a1_1 a1_2).bind fun t371=>(if t371 = true then ((impl_compare.f k a0_0 a0_1 a0_2 a1_0 a1_1 a1_2).bind fun t372=>(some t372)) else (some 0))) else (some 0))
theorem impl_Compare.mono : ∀ a0 a1 a2 a3 a4 a5 k,LeO (impl_Compare.f k a0 a1 a2 a3 a4 a5) (impl_Compare.f (k + 1) a0 a1 a2 a3 a4 a5):=by
 intro a0 a1 a2 a3 a4 a5 k
 unfold impl_Compare.f
 repeat' first
   | (with_reducible exact impl_compare.mono _ _ _ _ _ _ _)
   | (with_reducible exact LeO.refl _)
   | (with_reducible exact LeO.none _)
   | (with_reducible refine LeO.ite ?_ ?_)
   | (with_reducible refine LeO.bind ?_ (fun _=>?_))
   | exact impl_compare.mono _ _ _ _ _ _ _
   | exact LeO.none _
   | refine LeO.ite ?_ ?_
   | refine LeO.bind ?_ (fun _=>?_)
set_option maxHeartbeats 8000000 in
set_option maxRecDepth 100000 in
theorem impl_Compare.calls (k : Nat) (a0_0 : Int) (a0_1 : Int) (a0_2 : ByteArray) (a1_0 : Int) (a1_1 : Int) (a1_2 : ByteArray) (r : Int) (w : World) (h : impl_Compare.f k a0_0 a0_1 a0_2 a1_0 a1_1 a1_2 = some r) (hT : Tabs w:=by first|assumption|(refine Aside0.out (p:=Tabs _) ?_;assumption)|(refine Tabs.below (w:=?ww) (Aside0.out ?ha) ?hb;(case ha=>assumption);(case hb=>repeat (first|(with_reducible first|exact Below.refl _ _|(refine Aside0.out ?_;assumption)|apply below_alloc|apply pw_below_drewN|apply below_drew1|(refine below_set ?_ (Aside0.out ?_);(rotate_left;assumption)))|(refine Aside0.out ?_;assumption))))|(refine Tabs.drewN (w:=?ww) (Aside0.out ?ha) _;(case ha=>assumption))) :
  Calls Tryz.prog 41 #[.agg #[.int .i64 a0_0,.int .i64 a0_1,.string a0_2],.agg #[.int .i64 a1_0,.int .i64 a1_1,.string a1_2]] w fun e w'=>e = .returned (.int .i64 r) ∧ Below w.heap.size w w':=by
 have HT_:=Aside0.mk hT
 clear hT
 have hu24:=Tryz.underlying24
 have HB:=Aside0.mk (Below.refl w.heap.size w)
 have H : ((impl_CellOk.f a0_0 a0_1 a0_2).bind fun t370=>(if t370 = true then ((impl_CellOk.f a1_0 a1_1 a1_2).bind fun t371=>(if t371 = true then ((impl_compare.f k a0_0 a0_1 a0_2 a1_0 a1_1 a1_2).bind fun t372=>(some t372)) else (some 0))) else (some 0))) = some r:=h
 clear h
 replace H:=Option.bind_eq_some_iff.mp H
 obtain ⟨t370,A30,H⟩:=H
 replace H : (if t370 = true then ((impl_CellOk.f a1_0 a1_1 a1_2).bind fun t371=>(if t371 = true then ((impl_compare.f k a0_0 a0_1 a0_2 a1_0 a1_1 a1_2).bind fun t372=>(some t372)) else (some 0))) else (some 0)) = some r:=H
 have A3:=Aside0.mk A30
 clear A30
 by_cases c4 : t370 = true
 ·subst c4
  have H1 : ((impl_CellOk.f a1_0 a1_1 a1_2).bind fun t371=>(if t371 = true then ((impl_compare.f k a0_0 a0_1 a0_2 a1_0 a1_1 a1_2).bind fun t372=>(some t372)) else (some 0))) = some r:=by rw [if_pos rfl] at H;exact H
  clear H
  have H:=H1
  clear H1
  replace H:=Option.bind_eq_some_iff.mp H
  obtain ⟨t371,A50,H⟩:=H
  replace H : (if t371 = true then ((impl_compare.f k a0_0 a0_1 a0_2 a1_0 a1_1 a1_2).bind fun t372=>(some t372)) else (some 0)) = some r:=H
  have A5:=Aside0.mk A50
  clear A50
  by_cases c6 : t371 = true
  ·subst c6
   have H1 : ((impl_compare.f k a0_0 a0_1 a0_2 a1_0 a1_1 a1_2).bind fun t372=>(some t372)) = some r:=by rw [if_pos rfl] at H;exact H
   clear H
   have H:=H1
   clear H1
   replace H:=Option.bind_eq_some_iff.mp H
   obtain ⟨t372,A70,H⟩:=H
   replace H : (some t372) = some r:=H
   have A7:=Aside0.mk A70
   clear A70
   obtain rfl:=Option.some.inj H
   go_enter Tryz.func41,Tryz.ntmps41
   go_wp2_with (first|((with_reducible refine gate_dst (N:=2) rfl ?_);refine box_event ?hg (N:=2) ?hd (cs:=#[.int .i64 a0_0,.int .i64 a0_1,.string a0_2]) (t:=24) ?hr ?_;(case hd=>rfl);(case hg=>rfl);(case hr=>first|(go_simp;done)|(go_simp;rfl));intro gb368 hg w8 hbox hb;have n0_:=Aside0.mk (below_step (by repeat (first|(with_reducible first|exact HB.out|apply below_alloc|apply pw_below_drewN|apply below_drew1)|exact HB.out)) hb);have n1_:=Aside0.mk (hbox);have n2_:=Aside0.mk ((by rw [hg];exact (below_size (by repeat (first|(with_reducible first|exact HB.out|apply below_alloc|apply pw_below_drewN|apply below_drew1)|exact HB.out))) : w.heap.size ≤ gb368));have n3_:=Aside0.mk ((by rw [hg];exact (below_size (by repeat (first|(with_reducible first|exact HB.out|apply below_alloc|apply pw_below_drewN|apply below_drew1)|exact HB.out))) : w.heap.size ≤ gb368));clear HB;have HB:=n0_;have BK368:=n1_;have GW368:=n2_;have GE368:=n3_;clear n0_ n1_ n2_ n3_;clear hb hbox hg)|((with_reducible refine gate_dst (N:=3) rfl ?_);refine box_event ?hg (N:=3) ?hd (cs:=#[.int .i64 a1_0,.int .i64 a1_1,.string a1_2]) (t:=24) ?hr ?_;(case hd=>rfl);(case hg=>rfl);(case hr=>first|(go_simp;done)|(go_simp;rfl));intro gb369 hg w9 hbox hb;have n0_:=Aside0.mk (blk_below (g:=gb368) (o:=.cells #[.int .i64 a0_0,.int .i64 a0_1,.string a0_2] 24 (0,0)) (by (with_reducible repeat (first|refine blk_drewN ?_ _|refine blk_drew ?_|refine blk_alloc ?_ _));exact BK368.out) hb);have n1_:=Aside0.mk (below_step (by repeat (first|(with_reducible first|exact HB.out|apply below_alloc|apply pw_below_drewN|apply below_drew1|refine below_set ?_ GE368.out)|exact HB.out)) hb);have n2_:=Aside0.mk (hbox);have n3_:=Aside0.mk ((by rw [hg];exact (below_size (by repeat (first|(with_reducible first|exact HB.out|apply below_alloc|apply pw_below_drewN|apply below_drew1|refine below_set ?_ GE368.out)|exact HB.out))) : w.heap.size ≤ gb369));have n4_:=Aside0.mk ((by rw [hg];exact (below_size (by repeat (first|(with_reducible first|exact HB.out|apply below_alloc|apply pw_below_drewN|apply below_drew1|refine below_set ?_ GE368.out)|exact HB.out))) : w.heap.size ≤ gb369));have n5_:=Aside0.mk ((by rw [hg];exact Nat.ne_of_lt (blk_lt (g:=gb368) (o:=.cells #[.int .i64 a0_0,.int .i64 a0_1,.string a0_2] 24 (0,0)) (by (with_reducible repeat (first|refine blk_drewN ?_ _|refine blk_drew ?_|refine blk_alloc ?_ _));exact BK368.out)) : gb368 ≠ gb369));have n6_:=Aside0.mk ((by rw [hg];exact Nat.ne_of_gt (blk_lt (g:=gb368) (o:=.cells #[.int .i64 a0_0,.int .i64 a0_1,.string a0_2] 24 (0,0)) (by (with_reducible repeat (first|refine blk_drewN ?_ _|refine blk_drew ?_|refine blk_alloc ?_ _));exact BK368.out)) : gb369 ≠ gb368));clear BK368;clear HB;have BK368:=n0_;have HB:=n1_;have BK369:=n2_;have GW369:=n3_;have GE369:=n4_;have NB368_369:=n5_;have NB369_368:=n6_;clear n0_ n1_ n2_ n3_ n4_ n5_ n6_;clear hb hbox hg;have hnb10:=NB368_369.out;have hnc10:=NB369_368.out;have hcz11_0 : w9.cell? ⟨gb368,0,none⟩ = some (.int .i64 a0_0):=(blk_cell BK368.out 0).trans rfl;have hcz11_1 : w9.cell? ⟨gb368,1,none⟩ = some (.int .i64 a0_1):=(blk_cell BK368.out 1).trans rfl;have hcz11_2 : w9.cell? ⟨gb368,2,none⟩ = some (.string a0_2):=(blk_cell BK368.out 2).trans rfl;have hfz11_0:=blk_frozen BK368.out 0;have hfz11_1:=blk_frozen BK368.out 1;have hfz11_2:=blk_frozen BK368.out 2)|((with_reducible refine gate_callee (f:=11) rfl ?_);refine goesL_ (some 6) rfl rfl Tryz.func11 (by kernel_rfl) rfl #[.agg #[.int .i64 a0_0,.int .i64 a0_1,.string a0_2]] rfl (by (try simp only [List.map_toArray,List.map_cons,List.map_nil]);first|done|rfl|(simp only [List.length_drop,List.length_take];rfl)) ?_;(with_reducible refine (impl_CellOk.calls a0_0 a0_1 a0_2 true _ A3.out).mono ?_);rintro e w12 ⟨rfl,hb⟩;refine ⟨_,rfl,?_⟩;have n0_:=Aside0.mk (blk_below (g:=gb368) (o:=.cells #[.int .i64 a0_0,.int .i64 a0_1,.string a0_2] 24 (0,0)) (by (with_reducible repeat (first|refine blk_drewN ?_ _|refine blk_drew ?_|refine blk_alloc ?_ _));exact BK368.out) hb);have n1_:=Aside0.mk (blk_below (g:=gb369) (o:=.cells #[.int .i64 a1_0,.int .i64 a1_1,.string a1_2] 24 (0,0)) (by (with_reducible repeat (first|refine blk_drewN ?_ _|refine blk_drew ?_|refine blk_alloc ?_ _));exact BK369.out) hb);have n2_:=Aside0.mk (below_step (by repeat (first|(with_reducible first|exact HB.out|apply below_alloc|apply pw_below_drewN|apply below_drew1|refine below_set ?_ GE368.out|refine below_set ?_ GE369.out)|exact HB.out)) hb);clear BK368;clear BK369;clear HB;have BK368:=n0_;have BK369:=n1_;have HB:=n2_;clear n0_ n1_ n2_;(try clear hb);(try clear hb2);(try clear hk);(try clear hi);have hcz13_0 : w12.cell? ⟨gb369,0,none⟩ = some (.int .i64 a1_0):=(blk_cell BK369.out 0).trans rfl;have hcz13_1 : w12.cell? ⟨gb369,1,none⟩ = some (.int .i64 a1_1):=(blk_cell BK369.out 1).trans rfl;have hcz13_2 : w12.cell? ⟨gb369,2,none⟩ = some (.string a1_2):=(blk_cell BK369.out 2).trans rfl;have hfz13_0:=blk_frozen BK369.out 0;have hfz13_1:=blk_frozen BK369.out 1;have hfz13_2:=blk_frozen BK369.out 2)|(go_at_call 11;(with_reducible refine (impl_CellOk.calls a1_0 a1_1 a1_2 true _ A5.out).mono ?_);rintro e w14 ⟨rfl,hb⟩;have n0_:=Aside0.mk (blk_below (g:=gb368) (o:=.cells #[.int .i64 a0_0,.int .i64 a0_1,.string a0_2] 24 (0,0)) (by (with_reducible repeat (first|refine blk_drewN ?_ _|refine blk_drew ?_|refine blk_alloc ?_ _));exact BK368.out) hb);have n1_:=Aside0.mk (blk_below (g:=gb369) (o:=.cells #[.int .i64 a1_0,.int .i64 a1_1,.string a1_2] 24 (0,0)) (by (with_reducible repeat (first|refine blk_drewN ?_ _|refine blk_drew ?_|refine blk_alloc ?_ _));exact BK369.out) hb);have n2_:=Aside0.mk (below_step (by repeat (first|(with_reducible first|exact HB.out|apply below_alloc|apply pw_below_drewN|apply below_drew1|refine below_set ?_ GE368.out|refine below_set ?_ GE369.out)|exact HB.out)) hb);clear BK368;clear BK369;clear HB;have BK368:=n0_;have BK369:=n1_;have HB:=n2_;clear n0_ n1_ n2_;(try clear hb);(try clear hb2);(try clear hk);(try clear hi);have hcz15_0 : w14.cell? ⟨gb368,0,none⟩ = some (.int .i64 a0_0):=(blk_cell BK368.out 0).trans rfl;have hcz15_1 : w14.cell? ⟨gb368,1,none⟩ = some (.int .i64 a0_1):=(blk_cell BK368.out 1).trans rfl;have hcz15_2 : w14.cell? ⟨gb368,2,none⟩ = some (.string a0_2):=(blk_cell BK368.out 2).trans rfl;have hfz15_0:=blk_frozen BK368.out 0;have hfz15_1:=blk_frozen BK368.out 1;have hfz15_2:=blk_frozen BK368.out 2;have hcz16_0 : w14.cell? ⟨gb369,0,none⟩ = some (.int .i64 a1_0):=(blk_cell BK369.out 0).trans rfl;have hcz16_1 : w14.cell? ⟨gb369,1,none⟩ = some (.int .i64 a1_1):=(blk_cell BK369.out 1).trans rfl;have hcz16_2 : w14.cell? ⟨gb369,2,none⟩ = some (.string a1_2):=(blk_cell BK369.out 2).trans rfl;have hfz16_0:=blk_frozen BK369.out 0;have hfz16_1:=blk_frozen BK369.out 1;have hfz16_2:=blk_frozen BK369.out 2)|((with_reducible refine gate_callee (f:=75) rfl ?_);refine goesL_ (some 15) rfl rfl Tryz.func75 (by kernel_rfl) rfl #[.agg #[.int .i64 a0_0,.int .i64 a0_1,.string a0_2],.agg #[.int .i64 a1_0,.int .i64 a1_1,.string a1_2]] rfl (by (try simp only [List.map_toArray,List.map_cons,List.map_nil]);first|done|rfl|(simp only [List.length_drop,List.length_take];rfl)) ?_;(with_reducible refine (impl_compare.calls k a0_0 a0_1 a0_2 a1_0 a1_1 a1_2 t372 _ A7.out).mono ?_);rintro e w17 ⟨rfl,hb⟩;refine ⟨_,rfl,?_⟩;have n0_:=Aside0.mk (blk_below (g:=gb368) (o:=.cells #[.int .i64 a0_0,.int .i64 a0_1,.string a0_2] 24 (0,0)) (by (with_reducible repeat (first|refine blk_drewN ?_ _|refine blk_drew ?_|refine blk_alloc ?_ _));exact BK368.out) hb);have n1_:=Aside0.mk (blk_below (g:=gb369) (o:=.cells #[.int .i64 a1_0,.int .i64 a1_1,.string a1_2] 24 (0,0)) (by (with_reducible repeat (first|refine blk_drewN ?_ _|refine blk_drew ?_|refine blk_alloc ?_ _));exact BK369.out) hb);have n2_:=Aside0.mk (below_step (by repeat (first|(with_reducible first|exact HB.out|apply below_alloc|apply pw_below_drewN|apply below_drew1|refine below_set ?_ GE368.out|refine below_set ?_ GE369.out)|exact HB.out)) hb);clear BK368;clear BK369;clear HB;have BK368:=n0_;have BK369:=n1_;have HB:=n2_;clear n0_ n1_ n2_;(try clear hb);(try clear hb2);(try clear hk);(try clear hi)))
   go_ret
   exact ⟨by first|rfl|(simp [errW_none,errW_some] <;> rfl)|(simp [*,errW_none,errW_some] <;> rfl),by repeat (first|(with_reducible first|exact HB.out|apply below_alloc|apply pw_below_drewN|apply below_drew1|refine below_set ?_ GE368.out|refine below_set ?_ GE369.out)|exact HB.out)⟩
  ·replace c6:=Bool.eq_false_iff.mpr c6
   subst c6
   have H1 : (some 0) = some r:=by rw [if_neg (show ¬ (false = true) by decide)] at H;exact H
   clear H
   have H:=H1
   clear H1
   obtain rfl:=Option.some.inj H
   go_enter Tryz.func41,Tryz.ntmps41
   go_wp2_with (first|((with_reducible refine gate_dst (N:=2) rfl ?_);refine box_event ?hg (N:=2) ?hd (cs:=#[.int .i64 a0_0,.int .i64 a0_1,.string a0_2]) (t:=24) ?hr ?_;(case hd=>rfl);(case hg=>rfl);(case hr=>first|(go_simp;done)|(go_simp;rfl));intro gb368 hg w18 hbox hb;have n0_:=Aside0.mk (below_step (by repeat (first|(with_reducible first|exact HB.out|apply below_alloc|apply pw_below_drewN|apply below_drew1)|exact HB.out)) hb);have n1_:=Aside0.mk (hbox);have n2_:=Aside0.mk ((by rw [hg];exact (below_size (by repeat (first|(with_reducible first|exact HB.out|apply below_alloc|apply pw_below_drewN|apply below_drew1)|exact HB.out))) : w.heap.size ≤ gb368));have n3_:=Aside0.mk ((by rw [hg];exact (below_size (by repeat (first|(with_reducible first|exact HB.out|apply below_alloc|apply pw_below_drewN|apply below_drew1)|exact HB.out))) : w.heap.size ≤ gb368));clear HB;have HB:=n0_;have BK368:=n1_;have GW368:=n2_;have GE368:=n3_;clear n0_ n1_ n2_ n3_;clear hb hbox hg)|((with_reducible refine gate_dst (N:=3) rfl ?_);refine box_event ?hg (N:=3) ?hd (cs:=#[.int .i64 a1_0,.int .i64 a1_1,.string a1_2]) (t:=24) ?hr ?_;(case hd=>rfl);(case hg=>rfl);(case hr=>first|(go_simp;done)|(go_simp;rfl));intro gb369 hg w19 hbox hb;have n0_:=Aside0.mk (blk_below (g:=gb368) (o:=.cells #[.int .i64 a0_0,.int .i64 a0_1,.string a0_2] 24 (0,0)) (by (with_reducible repeat (first|refine blk_drewN ?_ _|refine blk_drew ?_|refine blk_alloc ?_ _));exact BK368.out) hb);have n1_:=Aside0.mk (below_step (by repeat (first|(with_reducible first|exact HB.out|apply below_alloc|apply pw_below_drewN|apply below_drew1|refine below_set ?_ GE368.out)|exact HB.out)) hb);have n2_:=Aside0.mk (hbox);have n3_:=Aside0.mk ((by rw [hg];exact (below_size (by repeat (first|(with_reducible first|exact HB.out|apply below_alloc|apply pw_below_drewN|apply below_drew1|refine below_set ?_ GE368.out)|exact HB.out))) : w.heap.size ≤ gb369));have n4_:=Aside0.mk ((by rw [hg];exact (below_size (by repeat (first|(with_reducible first|exact HB.out|apply below_alloc|apply pw_below_drewN|apply below_drew1|refine below_set ?_ GE368.out)|exact HB.out))) : w.heap.size ≤ gb369));have n5_:=Aside0.mk ((by rw [hg];exact Nat.ne_of_lt (blk_lt (g:=gb368) (o:=.cells #[.int .i64 a0_0,.int .i64 a0_1,.string a0_2] 24 (0,0)) (by (with_reducible repeat (first|refine blk_drewN ?_ _|refine blk_drew ?_|refine blk_alloc ?_ _));exact BK368.out)) : gb368 ≠ gb369));have n6_:=Aside0.mk ((by rw [hg];exact Nat.ne_of_gt (blk_lt (g:=gb368) (o:=.cells #[.int .i64 a0_0,.int .i64 a0_1,.string a0_2] 24 (0,0)) (by (with_reducible repeat (first|refine blk_drewN ?_ _|refine blk_drew ?_|refine blk_alloc ?_ _));exact BK368.out)) : gb369 ≠ gb368));clear BK368;clear HB;have BK368:=n0_;have HB:=n1_;have BK369:=n2_;have GW369:=n3_;have GE369:=n4_;have NB368_369:=n5_;have NB369_368:=n6_;clear n0_ n1_ n2_ n3_ n4_ n5_ n6_;clear hb hbox hg;have hnb20:=NB368_369.out;have hnc20:=NB369_368.out;have hcz21_0 : w19.cell? ⟨gb368,0,none⟩ = some (.int .i64 a0_0):=(blk_cell BK368.out 0).trans rfl;have hcz21_1 : w19.cell? ⟨gb368,1,none⟩ = some (.int .i64 a0_1):=(blk_cell BK368.out 1).trans rfl;have hcz21_2 : w19.cell? ⟨gb368,2,none⟩ = some (.string a0_2):=(blk_cell BK368.out 2).trans rfl;have hfz21_0:=blk_frozen BK368.out 0;have hfz21_1:=blk_frozen BK368.out 1;have hfz21_2:=blk_frozen BK368.out 2)|((with_reducible refine gate_callee (f:=11) rfl ?_);refine goesL_ (some 6) rfl rfl Tryz.func11 (by kernel_rfl) rfl #[.agg #[.int .i64 a0_0,.int .i64 a0_1,.string a0_2]] rfl (by (try simp only [List.map_toArray,List.map_cons,List.map_nil]);first|done|rfl|(simp only [List.length_drop,List.length_take];rfl)) ?_;(with_reducible refine (impl_CellOk.calls a0_0 a0_1 a0_2 true _ A3.out).mono ?_);rintro e w22 ⟨rfl,hb⟩;refine ⟨_,rfl,?_⟩;have n0_:=Aside0.mk (blk_below (g:=gb368) (o:=.cells #[.int .i64 a0_0,.int .i64 a0_1,.string a0_2] 24 (0,0)) (by (with_reducible repeat (first|refine blk_drewN ?_ _|refine blk_drew ?_|refine blk_alloc ?_ _));exact BK368.out) hb);have n1_:=Aside0.mk (blk_below (g:=gb369) (o:=.cells #[.int .i64 a1_0,.int .i64 a1_1,.string a1_2] 24 (0,0)) (by (with_reducible repeat (first|refine blk_drewN ?_ _|refine blk_drew ?_|refine blk_alloc ?_ _));exact BK369.out) hb);have n2_:=Aside0.mk (below_step (by repeat (first|(with_reducible first|exact HB.out|apply below_alloc|apply pw_below_drewN|apply below_drew1|refine below_set ?_ GE368.out|refine below_set ?_ GE369.out)|exact HB.out)) hb);clear BK368;clear BK369;clear HB;have BK368:=n0_;have BK369:=n1_;have HB:=n2_;clear n0_ n1_ n2_;(try clear hb);(try clear hb2);(try clear hk);(try clear hi);have hcz23_0 : w22.cell? ⟨gb369,0,none⟩ = some (.int .i64 a1_0):=(blk_cell BK369.out 0).trans rfl;have hcz23_1 : w22.cell? ⟨gb369,1,none⟩ = some (.int .i64 a1_1):=(blk_cell BK369.out 1).trans rfl;have hcz23_2 : w22.cell? ⟨gb369,2,none⟩ = some (.string a1_2):=(blk_cell BK369.out 2).trans rfl;have hfz23_0:=blk_frozen BK369.out 0;have hfz23_1:=blk_frozen BK369.out 1;have hfz23_2:=blk_frozen BK369.out 2)|(go_at_call 11;(with_reducible refine (impl_CellOk.calls a1_0 a1_1 a1_2 false _ A5.out).mono ?_);rintro e w24 ⟨rfl,hb⟩;have n0_:=Aside0.mk (blk_below (g:=gb368) (o:=.cells #[.int .i64 a0_0,.int .i64 a0_1,.string a0_2] 24 (0,0)) (by (with_reducible repeat (first|refine blk_drewN ?_ _|refine blk_drew ?_|refine blk_alloc ?_ _));exact BK368.out) hb);have n1_:=Aside0.mk (blk_below (g:=gb369) (o:=.cells #[.int .i64 a1_0,.int .i64 a1_1,.string a1_2] 24 (0,0)) (by (with_reducible repeat (first|refine blk_drewN ?_ _|refine blk_drew ?_|refine blk_alloc ?_ _));exact BK369.out) hb);have n2_:=Aside0.mk (below_step (by repeat (first|(with_reducible first|exact HB.out|apply below_alloc|apply pw_below_drewN|apply below_drew1|refine below_set ?_ GE368.out|refine below_set ?_ GE369.out)|exact HB.out)) hb);clear BK368;clear BK369;clear HB;have BK368:=n0_;have BK369:=n1_;have HB:=n2_;clear n0_ n1_ n2_;(try clear hb);(try clear hb2);(try clear hk);(try clear hi)))
   go_ret
   exact ⟨by first|rfl|(simp [errW_none,errW_some] <;> rfl)|(simp [*,errW_none,errW_some] <;> rfl),by repeat (first|(with_reducible first|exact HB.out|apply below_alloc|apply pw_below_drewN|apply below_drew1|refine below_set ?_ GE368.out|refine below_set ?_ GE369.out)|exact HB.out)⟩
 ·replace c4:=Bool.eq_false_iff.mpr c4
  subst c4
  have H1 : (some 0) = some r:=by rw [if_neg (show ¬ (false = true) by decide)] at H;exact H
  clear H
  have H:=H1
  clear H1
  obtain rfl:=Option.some.inj H
  go_enter Tryz.func41,Tryz.ntmps41
  go_wp2_with (first|((with_reducible refine gate_dst (N:=2) rfl ?_);refine box_event ?hg (N:=2) ?hd (cs:=#[.int .i64 a0_0,.int .i64 a0_1,.string a0_2]) (t:=24) ?hr ?_;(case hd=>rfl);(case hg=>rfl);(case hr=>first|(go_simp;done)|(go_simp;rfl));intro gb368 hg w25 hbox hb;have n0_:=Aside0.mk (below_step (by repeat (first|(with_reducible first|exact HB.out|apply below_alloc|apply pw_below_drewN|apply below_drew1)|exact HB.out)) hb);have n1_:=Aside0.mk (hbox);have n2_:=Aside0.mk ((by rw [hg];exact (below_size (by repeat (first|(with_reducible first|exact HB.out|apply below_alloc|apply pw_below_drewN|apply below_drew1)|exact HB.out))) : w.heap.size ≤ gb368));have n3_:=Aside0.mk ((by rw [hg];exact (below_size (by repeat (first|(with_reducible first|exact HB.out|apply below_alloc|apply pw_below_drewN|apply below_drew1)|exact HB.out))) : w.heap.size ≤ gb368));clear HB;have HB:=n0_;have BK368:=n1_;have GW368:=n2_;have GE368:=n3_;clear n0_ n1_ n2_ n3_;clear hb hbox hg)|((with_reducible refine gate_dst (N:=3) rfl ?_);refine box_event ?hg (N:=3) ?hd (cs:=#[.int .i64 a1_0,.int .i64 a1_1,.string a1_2]) (t:=24) ?hr ?_;(case hd=>rfl);(case hg=>rfl);(case hr=>first|(go_simp;done)|(go_simp;rfl));intro gb369 hg w26 hbox hb;have n0_:=Aside0.mk (blk_below (g:=gb368) (o:=.cells #[.int .i64 a0_0,.int .i64 a0_1,.string a0_2] 24 (0,0)) (by (with_reducible repeat (first|refine blk_drewN ?_ _|refine blk_drew ?_|refine blk_alloc ?_ _));exact BK368.out) hb);have n1_:=Aside0.mk (below_step (by repeat (first|(with_reducible first|exact HB.out|apply below_alloc|apply pw_below_drewN|apply below_drew1|refine below_set ?_ GE368.out)|exact HB.out)) hb);have n2_:=Aside0.mk (hbox);have n3_:=Aside0.mk ((by rw [hg];exact (below_size (by repeat (first|(with_reducible first|exact HB.out|apply below_alloc|apply pw_below_drewN|apply below_drew1|refine below_set ?_ GE368.out)|exact HB.out))) : w.heap.size ≤ gb369));have n4_:=Aside0.mk ((by rw [hg];exact (below_size (by repeat (first|(with_reducible first|exact HB.out|apply below_alloc|apply pw_below_drewN|apply below_drew1|refine below_set ?_ GE368.out)|exact HB.out))) : w.heap.size ≤ gb369));have n5_:=Aside0.mk ((by rw [hg];exact Nat.ne_of_lt (blk_lt (g:=gb368) (o:=.cells #[.int .i64 a0_0,.int .i64 a0_1,.string a0_2] 24 (0,0)) (by (with_reducible repeat (first|refine blk_drewN ?_ _|refine blk_drew ?_|refine blk_alloc ?_ _));exact BK368.out)) : gb368 ≠ gb369));have n6_:=Aside0.mk ((by rw [hg];exact Nat.ne_of_gt (blk_lt (g:=gb368) (o:=.cells #[.int .i64 a0_0,.int .i64 a0_1,.string a0_2] 24 (0,0)) (by (with_reducible repeat (first|refine blk_drewN ?_ _|refine blk_drew ?_|refine blk_alloc ?_ _));exact BK368.out)) : gb369 ≠ gb368));clear BK368;clear HB;have BK368:=n0_;have HB:=n1_;have BK369:=n2_;have GW369:=n3_;have GE369:=n4_;have NB368_369:=n5_;have NB369_368:=n6_;clear n0_ n1_ n2_ n3_ n4_ n5_ n6_;clear hb hbox hg;have hnb27:=NB368_369.out;have hnc27:=NB369_368.out;have hcz28_0 : w26.cell? ⟨gb368,0,none⟩ = some (.int .i64 a0_0):=(blk_cell BK368.out 0).trans rfl;have hcz28_1 : w26.cell? ⟨gb368,1,none⟩ = some (.int .i64 a0_1):=(blk_cell BK368.out 1).trans rfl;have hcz28_2 : w26.cell? ⟨gb368,2,none⟩ = some (.string a0_2):=(blk_cell BK368.out 2).trans rfl;have hfz28_0:=blk_frozen BK368.out 0;have hfz28_1:=blk_frozen BK368.out 1;have hfz28_2:=blk_frozen BK368.out 2)|((with_reducible refine gate_callee (f:=11) rfl ?_);refine goesL_ (some 6) rfl rfl Tryz.func11 (by kernel_rfl) rfl #[.agg #[.int .i64 a0_0,.int .i64 a0_1,.string a0_2]] rfl (by (try simp only [List.map_toArray,List.map_cons,List.map_nil]);first|done|rfl|(simp only [List.length_drop,List.length_take];rfl)) ?_;(with_reducible refine (impl_CellOk.calls a0_0 a0_1 a0_2 false _ A3.out).mono ?_);rintro e w29 ⟨rfl,hb⟩;refine ⟨_,rfl,?_⟩;have n0_:=Aside0.mk (blk_below (g:=gb368) (o:=.cells #[.int .i64 a0_0,.int .i64 a0_1,.string a0_2] 24 (0,0)) (by (with_reducible repeat (first|refine blk_drewN ?_ _|refine blk_drew ?_|refine blk_alloc ?_ _));exact BK368.out) hb);have n1_:=Aside0.mk (blk_below (g:=gb369) (o:=.cells #[.int .i64 a1_0,.int .i64 a1_1,.string a1_2] 24 (0,0)) (by (with_reducible repeat (first|refine blk_drewN ?_ _|refine blk_drew ?_|refine blk_alloc ?_ _));exact BK369.out) hb);have n2_:=Aside0.mk (below_step (by repeat (first|(with_reducible first|exact HB.out|apply below_alloc|apply pw_below_drewN|apply below_drew1|refine below_set ?_ GE368.out|refine below_set ?_ GE369.out)|exact HB.out)) hb);clear BK368;clear BK369;clear HB;have BK368:=n0_;have BK369:=n1_;have HB:=n2_;clear n0_ n1_ n2_;(try clear hb);(try clear hb2);(try clear hk);(try clear hi)))
  go_ret
  exact ⟨by first|rfl|(simp [errW_none,errW_some] <;> rfl)|(simp [*,errW_none,errW_some] <;> rfl),by repeat (first|(with_reducible first|exact HB.out|apply below_alloc|apply pw_below_drewN|apply below_drew1|refine below_set ?_ GE368.out|refine below_set ?_ GE369.out)|exact HB.out)⟩
def impl_IndexOf.f (a0 : ByteArray) (a1 : ByteArray) : Option (Int):=if a1.toList = ([] : List UInt8) then (some 0) else ((strings_Index.f a0 a1).bind fun t373=>(some (wrap64 (t373 + 1))))
set_option maxHeartbeats 8000000 in
set_option maxRecDepth 100000 in
theorem impl_IndexOf.calls (a0 : ByteArray) (a1 : ByteArray) (r : Int) (w : World) (h : impl_IndexOf.f a0 a1 = some r) (hT : Tabs w:=by first|assumption|(refine Aside0.out (p:=Tabs _) ?_;assumption)|(refine Tabs.below (w:=?ww) (Aside0.out ?ha) ?hb;(case ha=>assumption);(case hb=>repeat (first|(with_reducible first|exact Below.refl _ _|(refine Aside0.out ?_;assumption)|apply below_alloc|apply pw_below_drewN|apply below_drew1|(refine below_set ?_ (Aside0.out ?_);(rotate_left;assumption)))|(refine Aside0.out ?_;assumption))))|(refine Tabs.drewN (w:=?ww) (Aside0.out ?ha) _;(case ha=>assumption))) :
  Calls Tryz.prog 42 #[.string a0,.string a1] w fun e w'=>e = .returned (.int .i64 r) ∧ Drawn0 w w':=by
 have HT_:=Aside0.mk hT
 clear hT
 have H : (if a1.toList = ([] : List UInt8) then (some 0) else ((strings_Index.f a0 a1).bind fun t373=>(some (wrap64 (t373 + 1))))) = some r:=h
 clear h
 by_cases c3 : a1.toList = ([] : List UInt8)
 ·rw [if_pos c3] at H
  have c3b0 : (a1.toList == ([] : List UInt8)) = true:=beq_iff_eq.mpr c3
  have c3b1 : (a1.toList != ([] : List UInt8)) = false:=bne_eq_false_iff_eq.mpr c3
  clear c3
  obtain rfl:=Option.some.inj H
  go_enter Tryz.func42,Tryz.ntmps42
  go_wp2
  go_ret
  exact ⟨by first|rfl|(simp;done)|(simp [*];done),by repeat (first|exact Drawn0.refl _|apply Drawn0.step)⟩
 ·rw [if_neg c3] at H
  have c3b0 : (a1.toList == ([] : List UInt8)) = false:=beq_eq_false_iff_ne.mpr c3
  have c3b1 : (a1.toList != ([] : List UInt8)) = true:=bne_iff_ne.mpr c3
  replace H:=Option.bind_eq_some_iff.mp H
  obtain ⟨t373,A40,H⟩:=H
  replace H : (some (wrap64 (t373 + 1))) = some r:=H
  have A4:=Aside0.mk A40
  clear A40
  obtain rfl:=Option.some.inj H
  go_enter Tryz.func42,Tryz.ntmps42
  go_wp2_with (first|((with_reducible refine gate_callee (f:=76) rfl ?_);refine goesL_ (some 9) rfl rfl Tryz.func76 (by kernel_rfl) rfl #[.string a0,.string a1] rfl (by (try simp only [List.map_toArray,List.map_cons,List.map_nil]);first|done|rfl|(simp only [List.length_drop,List.length_take];rfl)) ?_;(with_reducible refine (strings_Index.calls a0 a1 t373 _ A4.out).mono ?_);rintro e w' ⟨rfl,⟨nd,rfl⟩⟩;refine ⟨_,rfl,?_⟩))
  go_ret
  exact ⟨by first|rfl|(simp;done)|(simp [*];done),by repeat (first|exact Drawn0.refl _|apply Drawn0.step)⟩
def laws_cells.f (k : Nat)  : Option (Bool):=(impl_FieldCell.f (⟨#[51]⟩ : ByteArray)).bind fun bt374=>((impl_Arith.f k 20 bt374.1 bt374.2.1 bt374.2.2 1 1000000 (⟨#[]⟩ : ByteArray)).bind fun bt378=>(if bt374.1 = 3 then (if bt374.2.1 = 3000000 then (if bt378.2.2.2 = 0 then (if bt378.2.1 = 4000000 then ((impl_ToStr.f k bt378.1 bt378.2.1 bt378.2.2.1).bind fun t383=>(if t383.toList = ([52] : List UInt8) then ((impl_Truth.f bt378.1 bt378.2.1 bt378.2.2.1).bind fun t384=>(if t384 = true then ((impl_Compare.f k bt374.1 bt374.2.1 bt374.2.2 bt378.1 bt378.2.1 bt378.2.2.1).bind fun t385=>(if t385 = (-1) then ((impl_IndexOf.f (⟨#[97,98,99]⟩ : ByteArray) (⟨#[99]⟩ : ByteArray)).bind fun t386=>(some (t386 == 3))) else (some false))) else (some false))) else (some false))) else (some false)) else (some false)) else (some false)) else (some false)))
theorem laws_cells.mono : ∀ k,LeO (laws_cells.f k ) (laws_cells.f (k + 1) ):=by
 intro  k
 unfold laws_cells.f
 repeat' first
   | (with_reducible exact impl_Arith.mono _ _ _ _ _ _ _ _)
   | (with_reducible exact impl_Compare.mono _ _ _ _ _ _ _)
   | (with_reducible exact impl_ToStr.mono _ _ _ _)
   | (with_reducible exact LeO.refl _)
   | (with_reducible exact LeO.none _)
   | (with_reducible refine LeO.ite ?_ ?_)
   | (with_reducible refine LeO.bind ?_ (fun _=>?_))
   | exact impl_Arith.mono _ _ _ _ _ _ _ _
   | exact impl_Compare.mono _ _ _ _ _ _ _
   | exact impl_ToStr.mono _ _ _ _
   | exact LeO.none _
   | refine LeO.ite ?_ ?_
   | refine LeO.bind ?_ (fun _=>?_)
set_option maxHeartbeats 8000000 in
set_option maxRecDepth 100000 in
theorem laws_cells.calls (k : Nat)  (r : Bool) (w : World) (h : laws_cells.f k  = some r) (hT : Tabs w:=by first|assumption|(refine Aside0.out (p:=Tabs _) ?_;assumption)|(refine Tabs.below (w:=?ww) (Aside0.out ?ha) ?hb;(case ha=>assumption);(case hb=>repeat (first|(with_reducible first|exact Below.refl _ _|(refine Aside0.out ?_;assumption)|apply below_alloc|apply pw_below_drewN|apply below_drew1|(refine below_set ?_ (Aside0.out ?_);(rotate_left;assumption)))|(refine Aside0.out ?_;assumption))))|(refine Tabs.drewN (w:=?ww) (Aside0.out ?ha) _;(case ha=>assumption))) (hr : r = true:=by first|assumption|rfl|(refine Aside0.out ?_;assumption)) :
  Calls Tryz.prog 9 #[] w fun e w'=>e = .returned (.bool r) ∧ Below w.heap.size w w':=by
 have HT_:=Aside0.mk hT
 clear hT
 subst hr
 have hu24:=Tryz.underlying24
 have HB:=Aside0.mk (Below.refl w.heap.size w)
 have H : ((impl_FieldCell.f (⟨#[51]⟩ : ByteArray)).bind fun bt374=>((impl_Arith.f k 20 bt374.1 bt374.2.1 bt374.2.2 1 1000000 (⟨#[]⟩ : ByteArray)).bind fun bt378=>(if bt374.1 = 3 then (if bt374.2.1 = 3000000 then (if bt378.2.2.2 = 0 then (if bt378.2.1 = 4000000 then ((impl_ToStr.f k bt378.1 bt378.2.1 bt378.2.2.1).bind fun t383=>(if t383.toList = ([52] : List UInt8) then ((impl_Truth.f bt378.1 bt378.2.1 bt378.2.2.1).bind fun t384=>(if t384 = true then ((impl_Compare.f k bt374.1 bt374.2.1 bt374.2.2 bt378.1 bt378.2.1 bt378.2.2.1).bind fun t385=>(if t385 = (-1) then ((impl_IndexOf.f (⟨#[97,98,99]⟩ : ByteArray) (⟨#[99]⟩ : ByteArray)).bind fun t386=>(some (t386 == 3))) else (some false))) else (some false))) else (some false))) else (some false)) else (some false)) else (some false)) else (some false)))) = some true:=h
 clear h
 replace H:=Option.bind_eq_some_iff.mp H
 obtain ⟨⟨t374,t375,t376⟩,A10,H⟩:=H
 replace H : ((impl_Arith.f k 20 t374 t375 t376 1 1000000 (⟨#[]⟩ : ByteArray)).bind fun bt378=>(if t374 = 3 then (if t375 = 3000000 then (if bt378.2.2.2 = 0 then (if bt378.2.1 = 4000000 then ((impl_ToStr.f k bt378.1 bt378.2.1 bt378.2.2.1).bind fun t383=>(if t383.toList = ([52] : List UInt8) then ((impl_Truth.f bt378.1 bt378.2.1 bt378.2.2.1).bind fun t384=>(if t384 = true then ((impl_Compare.f k t374 t375 t376 bt378.1 bt378.2.1 bt378.2.2.1).bind fun t385=>(if t385 = (-1) then ((impl_IndexOf.f (⟨#[97,98,99]⟩ : ByteArray) (⟨#[99]⟩ : ByteArray)).bind fun t386=>(some (t386 == 3))) else (some false))) else (some false))) else (some false))) else (some false)) else (some false)) else (some false)) else (some false))) = some true:=H
 have A1:=Aside0.mk A10
 clear A10
 replace H:=Option.bind_eq_some_iff.mp H
 obtain ⟨⟨t378,t379,t380,t381⟩,A20,H⟩:=H
 replace H : (if t374 = 3 then (if t375 = 3000000 then (if t381 = 0 then (if t379 = 4000000 then ((impl_ToStr.f k t378 t379 t380).bind fun t383=>(if t383.toList = ([52] : List UInt8) then ((impl_Truth.f t378 t379 t380).bind fun t384=>(if t384 = true then ((impl_Compare.f k t374 t375 t376 t378 t379 t380).bind fun t385=>(if t385 = (-1) then ((impl_IndexOf.f (⟨#[97,98,99]⟩ : ByteArray) (⟨#[99]⟩ : ByteArray)).bind fun t386=>(some (t386 == 3))) else (some false))) else (some false))) else (some false))) else (some false)) else (some false)) else (some false)) else (some false)) = some true:=H
 have A2:=Aside0.mk A20
 clear A20
 by_cases c3 : t374 = 3
 ·rw [if_pos c3] at H
  have c3b0 : (t374 == 3) = true:=beq_iff_eq.mpr c3
  have c3b1 : (t374 != 3) = false:=bne_eq_false_iff_eq.mpr c3
  clear c3
  by_cases c4 : t375 = 3000000
  ·rw [if_pos c4] at H
   have c4b0 : (t375 == 3000000) = true:=beq_iff_eq.mpr c4
   have c4b1 : (t375 != 3000000) = false:=bne_eq_false_iff_eq.mpr c4
   clear c4
   by_cases c5 : t381 = 0
   ·rw [if_pos c5] at H
    have c5b0 : (t381 == 0) = true:=beq_iff_eq.mpr c5
    have c5b1 : (t381 != 0) = false:=bne_eq_false_iff_eq.mpr c5
    clear c5
    by_cases c6 : t379 = 4000000
    ·rw [if_pos c6] at H
     have c6b0 : (t379 == 4000000) = true:=beq_iff_eq.mpr c6
     have c6b1 : (t379 != 4000000) = false:=bne_eq_false_iff_eq.mpr c6
     clear c6
     replace H:=Option.bind_eq_some_iff.mp H
     obtain ⟨t383,A70,H⟩:=H
     replace H : (if t383.toList = ([52] : List UInt8) then ((impl_Truth.f t378 t379 t380).bind fun t384=>(if t384 = true then ((impl_Compare.f k t374 t375 t376 t378 t379 t380).bind fun t385=>(if t385 = (-1) then ((impl_IndexOf.f (⟨#[97,98,99]⟩ : ByteArray) (⟨#[99]⟩ : ByteArray)).bind fun t386=>(some (t386 == 3))) else (some false))) else (some false))) else (some false)) = some true:=H
     have A7:=Aside0.mk A70
     clear A70
     by_cases c8 : t383.toList = ([52] : List UInt8)
     ·rw [if_pos c8] at H
      have c8b0 : (t383.toList == ([52] : List UInt8)) = true:=beq_iff_eq.mpr c8
      have c8b1 : (t383.toList != ([52] : List UInt8)) = false:=bne_eq_false_iff_eq.mpr c8
      clear c8
      replace H:=Option.bind_eq_some_iff.mp H
      obtain ⟨t384,A90,H⟩:=H
      replace H : (if t384 = true then ((impl_Compare.f k t374 t375 t376 t378 t379 t380).bind fun t385=>(if t385 = (-1) then ((impl_IndexOf.f (⟨#[97,98,99]⟩ : ByteArray) (⟨#[99]⟩ : ByteArray)).bind fun t386=>(some (t386 == 3))) else (some false))) else (some false)) = some true:=H
      have A9:=Aside0.mk A90
      clear A90
      by_cases c10 : t384 = true
      ·subst c10
       have H1 : ((impl_Compare.f k t374 t375 t376 t378 t379 t380).bind fun t385=>(if t385 = (-1) then ((impl_IndexOf.f (⟨#[97,98,99]⟩ : ByteArray) (⟨#[99]⟩ : ByteArray)).bind fun t386=>(some (t386 == 3))) else (some false))) = some true:=by rw [if_pos rfl] at H;exact H
       clear H
       have H:=H1
       clear H1
       replace H:=Option.bind_eq_some_iff.mp H
       obtain ⟨t385,A110,H⟩:=H
       replace H : (if t385 = (-1) then ((impl_IndexOf.f (⟨#[97,98,99]⟩ : ByteArray) (⟨#[99]⟩ : ByteArray)).bind fun t386=>(some (t386 == 3))) else (some false)) = some true:=H
       have A11:=Aside0.mk A110
       clear A110
       by_cases c12 : t385 = (-1)
       ·rw [if_pos c12] at H
        have c12b0 : (t385 == (-1)) = true:=beq_iff_eq.mpr c12
        have c12b1 : (t385 != (-1)) = false:=bne_eq_false_iff_eq.mpr c12
        clear c12
        replace H:=Option.bind_eq_some_iff.mp H
        obtain ⟨t386,A130,H⟩:=H
        replace H : (some (t386 == 3)) = some true:=H
        have A13:=Aside0.mk A130
        clear A130
        have HOR_:=Aside0.mk (Option.some.inj H)
        clear H
        go_enter Tryz.func9,Tryz.ntmps9
        go_wp2_with (first|((with_reducible refine gate_callee (f:=39) rfl ?_);refine goesL_ (some 4) rfl rfl Tryz.func39 (by kernel_rfl) rfl #[.string (⟨#[51]⟩ : ByteArray)] rfl (by (try simp only [List.map_toArray,List.map_cons,List.map_nil]);first|done|rfl|(simp only [List.length_drop,List.length_take];rfl)) ?_;(with_reducible refine (impl_FieldCell.calls (⟨#[51]⟩ : ByteArray) t374 t375 t376 _ A1.out).mono ?_);rintro e w14 ⟨rfl,hb⟩;refine ⟨_,rfl,?_⟩;have n0_:=Aside0.mk (below_step (by repeat (first|(with_reducible first|exact HB.out|apply below_alloc|apply pw_below_drewN|apply below_drew1)|exact HB.out)) hb);clear HB;have HB:=n0_;clear n0_;(try clear hb);(try clear hb2);(try clear hk);(try clear hi))|((with_reducible refine gate_dst (N:=1) rfl ?_);refine box_event ?hg (N:=1) ?hd (cs:=#[.int .i64 0,.int .i64 0,.string (⟨#[]⟩ : ByteArray)]) (t:=24) ?hr ?_;(case hd=>rfl);(case hg=>rfl);(case hr=>first|(go_simp;done)|(go_simp;rfl));intro gb377 hg w15 hbox hb;have n0_:=Aside0.mk (below_step (by repeat (first|(with_reducible first|exact HB.out|apply below_alloc|apply pw_below_drewN|apply below_drew1)|exact HB.out)) hb);have n1_:=Aside0.mk (hbox);have n2_:=Aside0.mk ((by rw [hg];exact (below_size (by repeat (first|(with_reducible first|exact HB.out|apply below_alloc|apply pw_below_drewN|apply below_drew1)|exact HB.out))) : w.heap.size ≤ gb377));have n3_:=Aside0.mk ((by rw [hg];exact (below_size (by repeat (first|(with_reducible first|exact HB.out|apply below_alloc|apply pw_below_drewN|apply below_drew1)|exact HB.out))) : w.heap.size ≤ gb377));clear HB;have HB:=n0_;have BK377:=n1_;have GW377:=n2_;have GE377:=n3_;clear n0_ n1_ n2_ n3_;clear hb hbox hg;have hcz16_0 : w15.cell? ⟨gb377,0,none⟩ = some (.int .i64 0):=(blk_cell BK377.out 0).trans rfl;have hcz16_1 : w15.cell? ⟨gb377,1,none⟩ = some (.int .i64 0):=(blk_cell BK377.out 1).trans rfl;have hcz16_2 : w15.cell? ⟨gb377,2,none⟩ = some (.string (⟨#[]⟩ : ByteArray)):=(blk_cell BK377.out 2).trans rfl;have hfz16_0:=blk_frozen BK377.out 0;have hfz16_1:=blk_frozen BK377.out 1;have hfz16_2:=blk_frozen BK377.out 2)|((with_reducible refine gate_callee (f:=7) rfl ?_);refine goesL_ (some 8) rfl rfl Tryz.func7 (by kernel_rfl) rfl #[.int .i64 20,.agg #[.int .i64 t374,.int .i64 t375,.string t376],.agg #[.int .i64 1,.int .i64 1000000,.string (⟨#[]⟩ : ByteArray)]] rfl (by (try simp only [List.map_toArray,List.map_cons,List.map_nil]);first|done|rfl|(simp only [List.length_drop,List.length_take];rfl)) ?_;(with_reducible refine (impl_Arith.calls k 20 t374 t375 t376 1 1000000 (⟨#[]⟩ : ByteArray) t378 t379 t380 t381 _ A2.out).mono ?_);rintro e w17 ⟨rfl,hb⟩;refine ⟨_,rfl,?_⟩;have n0_:=Aside0.mk (blk_below (g:=gb377) (o:=.cells #[.int .i64 t374,.int .i64 t375,.string t376] 24 (0,0)) (by (with_reducible repeat (first|refine blk_drewN ?_ _|refine blk_drew ?_|refine blk_alloc ?_ _));refine blk_put (cs:=#[.int .i64 t374,.int .i64 t375,.string (⟨#[]⟩ : ByteArray)]) ?_ 2 _ rfl;(with_reducible repeat (first|refine blk_drewN ?_ _|refine blk_drew ?_|refine blk_alloc ?_ _));refine blk_put (cs:=#[.int .i64 t374,.int .i64 0,.string (⟨#[]⟩ : ByteArray)]) ?_ 1 _ rfl;(with_reducible repeat (first|refine blk_drewN ?_ _|refine blk_drew ?_|refine blk_alloc ?_ _));refine blk_put (cs:=#[.int .i64 0,.int .i64 0,.string (⟨#[]⟩ : ByteArray)]) ?_ 0 _ rfl;(with_reducible repeat (first|refine blk_drewN ?_ _|refine blk_drew ?_|refine blk_alloc ?_ _));exact BK377.out) hb);have n1_:=Aside0.mk (below_step (by repeat (first|(with_reducible first|exact HB.out|apply below_alloc|apply pw_below_drewN|apply below_drew1|refine below_set ?_ GE377.out)|exact HB.out)) hb);clear BK377;clear HB;have BK377:=n0_;have HB:=n1_;clear n0_ n1_;(try clear hb);(try clear hb2);(try clear hk);(try clear hi))|((with_reducible refine gate_dst (N:=2) rfl ?_);refine box_event ?hg (N:=2) ?hd (cs:=#[.int .i64 0,.int .i64 0,.string (⟨#[]⟩ : ByteArray)]) (t:=24) ?hr ?_;(case hd=>rfl);(case hg=>rfl);(case hr=>first|(go_simp;done)|(go_simp;rfl));intro gb382 hg w18 hbox hb;have n0_:=Aside0.mk (blk_below (g:=gb377) (o:=.cells #[.int .i64 t374,.int .i64 t375,.string t376] 24 (0,0)) (by (with_reducible repeat (first|refine blk_drewN ?_ _|refine blk_drew ?_|refine blk_alloc ?_ _));exact BK377.out) hb);have n1_:=Aside0.mk (below_step (by repeat (first|(with_reducible first|exact HB.out|apply below_alloc|apply pw_below_drewN|apply below_drew1|refine below_set ?_ GE377.out)|exact HB.out)) hb);have n2_:=Aside0.mk (hbox);have n3_:=Aside0.mk ((by rw [hg];exact (below_size (by repeat (first|(with_reducible first|exact HB.out|apply below_alloc|apply pw_below_drewN|apply below_drew1|refine below_set ?_ GE377.out)|exact HB.out))) : w.heap.size ≤ gb382));have n4_:=Aside0.mk ((by rw [hg];exact (below_size (by repeat (first|(with_reducible first|exact HB.out|apply below_alloc|apply pw_below_drewN|apply below_drew1|refine below_set ?_ GE377.out)|exact HB.out))) : w.heap.size ≤ gb382));have n5_:=Aside0.mk ((by rw [hg];exact Nat.ne_of_lt (blk_lt (g:=gb377) (o:=.cells #[.int .i64 t374,.int .i64 t375,.string t376] 24 (0,0)) (by (with_reducible repeat (first|refine blk_drewN ?_ _|refine blk_drew ?_|refine blk_alloc ?_ _));exact BK377.out)) : gb377 ≠ gb382));have n6_:=Aside0.mk ((by rw [hg];exact Nat.ne_of_gt (blk_lt (g:=gb377) (o:=.cells #[.int .i64 t374,.int .i64 t375,.string t376] 24 (0,0)) (by (with_reducible repeat (first|refine blk_drewN ?_ _|refine blk_drew ?_|refine blk_alloc ?_ _));exact BK377.out)) : gb382 ≠ gb377));clear BK377;clear HB;have BK377:=n0_;have HB:=n1_;have BK382:=n2_;have GW382:=n3_;have GE382:=n4_;have NB377_382:=n5_;have NB382_377:=n6_;clear n0_ n1_ n2_ n3_ n4_ n5_ n6_;clear hb hbox hg;have hnb19:=NB382_377.out;have hnc19:=NB377_382.out;have hcz20_0 : w18.cell? ⟨gb382,0,none⟩ = some (.int .i64 0):=(blk_cell BK382.out 0).trans rfl;have hcz20_1 : w18.cell? ⟨gb382,1,none⟩ = some (.int .i64 0):=(blk_cell BK382.out 1).trans rfl;have hcz20_2 : w18.cell? ⟨gb382,2,none⟩ = some (.string (⟨#[]⟩ : ByteArray)):=(blk_cell BK382.out 2).trans rfl;have hfz20_0:=blk_frozen BK382.out 0;have hfz20_1:=blk_frozen BK382.out 1;have hfz20_2:=blk_frozen BK382.out 2;have hcz21_0 : w18.cell? ⟨gb377,0,none⟩ = some (.int .i64 t374):=(blk_cell BK377.out 0).trans rfl;have hcz21_1 : w18.cell? ⟨gb377,1,none⟩ = some (.int .i64 t375):=(blk_cell BK377.out 1).trans rfl;have hcz21_2 : w18.cell? ⟨gb377,2,none⟩ = some (.string t376):=(blk_cell BK377.out 2).trans rfl;have hfz21_0:=blk_frozen BK377.out 0;have hfz21_1:=blk_frozen BK377.out 1;have hfz21_2:=blk_frozen BK377.out 2)|(go_at_call 40;(with_reducible refine (impl_ToStr.calls k t378 t379 t380 t383 _ A7.out).mono ?_);rintro e w22 ⟨rfl,hb⟩;have n0_:=Aside0.mk (blk_below (g:=gb377) (o:=.cells #[.int .i64 t374,.int .i64 t375,.string t376] 24 (0,0)) (by (with_reducible repeat (first|refine blk_drewN ?_ _|refine blk_drew ?_|refine blk_alloc ?_ _));refine blk_far ?_ NB377_382.out _;(with_reducible repeat (first|refine blk_drewN ?_ _|refine blk_drew ?_|refine blk_alloc ?_ _));refine blk_far ?_ NB377_382.out _;(with_reducible repeat (first|refine blk_drewN ?_ _|refine blk_drew ?_|refine blk_alloc ?_ _));refine blk_far ?_ NB377_382.out _;(with_reducible repeat (first|refine blk_drewN ?_ _|refine blk_drew ?_|refine blk_alloc ?_ _));exact BK377.out) hb);have n1_:=Aside0.mk (blk_below (g:=gb382) (o:=.cells #[.int .i64 t378,.int .i64 t379,.string t380] 24 (0,0)) (by (with_reducible repeat (first|refine blk_drewN ?_ _|refine blk_drew ?_|refine blk_alloc ?_ _));refine blk_put (cs:=#[.int .i64 t378,.int .i64 t379,.string (⟨#[]⟩ : ByteArray)]) ?_ 2 _ rfl;(with_reducible repeat (first|refine blk_drewN ?_ _|refine blk_drew ?_|refine blk_alloc ?_ _));refine blk_put (cs:=#[.int .i64 t378,.int .i64 0,.string (⟨#[]⟩ : ByteArray)]) ?_ 1 _ rfl;(with_reducible repeat (first|refine blk_drewN ?_ _|refine blk_drew ?_|refine blk_alloc ?_ _));refine blk_put (cs:=#[.int .i64 0,.int .i64 0,.string (⟨#[]⟩ : ByteArray)]) ?_ 0 _ rfl;(with_reducible repeat (first|refine blk_drewN ?_ _|refine blk_drew ?_|refine blk_alloc ?_ _));exact BK382.out) hb);have n2_:=Aside0.mk (below_step (by repeat (first|(with_reducible first|exact HB.out|apply below_alloc|apply pw_below_drewN|apply below_drew1|refine below_set ?_ GE377.out|refine below_set ?_ GE382.out)|exact HB.out)) hb);clear BK377;clear BK382;clear HB;have BK377:=n0_;have BK382:=n1_;have HB:=n2_;clear n0_ n1_ n2_;(try clear hb);(try clear hb2);(try clear hk);(try clear hi);have hcz23_0 : w22.cell? ⟨gb382,0,none⟩ = some (.int .i64 t378):=(blk_cell BK382.out 0).trans rfl;have hcz23_1 : w22.cell? ⟨gb382,1,none⟩ = some (.int .i64 t379):=(blk_cell BK382.out 1).trans rfl;have hcz23_2 : w22.cell? ⟨gb382,2,none⟩ = some (.string t380):=(blk_cell BK382.out 2).trans rfl;have hfz23_0:=blk_frozen BK382.out 0;have hfz23_1:=blk_frozen BK382.out 1;have hfz23_2:=blk_frozen BK382.out 2)|(go_at_call 12;(with_reducible refine (impl_Truth.calls t378 t379 t380 true _ A9.out).mono ?_);rintro e w24 ⟨rfl,hb⟩;have n0_:=Aside0.mk (blk_below (g:=gb377) (o:=.cells #[.int .i64 t374,.int .i64 t375,.string t376] 24 (0,0)) (by (with_reducible repeat (first|refine blk_drewN ?_ _|refine blk_drew ?_|refine blk_alloc ?_ _));exact BK377.out) hb);have n1_:=Aside0.mk (blk_below (g:=gb382) (o:=.cells #[.int .i64 t378,.int .i64 t379,.string t380] 24 (0,0)) (by (with_reducible repeat (first|refine blk_drewN ?_ _|refine blk_drew ?_|refine blk_alloc ?_ _));exact BK382.out) hb);have n2_:=Aside0.mk (below_step (by repeat (first|(with_reducible first|exact HB.out|apply below_alloc|apply pw_below_drewN|apply below_drew1|refine below_set ?_ GE377.out|refine below_set ?_ GE382.out)|exact HB.out)) hb);clear BK377;clear BK382;clear HB;have BK377:=n0_;have BK382:=n1_;have HB:=n2_;clear n0_ n1_ n2_;(try clear hb);(try clear hb2);(try clear hk);(try clear hi);have hcz25_0 : w24.cell? ⟨gb377,0,none⟩ = some (.int .i64 t374):=(blk_cell BK377.out 0).trans rfl;have hcz25_1 : w24.cell? ⟨gb377,1,none⟩ = some (.int .i64 t375):=(blk_cell BK377.out 1).trans rfl;have hcz25_2 : w24.cell? ⟨gb377,2,none⟩ = some (.string t376):=(blk_cell BK377.out 2).trans rfl;have hfz25_0:=blk_frozen BK377.out 0;have hfz25_1:=blk_frozen BK377.out 1;have hfz25_2:=blk_frozen BK377.out 2;have hcz26_0 : w24.cell? ⟨gb382,0,none⟩ = some (.int .i64 t378):=(blk_cell BK382.out 0).trans rfl;have hcz26_1 : w24.cell? ⟨gb382,1,none⟩ = some (.int .i64 t379):=(blk_cell BK382.out 1).trans rfl;have hcz26_2 : w24.cell? ⟨gb382,2,none⟩ = some (.string t380):=(blk_cell BK382.out 2).trans rfl;have hfz26_0:=blk_frozen BK382.out 0;have hfz26_1:=blk_frozen BK382.out 1;have hfz26_2:=blk_frozen BK382.out 2)|(go_at_call 41;(with_reducible refine (impl_Compare.calls k t374 t375 t376 t378 t379 t380 t385 _ A11.out).mono ?_);rintro e w27 ⟨rfl,hb⟩;have n0_:=Aside0.mk (blk_below (g:=gb377) (o:=.cells #[.int .i64 t374,.int .i64 t375,.string t376] 24 (0,0)) (by (with_reducible repeat (first|refine blk_drewN ?_ _|refine blk_drew ?_|refine blk_alloc ?_ _));exact BK377.out) hb);have n1_:=Aside0.mk (blk_below (g:=gb382) (o:=.cells #[.int .i64 t378,.int .i64 t379,.string t380] 24 (0,0)) (by (with_reducible repeat (first|refine blk_drewN ?_ _|refine blk_drew ?_|refine blk_alloc ?_ _));exact BK382.out) hb);have n2_:=Aside0.mk (below_step (by repeat (first|(with_reducible first|exact HB.out|apply below_alloc|apply pw_below_drewN|apply below_drew1|refine below_set ?_ GE377.out|refine below_set ?_ GE382.out)|exact HB.out)) hb);clear BK377;clear BK382;clear HB;have BK377:=n0_;have BK382:=n1_;have HB:=n2_;clear n0_ n1_ n2_;(try clear hb);(try clear hb2);(try clear hk);(try clear hi))|(go_at_call 42;(with_reducible refine (impl_IndexOf.calls (⟨#[97,98,99]⟩ : ByteArray) (⟨#[99]⟩ : ByteArray) t386 _ A13.out).mono ?_);rintro e w' ⟨rfl,⟨nd,rfl⟩⟩))
        go_ret
        exact ⟨by first|rfl|(rw [HOR_.out];done)|(rw [HOR_.out];rfl)|(simp [HOR_.out];done)|(have h_:=HOR_.out;simp at h_;subst h_;first|rfl|(simp;done))|(have h_:=HOR_.out;simp at h_ ⊢;exact h_)|(simp [errW_none,errW_some] <;> rfl)|(simp [*,errW_none,errW_some] <;> rfl),by repeat (first|(with_reducible first|exact HB.out|apply below_alloc|apply pw_below_drewN|apply below_drew1|refine below_set ?_ GE377.out|refine below_set ?_ GE382.out)|exact HB.out)⟩
       ·rw [if_neg c12] at H
        have c12b0 : (t385 == (-1)) = false:=beq_eq_false_iff_ne.mpr c12
        have c12b1 : (t385 != (-1)) = true:=bne_iff_ne.mpr c12
        exact absurd H (by simp)
      ·replace c10:=Bool.eq_false_iff.mpr c10
       subst c10
       have H1 : (some false) = some true:=by rw [if_neg (show ¬ (false = true) by decide)] at H;exact H
       clear H
       have H:=H1
       clear H1
       exact absurd H (by simp)
     ·rw [if_neg c8] at H
      have c8b0 : (t383.toList == ([52] : List UInt8)) = false:=beq_eq_false_iff_ne.mpr c8
      have c8b1 : (t383.toList != ([52] : List UInt8)) = true:=bne_iff_ne.mpr c8
      exact absurd H (by simp)
    ·rw [if_neg c6] at H
     have c6b0 : (t379 == 4000000) = false:=beq_eq_false_iff_ne.mpr c6
     have c6b1 : (t379 != 4000000) = true:=bne_iff_ne.mpr c6
     exact absurd H (by simp)
   ·rw [if_neg c5] at H
    have c5b0 : (t381 == 0) = false:=beq_eq_false_iff_ne.mpr c5
    have c5b1 : (t381 != 0) = true:=bne_iff_ne.mpr c5
    exact absurd H (by simp)
  ·rw [if_neg c4] at H
   have c4b0 : (t375 == 3000000) = false:=beq_eq_false_iff_ne.mpr c4
   have c4b1 : (t375 != 3000000) = true:=bne_iff_ne.mpr c4
   exact absurd H (by simp)
 ·rw [if_neg c3] at H
  have c3b0 : (t374 == 3) = false:=beq_eq_false_iff_ne.mpr c3
  have c3b1 : (t374 != 3) = true:=bne_iff_ne.mpr c3
  exact absurd H (by simp)
def impl_ToNum.f (a0_0 : Int) (a0_1 : Int) (a0_2 : ByteArray) : Option (Int):=(impl_CellOk.f a0_0 a0_1 a0_2).bind fun t388=>(if t388 = true then ((impl_Cell_num.f a0_0 a0_1 a0_2).bind fun t389=>(some t389)) else (some 0))
set_option maxHeartbeats 8000000 in
set_option maxRecDepth 100000 in
theorem impl_ToNum.calls (a0_0 : Int) (a0_1 : Int) (a0_2 : ByteArray) (r : Int) (w : World) (h : impl_ToNum.f a0_0 a0_1 a0_2 = some r) :
  Calls Tryz.prog 10 #[.agg #[.int .i64 a0_0,.int .i64 a0_1,.string a0_2]] w fun e w'=>e = .returned (.int .i64 r) ∧ Below w.heap.size w w':=by
 have hu24:=Tryz.underlying24
 have HB:=Aside0.mk (Below.refl w.heap.size w)
 have H : ((impl_CellOk.f a0_0 a0_1 a0_2).bind fun t388=>(if t388 = true then ((impl_Cell_num.f a0_0 a0_1 a0_2).bind fun t389=>(some t389)) else (some 0))) = some r:=h
 clear h
 replace H:=Option.bind_eq_some_iff.mp H
 obtain ⟨t388,A20,H⟩:=H
 replace H : (if t388 = true then ((impl_Cell_num.f a0_0 a0_1 a0_2).bind fun t389=>(some t389)) else (some 0)) = some r:=H
 have A2:=Aside0.mk A20
 clear A20
 by_cases c3 : t388 = true
 ·subst c3
  have H1 : ((impl_Cell_num.f a0_0 a0_1 a0_2).bind fun t389=>(some t389)) = some r:=by rw [if_pos rfl] at H;exact H
  clear H
  have H:=H1
  clear H1
  replace H:=Option.bind_eq_some_iff.mp H
  obtain ⟨t389,A40,H⟩:=H
  replace H : (some t389) = some r:=H
  have A4:=Aside0.mk A40
  clear A40
  obtain rfl:=Option.some.inj H
  go_enter Tryz.func10,Tryz.ntmps10
  go_wp2_with (first|((with_reducible refine gate_dst (N:=1) rfl ?_);refine box_event ?hg (N:=1) ?hd (cs:=#[.int .i64 a0_0,.int .i64 a0_1,.string a0_2]) (t:=24) ?hr ?_;(case hd=>rfl);(case hg=>rfl);(case hr=>first|(go_simp;done)|(go_simp;rfl));intro gb387 hg w5 hbox hb;have n0_:=Aside0.mk (below_step (by repeat (first|(with_reducible first|exact HB.out|apply below_alloc|apply pw_below_drewN|apply below_drew1)|exact HB.out)) hb);have n1_:=Aside0.mk (hbox);have n2_:=Aside0.mk ((by rw [hg];exact (below_size (by repeat (first|(with_reducible first|exact HB.out|apply below_alloc|apply pw_below_drewN|apply below_drew1)|exact HB.out))) : w.heap.size ≤ gb387));have n3_:=Aside0.mk ((by rw [hg];exact (below_size (by repeat (first|(with_reducible first|exact HB.out|apply below_alloc|apply pw_below_drewN|apply below_drew1)|exact HB.out))) : w.heap.size ≤ gb387));clear HB;have HB:=n0_;have BK387:=n1_;have GW387:=n2_;have GE387:=n3_;clear n0_ n1_ n2_ n3_;clear hb hbox hg;have hcz6_0 : w5.cell? ⟨gb387,0,none⟩ = some (.int .i64 a0_0):=(blk_cell BK387.out 0).trans rfl;have hcz6_1 : w5.cell? ⟨gb387,1,none⟩ = some (.int .i64 a0_1):=(blk_cell BK387.out 1).trans rfl;have hcz6_2 : w5.cell? ⟨gb387,2,none⟩ = some (.string a0_2):=(blk_cell BK387.out 2).trans rfl;have hfz6_0:=blk_frozen BK387.out 0;have hfz6_1:=blk_frozen BK387.out 1;have hfz6_2:=blk_frozen BK387.out 2)|((with_reducible refine gate_callee (f:=11) rfl ?_);refine goesL_ (some 4) rfl rfl Tryz.func11 (by kernel_rfl) rfl #[.agg #[.int .i64 a0_0,.int .i64 a0_1,.string a0_2]] rfl (by (try simp only [List.map_toArray,List.map_cons,List.map_nil]);first|done|rfl|(simp only [List.length_drop,List.length_take];rfl)) ?_;(with_reducible refine (impl_CellOk.calls a0_0 a0_1 a0_2 true _ A2.out).mono ?_);rintro e w7 ⟨rfl,hb⟩;refine ⟨_,rfl,?_⟩;have n0_:=Aside0.mk (blk_below (g:=gb387) (o:=.cells #[.int .i64 a0_0,.int .i64 a0_1,.string a0_2] 24 (0,0)) (by (with_reducible repeat (first|refine blk_drewN ?_ _|refine blk_drew ?_|refine blk_alloc ?_ _));exact BK387.out) hb);have n1_:=Aside0.mk (below_step (by repeat (first|(with_reducible first|exact HB.out|apply below_alloc|apply pw_below_drewN|apply below_drew1|refine below_set ?_ GE387.out)|exact HB.out)) hb);clear BK387;clear HB;have BK387:=n0_;have HB:=n1_;clear n0_ n1_;(try clear hb);(try clear hb2);(try clear hk);(try clear hi);have hcz8_0 : w7.cell? ⟨gb387,0,none⟩ = some (.int .i64 a0_0):=(blk_cell BK387.out 0).trans rfl;have hcz8_1 : w7.cell? ⟨gb387,1,none⟩ = some (.int .i64 a0_1):=(blk_cell BK387.out 1).trans rfl;have hcz8_2 : w7.cell? ⟨gb387,2,none⟩ = some (.string a0_2):=(blk_cell BK387.out 2).trans rfl;have hfz8_0:=blk_frozen BK387.out 0;have hfz8_1:=blk_frozen BK387.out 1;have hfz8_2:=blk_frozen BK387.out 2)|((with_reducible refine gate_callee (f:=26) rfl ?_);refine goesL_ (some 7) rfl rfl Tryz.func26 (by kernel_rfl) rfl #[.agg #[.int .i64 a0_0,.int .i64 a0_1,.string a0_2]] rfl (by (try simp only [List.map_toArray,List.map_cons,List.map_nil]);first|done|rfl|(simp only [List.length_drop,List.length_take];rfl)) ?_;(with_reducible refine (impl_Cell_num.calls a0_0 a0_1 a0_2 t389 _ A4.out).mono ?_);rintro e w9 ⟨rfl,hb⟩;refine ⟨_,rfl,?_⟩;have n0_:=Aside0.mk (blk_below (g:=gb387) (o:=.cells #[.int .i64 a0_0,.int .i64 a0_1,.string a0_2] 24 (0,0)) (by (with_reducible repeat (first|refine blk_drewN ?_ _|refine blk_drew ?_|refine blk_alloc ?_ _));exact BK387.out) hb);have n1_:=Aside0.mk (below_step (by repeat (first|(with_reducible first|exact HB.out|apply below_alloc|apply pw_below_drewN|apply below_drew1|refine below_set ?_ GE387.out)|exact HB.out)) hb);clear BK387;clear HB;have BK387:=n0_;have HB:=n1_;clear n0_ n1_;(try clear hb);(try clear hb2);(try clear hk);(try clear hi)))
  go_ret
  exact ⟨by first|rfl|(simp [errW_none,errW_some] <;> rfl)|(simp [*,errW_none,errW_some] <;> rfl),by repeat (first|(with_reducible first|exact HB.out|apply below_alloc|apply pw_below_drewN|apply below_drew1|refine below_set ?_ GE387.out)|exact HB.out)⟩
 ·replace c3:=Bool.eq_false_iff.mpr c3
  subst c3
  have H1 : (some 0) = some r:=by rw [if_neg (show ¬ (false = true) by decide)] at H;exact H
  clear H
  have H:=H1
  clear H1
  obtain rfl:=Option.some.inj H
  go_enter Tryz.func10,Tryz.ntmps10
  go_wp2_with (first|((with_reducible refine gate_dst (N:=1) rfl ?_);refine box_event ?hg (N:=1) ?hd (cs:=#[.int .i64 a0_0,.int .i64 a0_1,.string a0_2]) (t:=24) ?hr ?_;(case hd=>rfl);(case hg=>rfl);(case hr=>first|(go_simp;done)|(go_simp;rfl));intro gb387 hg w10 hbox hb;have n0_:=Aside0.mk (below_step (by repeat (first|(with_reducible first|exact HB.out|apply below_alloc|apply pw_below_drewN|apply below_drew1)|exact HB.out)) hb);have n1_:=Aside0.mk (hbox);have n2_:=Aside0.mk ((by rw [hg];exact (below_size (by repeat (first|(with_reducible first|exact HB.out|apply below_alloc|apply pw_below_drewN|apply below_drew1)|exact HB.out))) : w.heap.size ≤ gb387));have n3_:=Aside0.mk ((by rw [hg];exact (below_size (by repeat (first|(with_reducible first|exact HB.out|apply below_alloc|apply pw_below_drewN|apply below_drew1)|exact HB.out))) : w.heap.size ≤ gb387));clear HB;have HB:=n0_;have BK387:=n1_;have GW387:=n2_;have GE387:=n3_;clear n0_ n1_ n2_ n3_;clear hb hbox hg;have hcz11_0 : w10.cell? ⟨gb387,0,none⟩ = some (.int .i64 a0_0):=(blk_cell BK387.out 0).trans rfl;have hcz11_1 : w10.cell? ⟨gb387,1,none⟩ = some (.int .i64 a0_1):=(blk_cell BK387.out 1).trans rfl;have hcz11_2 : w10.cell? ⟨gb387,2,none⟩ = some (.string a0_2):=(blk_cell BK387.out 2).trans rfl;have hfz11_0:=blk_frozen BK387.out 0;have hfz11_1:=blk_frozen BK387.out 1;have hfz11_2:=blk_frozen BK387.out 2)|((with_reducible refine gate_callee (f:=11) rfl ?_);refine goesL_ (some 4) rfl rfl Tryz.func11 (by kernel_rfl) rfl #[.agg #[.int .i64 a0_0,.int .i64 a0_1,.string a0_2]] rfl (by (try simp only [List.map_toArray,List.map_cons,List.map_nil]);first|done|rfl|(simp only [List.length_drop,List.length_take];rfl)) ?_;(with_reducible refine (impl_CellOk.calls a0_0 a0_1 a0_2 false _ A2.out).mono ?_);rintro e w12 ⟨rfl,hb⟩;refine ⟨_,rfl,?_⟩;have n0_:=Aside0.mk (blk_below (g:=gb387) (o:=.cells #[.int .i64 a0_0,.int .i64 a0_1,.string a0_2] 24 (0,0)) (by (with_reducible repeat (first|refine blk_drewN ?_ _|refine blk_drew ?_|refine blk_alloc ?_ _));exact BK387.out) hb);have n1_:=Aside0.mk (below_step (by repeat (first|(with_reducible first|exact HB.out|apply below_alloc|apply pw_below_drewN|apply below_drew1|refine below_set ?_ GE387.out)|exact HB.out)) hb);clear BK387;clear HB;have BK387:=n0_;have HB:=n1_;clear n0_ n1_;(try clear hb);(try clear hb2);(try clear hk);(try clear hi)))
  go_ret
  exact ⟨by first|rfl|(simp [errW_none,errW_some] <;> rfl)|(simp [*,errW_none,errW_some] <;> rfl),by repeat (first|(with_reducible first|exact HB.out|apply below_alloc|apply pw_below_drewN|apply below_drew1|refine below_set ?_ GE387.out)|exact HB.out)⟩
end Go.Proofs.YtnfiljnncpieoaaGreatDoor.Q
namespace Go.Proofs.YtnfiljnncpieoaaGreatDoor.Q
open Go.RowKit Go.Proofs.YtnfiljnncpieoaaGreatDoorW.PrintWords Go.Proofs.YtnfiljnncpieoaaGreatDoorW.PrintLast Go.Proofs.YtnfiljnncpieoaaGreatDoorW.PrintMore
attribute [local go_sem] max2_int min2_int max_two min_two max_three min_three max_four min_four   -- for this text's walks alone
set_option linter.unusedVariables false
set_option linter.unusedSimpArgs false
attribute [local go_sem high] eqA24
def laws_FnAriths.j0 : Nat → Int → Int → Int → Bool → Int → Int → ByteArray → Int → Int → ByteArray → Int → Int → ByteArray → Option (Bool)
 | 0,_,_,_,_,_,_,_,_,_,_,_,_,_=>none
 | k + 1,x3,x7,x9,x40,x398000,x398001,x398002,x399000,x399001,x399002,x404000,x404001,x404002=>if x40 = true then (if x7 = x9 then (if (x404000 == 0 && (x404001 == 0 && (x404002.toList == ([] : List UInt8)))) = true then ((laws_cells.f k).bind fun t409=>(some t409)) else (some false)) else (some false)) else ((impl_ToNum.f x398000 x398001 x398002).bind fun t410=>((impl_ToNum.f x399000 x399001 x399002).bind fun t412=>((impl_Arith.f k x3 1 t410 (⟨#[]⟩ : ByteArray) 1 t412 (⟨#[]⟩ : ByteArray)).bind fun bt414=>(if bt414.2.2.2 = 0 then (if (bt414.1 == x404000 && (bt414.2.1 == x404001 && (bt414.2.2.1.toList == x404002.toList))) = true then (if x404000 = 1 then ((impl_CellOk.f x404000 x404001 x404002).bind fun t419=>(if t419 = true then ((impl_Truth.f x404000 x404001 x404002).bind fun t420=>(if (t420 == (x404001 != 0)) = true then ((laws_cells.f k).bind fun t421=>(some t421)) else (some false))) else (some false))) else (some false)) else (some false)) else (some false)))))
def laws_FnAriths.f (k : Nat) (l0 : List Int) : Option (Bool):=(spec_DrawArith.f k l0).bind fun bt390=>((impl_Arith.f k bt390.1 bt390.2.1 bt390.2.2.1 bt390.2.2.2.1 bt390.2.2.2.2.1 bt390.2.2.2.2.2.1 bt390.2.2.2.2.2.2).bind fun bt399=>((spec_Arith.f k bt390.1 bt390.2.1 bt390.2.2.1 bt390.2.2.2.1 bt390.2.2.2.2.1 bt390.2.2.2.2.2.1 bt390.2.2.2.2.2.2).bind fun bt404=>(if bt399.2.2.2 = bt404.2.2.2 then (laws_FnAriths.j0 k bt390.1 bt399.2.2.2 bt404.2.2.2 (bt399.2.2.2 != 0) bt390.2.1 bt390.2.2.1 bt390.2.2.2.1 bt390.2.2.2.2.1 bt390.2.2.2.2.2.1 bt390.2.2.2.2.2.2 bt399.1 bt399.2.1 bt399.2.2.1) else (laws_FnAriths.j0 k bt390.1 bt399.2.2.2 bt404.2.2.2 true bt390.2.1 bt390.2.2.1 bt390.2.2.2.1 bt390.2.2.2.2.1 bt390.2.2.2.2.2.1 bt390.2.2.2.2.2.2 bt399.1 bt399.2.1 bt399.2.2.1))))
def laws_FnAriths.T9 : Bool × List (List Nat × List Nat):=(true,[([],[]),([0],[0]),([1],[1]),([2],[2]),([2],[2]),([3,4,2],[2,3,4]),([2,5],[2,5]),([6,2],[6]),([7],[7]),([8,7],[7,8]),([9,7],[7,9]),([7,10],[7,10]),([11,7],[11]),([12],[12]),([13,12,12],[12,13]),([12,14],[12,14]),([15,14],[15]),([16],[16]),([17,16,16],[16,17]),([16],[16]),([19,16],[16,19]),([20,16],[16,20]),([18,21,16],[16,18,21]),([16,22],[16,22]),([23,18],[23]),([24,24],[24]),([24,25],[24,25]),([26,25,0,1,2,3,4,5,6,7,8,9,10,11,12,13,14,15,16,17,18,19,20,21,22,23,24,25,26],[26])])
def laws_FnAriths.B9 : List Nat:=[0,1,3,7,7,31,63,127,255,511,1023,2047,4095,8191,16383,32767,65535,131071,262143,131071,655359,1703935,4194303,8388607,16777215,33554431,67108863,134217727]
theorem laws_FnAriths.tab9 : rtab .any (opsOf Tryz.f3 9) = laws_FnAriths.T9:=by kernel_rfl
theorem laws_FnAriths.bits9 : waitsOk laws_FnAriths.T9.2 laws_FnAriths.B9 = true:=by kernel_rfl
set_option maxHeartbeats 8000000 in
set_option maxRecDepth 100000 in
theorem laws_FnAriths.calls (k : Nat) (A0 : Option Addr) (c0 : Nat) (l0 : List Int) (r : Bool) (w : World) (hr0 : Kd.C (Kd.int .u8) w A0 l0.length l0) (hc0 : l0.length ≤ c0) (h : laws_FnAriths.f k l0 = some r) (hT : Tabs w:=by first|assumption|(refine Aside0.out (p:=Tabs _) ?_;assumption)|(refine Tabs.below (w:=?ww) (Aside0.out ?ha) ?hb;(case ha=>assumption);(case hb=>repeat (first|(with_reducible first|exact Below.refl _ _|(refine Aside0.out ?_;assumption)|apply below_alloc|apply pw_below_drewN|apply below_drew1|(refine below_set ?_ (Aside0.out ?_);(rotate_left;assumption)))|(refine Aside0.out ?_;assumption))))|(refine Tabs.drewN (w:=?ww) (Aside0.out ?ha) _;(case ha=>assumption))) (hr : r = true:=by first|assumption|rfl|(refine Aside0.out ?_;assumption)) :
  Calls Tryz.prog 3 #[.slice A0 l0.length c0] w fun e w'=>e = .returned (.bool r) ∧ Below w.heap.size w w':=by
 have HT_:=Aside0.mk hT
 clear hT
 subst hr
 have hu24:=Tryz.underlying24
 have HR0:=Aside0.mk hr0
 have HC0:=Aside0.mk hc0
 clear hr0 hc0
 have HB:=Aside0.mk (Below.refl w.heap.size w)
 have H : ((spec_DrawArith.f k l0).bind fun bt390=>((impl_Arith.f k bt390.1 bt390.2.1 bt390.2.2.1 bt390.2.2.2.1 bt390.2.2.2.2.1 bt390.2.2.2.2.2.1 bt390.2.2.2.2.2.2).bind fun bt399=>((spec_Arith.f k bt390.1 bt390.2.1 bt390.2.2.1 bt390.2.2.2.1 bt390.2.2.2.2.1 bt390.2.2.2.2.2.1 bt390.2.2.2.2.2.2).bind fun bt404=>(if bt399.2.2.2 = bt404.2.2.2 then (laws_FnAriths.j0 k bt390.1 bt399.2.2.2 bt404.2.2.2 (bt399.2.2.2 != 0) bt390.2.1 bt390.2.2.1 bt390.2.2.2.1 bt390.2.2.2.2.1 bt390.2.2.2.2.2.1 bt390.2.2.2.2.2.2 bt399.1 bt399.2.1 bt399.2.2.1) else (laws_FnAriths.j0 k bt390.1 bt399.2.2.2 bt404.2.2.2 true bt390.2.1 bt390.2.2.1 bt390.2.2.2.1 bt390.2.2.2.2.1 bt390.2.2.2.2.2.1 bt390.2.2.2.2.2.2 bt399.1 bt399.2.1 bt399.2.2.1))))) = some true:=h
 clear h
 replace H:=Option.bind_eq_some_iff.mp H
 obtain ⟨⟨t390,t391,t392,t393,t394,t395,t396⟩,A20,H⟩:=H
 replace H : ((impl_Arith.f k t390 t391 t392 t393 t394 t395 t396).bind fun bt399=>((spec_Arith.f k t390 t391 t392 t393 t394 t395 t396).bind fun bt404=>(if bt399.2.2.2 = bt404.2.2.2 then (laws_FnAriths.j0 k t390 bt399.2.2.2 bt404.2.2.2 (bt399.2.2.2 != 0) t391 t392 t393 t394 t395 t396 bt399.1 bt399.2.1 bt399.2.2.1) else (laws_FnAriths.j0 k t390 bt399.2.2.2 bt404.2.2.2 true t391 t392 t393 t394 t395 t396 bt399.1 bt399.2.1 bt399.2.2.1)))) = some true:=H
 have A2:=Aside0.mk A20
 clear A20
 replace H:=Option.bind_eq_some_iff.mp H
 obtain ⟨⟨t399,t400,t401,t402⟩,A30,H⟩:=H
 replace H : ((spec_Arith.f k t390 t391 t392 t393 t394 t395 t396).bind fun bt404=>(if t402 = bt404.2.2.2 then (laws_FnAriths.j0 k t390 t402 bt404.2.2.2 (t402 != 0) t391 t392 t393 t394 t395 t396 t399 t400 t401) else (laws_FnAriths.j0 k t390 t402 bt404.2.2.2 true t391 t392 t393 t394 t395 t396 t399 t400 t401))) = some true:=H
 have A3:=Aside0.mk A30
 clear A30
 replace H:=Option.bind_eq_some_iff.mp H
 obtain ⟨⟨t404,t405,t406,t407⟩,A40,H⟩:=H
 replace H : (if t402 = t407 then (laws_FnAriths.j0 k t390 t402 t407 (t402 != 0) t391 t392 t393 t394 t395 t396 t399 t400 t401) else (laws_FnAriths.j0 k t390 t402 t407 true t391 t392 t393 t394 t395 t396 t399 t400 t401)) = some true:=H
 have A4:=Aside0.mk A40
 clear A40
 have HC5:=Aside0.mk H
 clear H
 go_enter Tryz.func3,Tryz.ntmps3
 go_upto_region 4 with (first|((with_reducible refine gate_callee (f:=6) rfl ?_);refine goesL_ (some 16) rfl rfl Tryz.func6 (by kernel_rfl) rfl #[.slice A0 l0.length c0] rfl (by (try simp only [List.map_toArray,List.map_cons,List.map_nil]);first|done|rfl|(simp only [List.length_drop,List.length_take];rfl)) ?_;(with_reducible refine (spec_DrawArith.calls k _ _ l0 t390 t391 t392 t393 t394 t395 t396 _ ?side1 ?side2 A2.out).mono ?_);(case side1=>repeat (first|exact HR0.out|(with_reducible refine Kd.C_alloc ?_ _)|(with_reducible refine Kd.C_drewN ?_ _)|(with_reducible refine Kd.C_drew ?_)));(case side2=>exact HC0.out);rintro e w6 ⟨rfl,hb⟩;refine ⟨_,rfl,?_⟩;have n0_:=Aside0.mk (below_step (by repeat (first|(with_reducible first|exact HB.out|apply below_alloc|apply pw_below_drewN|apply below_drew1)|exact HB.out)) hb);clear HB;have HB:=n0_;clear n0_;(try clear hb);(try clear hb2);(try clear hk);(try clear hi))|((with_reducible refine gate_dst (N:=4) rfl ?_);refine box_event ?hg (N:=4) ?hd (cs:=#[.int .i64 0,.int .i64 0,.string (⟨#[]⟩ : ByteArray)]) (t:=24) ?hr ?_;(case hd=>rfl);(case hg=>rfl);(case hr=>first|(go_simp;done)|(go_simp;rfl));intro gb397 hg w7 hbox hb;have n0_:=Aside0.mk (below_step (by repeat (first|(with_reducible first|exact HB.out|apply below_alloc|apply pw_below_drewN|apply below_drew1)|exact HB.out)) hb);have n1_:=Aside0.mk (hbox);have n2_:=Aside0.mk ((by rw [hg];exact (below_size (by repeat (first|(with_reducible first|exact HB.out|apply below_alloc|apply pw_below_drewN|apply below_drew1)|exact HB.out))) : w.heap.size ≤ gb397));have n3_:=Aside0.mk ((by rw [hg];exact (below_size (by repeat (first|(with_reducible first|exact HB.out|apply below_alloc|apply pw_below_drewN|apply below_drew1)|exact HB.out))) : w.heap.size ≤ gb397));clear HB;have HB:=n0_;have BK397:=n1_;have GW397:=n2_;have GE397:=n3_;clear n0_ n1_ n2_ n3_;clear hb hbox hg)|((with_reducible refine gate_dst (N:=5) rfl ?_);refine box_event ?hg (N:=5) ?hd (cs:=#[.int .i64 0,.int .i64 0,.string (⟨#[]⟩ : ByteArray)]) (t:=24) ?hr ?_;(case hd=>rfl);(case hg=>rfl);(case hr=>first|(go_simp;done)|(go_simp;rfl));intro gb398 hg w8 hbox hb;have n0_:=Aside0.mk (blk_below (g:=gb397) (o:=.cells #[.int .i64 0,.int .i64 0,.string (⟨#[]⟩ : ByteArray)] 24 (0,0)) (by (with_reducible repeat (first|refine blk_drewN ?_ _|refine blk_drew ?_|refine blk_alloc ?_ _));exact BK397.out) hb);have n1_:=Aside0.mk (below_step (by repeat (first|(with_reducible first|exact HB.out|apply below_alloc|apply pw_below_drewN|apply below_drew1|refine below_set ?_ GE397.out)|exact HB.out)) hb);have n2_:=Aside0.mk (hbox);have n3_:=Aside0.mk ((by rw [hg];exact (below_size (by repeat (first|(with_reducible first|exact HB.out|apply below_alloc|apply pw_below_drewN|apply below_drew1|refine below_set ?_ GE397.out)|exact HB.out))) : w.heap.size ≤ gb398));have n4_:=Aside0.mk ((by rw [hg];exact (below_size (by repeat (first|(with_reducible first|exact HB.out|apply below_alloc|apply pw_below_drewN|apply below_drew1|refine below_set ?_ GE397.out)|exact HB.out))) : w.heap.size ≤ gb398));have n5_:=Aside0.mk ((by rw [hg];exact Nat.ne_of_lt (blk_lt (g:=gb397) (o:=.cells #[.int .i64 0,.int .i64 0,.string (⟨#[]⟩ : ByteArray)] 24 (0,0)) (by (with_reducible repeat (first|refine blk_drewN ?_ _|refine blk_drew ?_|refine blk_alloc ?_ _));exact BK397.out)) : gb397 ≠ gb398));have n6_:=Aside0.mk ((by rw [hg];exact Nat.ne_of_gt (blk_lt (g:=gb397) (o:=.cells #[.int .i64 0,.int .i64 0,.string (⟨#[]⟩ : ByteArray)] 24 (0,0)) (by (with_reducible repeat (first|refine blk_drewN ?_ _|refine blk_drew ?_|refine blk_alloc ?_ _));exact BK397.out)) : gb398 ≠ gb397));clear BK397;clear HB;have BK397:=n0_;have HB:=n1_;have BK398:=n2_;have GW398:=n3_;have GE398:=n4_;have NB397_398:=n5_;have NB398_397:=n6_;clear n0_ n1_ n2_ n3_ n4_ n5_ n6_;clear hb hbox hg;have hnb9:=NB397_398.out;have hnc9:=NB398_397.out;have hcz10_0 : w8.cell? ⟨gb397,0,none⟩ = some (.int .i64 0):=(blk_cell BK397.out 0).trans rfl;have hcz10_1 : w8.cell? ⟨gb397,1,none⟩ = some (.int .i64 0):=(blk_cell BK397.out 1).trans rfl;have hcz10_2 : w8.cell? ⟨gb397,2,none⟩ = some (.string (⟨#[]⟩ : ByteArray)):=(blk_cell BK397.out 2).trans rfl;have hfz10_0:=blk_frozen BK397.out 0;have hfz10_1:=blk_frozen BK397.out 1;have hfz10_2:=blk_frozen BK397.out 2;have hcz11_0 : w8.cell? ⟨gb398,0,none⟩ = some (.int .i64 0):=(blk_cell BK398.out 0).trans rfl;have hcz11_1 : w8.cell? ⟨gb398,1,none⟩ = some (.int .i64 0):=(blk_cell BK398.out 1).trans rfl;have hcz11_2 : w8.cell? ⟨gb398,2,none⟩ = some (.string (⟨#[]⟩ : ByteArray)):=(blk_cell BK398.out 2).trans rfl;have hfz11_0:=blk_frozen BK398.out 0;have hfz11_1:=blk_frozen BK398.out 1;have hfz11_2:=blk_frozen BK398.out 2)|((with_reducible refine gate_callee (f:=7) rfl ?_);refine goesL_ (some 24) rfl rfl Tryz.func7 (by kernel_rfl) rfl #[.int .i64 t390,.agg #[.int .i64 t391,.int .i64 t392,.string t393],.agg #[.int .i64 t394,.int .i64 t395,.string t396]] rfl (by (try simp only [List.map_toArray,List.map_cons,List.map_nil]);first|done|rfl|(simp only [List.length_drop,List.length_take];rfl)) ?_;(with_reducible refine (impl_Arith.calls k t390 t391 t392 t393 t394 t395 t396 t399 t400 t401 t402 _ A3.out).mono ?_);rintro e w12 ⟨rfl,hb⟩;refine ⟨_,rfl,?_⟩;have n0_:=Aside0.mk (blk_below (g:=gb397) (o:=.cells #[.int .i64 t391,.int .i64 t392,.string t393] 24 (0,0)) (by (with_reducible repeat (first|refine blk_drewN ?_ _|refine blk_drew ?_|refine blk_alloc ?_ _));refine blk_far ?_ NB397_398.out _;(with_reducible repeat (first|refine blk_drewN ?_ _|refine blk_drew ?_|refine blk_alloc ?_ _));refine blk_far ?_ NB397_398.out _;(with_reducible repeat (first|refine blk_drewN ?_ _|refine blk_drew ?_|refine blk_alloc ?_ _));refine blk_far ?_ NB397_398.out _;(with_reducible repeat (first|refine blk_drewN ?_ _|refine blk_drew ?_|refine blk_alloc ?_ _));refine blk_put (cs:=#[.int .i64 t391,.int .i64 t392,.string (⟨#[]⟩ : ByteArray)]) ?_ 2 _ rfl;(with_reducible repeat (first|refine blk_drewN ?_ _|refine blk_drew ?_|refine blk_alloc ?_ _));refine blk_put (cs:=#[.int .i64 t391,.int .i64 0,.string (⟨#[]⟩ : ByteArray)]) ?_ 1 _ rfl;(with_reducible repeat (first|refine blk_drewN ?_ _|refine blk_drew ?_|refine blk_alloc ?_ _));refine blk_put (cs:=#[.int .i64 0,.int .i64 0,.string (⟨#[]⟩ : ByteArray)]) ?_ 0 _ rfl;(with_reducible repeat (first|refine blk_drewN ?_ _|refine blk_drew ?_|refine blk_alloc ?_ _));exact BK397.out) hb);have n1_:=Aside0.mk (blk_below (g:=gb398) (o:=.cells #[.int .i64 t394,.int .i64 t395,.string t396] 24 (0,0)) (by (with_reducible repeat (first|refine blk_drewN ?_ _|refine blk_drew ?_|refine blk_alloc ?_ _));refine blk_put (cs:=#[.int .i64 t394,.int .i64 t395,.string (⟨#[]⟩ : ByteArray)]) ?_ 2 _ rfl;(with_reducible repeat (first|refine blk_drewN ?_ _|refine blk_drew ?_|refine blk_alloc ?_ _));refine blk_put (cs:=#[.int .i64 t394,.int .i64 0,.string (⟨#[]⟩ : ByteArray)]) ?_ 1 _ rfl;(with_reducible repeat (first|refine blk_drewN ?_ _|refine blk_drew ?_|refine blk_alloc ?_ _));refine blk_put (cs:=#[.int .i64 0,.int .i64 0,.string (⟨#[]⟩ : ByteArray)]) ?_ 0 _ rfl;(with_reducible repeat (first|refine blk_drewN ?_ _|refine blk_drew ?_|refine blk_alloc ?_ _));refine blk_far ?_ NB398_397.out _;(with_reducible repeat (first|refine blk_drewN ?_ _|refine blk_drew ?_|refine blk_alloc ?_ _));refine blk_far ?_ NB398_397.out _;(with_reducible repeat (first|refine blk_drewN ?_ _|refine blk_drew ?_|refine blk_alloc ?_ _));refine blk_far ?_ NB398_397.out _;(with_reducible repeat (first|refine blk_drewN ?_ _|refine blk_drew ?_|refine blk_alloc ?_ _));exact BK398.out) hb);have n2_:=Aside0.mk (below_step (by repeat (first|(with_reducible first|exact HB.out|apply below_alloc|apply pw_below_drewN|apply below_drew1|refine below_set ?_ GE397.out|refine below_set ?_ GE398.out)|exact HB.out)) hb);clear BK397;clear BK398;clear HB;have BK397:=n0_;have BK398:=n1_;have HB:=n2_;clear n0_ n1_ n2_;(try clear hb);(try clear hb2);(try clear hk);(try clear hi))|((with_reducible refine gate_dst (N:=6) rfl ?_);refine box_event ?hg (N:=6) ?hd (cs:=#[.int .i64 0,.int .i64 0,.string (⟨#[]⟩ : ByteArray)]) (t:=24) ?hr ?_;(case hd=>rfl);(case hg=>rfl);(case hr=>first|(go_simp;done)|(go_simp;rfl));intro gb403 hg w13 hbox hb;have n0_:=Aside0.mk (blk_below (g:=gb397) (o:=.cells #[.int .i64 t391,.int .i64 t392,.string t393] 24 (0,0)) (by (with_reducible repeat (first|refine blk_drewN ?_ _|refine blk_drew ?_|refine blk_alloc ?_ _));exact BK397.out) hb);have n1_:=Aside0.mk (blk_below (g:=gb398) (o:=.cells #[.int .i64 t394,.int .i64 t395,.string t396] 24 (0,0)) (by (with_reducible repeat (first|refine blk_drewN ?_ _|refine blk_drew ?_|refine blk_alloc ?_ _));exact BK398.out) hb);have n2_:=Aside0.mk (below_step (by repeat (first|(with_reducible first|exact HB.out|apply below_alloc|apply pw_below_drewN|apply below_drew1|refine below_set ?_ GE397.out|refine below_set ?_ GE398.out)|exact HB.out)) hb);have n3_:=Aside0.mk (hbox);have n4_:=Aside0.mk ((by rw [hg];exact (below_size (by repeat (first|(with_reducible first|exact HB.out|apply below_alloc|apply pw_below_drewN|apply below_drew1|refine below_set ?_ GE397.out|refine below_set ?_ GE398.out)|exact HB.out))) : w.heap.size ≤ gb403));have n5_:=Aside0.mk ((by rw [hg];exact (below_size (by repeat (first|(with_reducible first|exact HB.out|apply below_alloc|apply pw_below_drewN|apply below_drew1|refine below_set ?_ GE397.out|refine below_set ?_ GE398.out)|exact HB.out))) : w.heap.size ≤ gb403));have n6_:=Aside0.mk ((by rw [hg];exact Nat.ne_of_lt (blk_lt (g:=gb397) (o:=.cells #[.int .i64 t391,.int .i64 t392,.string t393] 24 (0,0)) (by (with_reducible repeat (first|refine blk_drewN ?_ _|refine blk_drew ?_|refine blk_alloc ?_ _));exact BK397.out)) : gb397 ≠ gb403));have n7_:=Aside0.mk ((by rw [hg];exact Nat.ne_of_gt (blk_lt (g:=gb397) (o:=.cells #[.int .i64 t391,.int .i64 t392,.string t393] 24 (0,0)) (by (with_reducible repeat (first|refine blk_drewN ?_ _|refine blk_drew ?_|refine blk_alloc ?_ _));exact BK397.out)) : gb403 ≠ gb397));have n8_:=Aside0.mk ((by rw [hg];exact Nat.ne_of_lt (blk_lt (g:=gb398) (o:=.cells #[.int .i64 t394,.int .i64 t395,.string t396] 24 (0,0)) (by (with_reducible repeat (first|refine blk_drewN ?_ _|refine blk_drew ?_|refine blk_alloc ?_ _));exact BK398.out)) : gb398 ≠ gb403));have n9_:=Aside0.mk ((by rw [hg];exact Nat.ne_of_gt (blk_lt (g:=gb398) (o:=.cells #[.int .i64 t394,.int .i64 t395,.string t396] 24 (0,0)) (by (with_reducible repeat (first|refine blk_drewN ?_ _|refine blk_drew ?_|refine blk_alloc ?_ _));exact BK398.out)) : gb403 ≠ gb398));clear BK397;clear BK398;clear HB;have BK397:=n0_;have BK398:=n1_;have HB:=n2_;have BK403:=n3_;have GW403:=n4_;have GE403:=n5_;have NB397_403:=n6_;have NB403_397:=n7_;have NB398_403:=n8_;have NB403_398:=n9_;clear n0_ n1_ n2_ n3_ n4_ n5_ n6_ n7_ n8_ n9_;clear hb hbox hg;have hnb14:=NB403_397.out;have hnc14:=NB397_403.out;have hnb15:=NB403_398.out;have hnc15:=NB398_403.out;have hcz16_0 : w13.cell? ⟨gb403,0,none⟩ = some (.int .i64 0):=(blk_cell BK403.out 0).trans rfl;have hcz16_1 : w13.cell? ⟨gb403,1,none⟩ = some (.int .i64 0):=(blk_cell BK403.out 1).trans rfl;have hcz16_2 : w13.cell? ⟨gb403,2,none⟩ = some (.string (⟨#[]⟩ : ByteArray)):=(blk_cell BK403.out 2).trans rfl;have hfz16_0:=blk_frozen BK403.out 0;have hfz16_1:=blk_frozen BK403.out 1;have hfz16_2:=blk_frozen BK403.out 2;have hcz17_0 : w13.cell? ⟨gb397,0,none⟩ = some (.int .i64 t391):=(blk_cell BK397.out 0).trans rfl;have hcz17_1 : w13.cell? ⟨gb397,1,none⟩ = some (.int .i64 t392):=(blk_cell BK397.out 1).trans rfl;have hcz17_2 : w13.cell? ⟨gb397,2,none⟩ = some (.string t393):=(blk_cell BK397.out 2).trans rfl;have hfz17_0:=blk_frozen BK397.out 0;have hfz17_1:=blk_frozen BK397.out 1;have hfz17_2:=blk_frozen BK397.out 2;have hcz18_0 : w13.cell? ⟨gb398,0,none⟩ = some (.int .i64 t394):=(blk_cell BK398.out 0).trans rfl;have hcz18_1 : w13.cell? ⟨gb398,1,none⟩ = some (.int .i64 t395):=(blk_cell BK398.out 1).trans rfl;have hcz18_2 : w13.cell? ⟨gb398,2,none⟩ = some (.string t396):=(blk_cell BK398.out 2).trans rfl;have hfz18_0:=blk_frozen BK398.out 0;have hfz18_1:=blk_frozen BK398.out 1;have hfz18_2:=blk_frozen BK398.out 2)|((with_reducible refine gate_callee (f:=8) rfl ?_);refine goesL_ (some 31) rfl rfl Tryz.func8 (by kernel_rfl) rfl #[.int .i64 t390,.agg #[.int .i64 t391,.int .i64 t392,.string t393],.agg #[.int .i64 t394,.int .i64 t395,.string t396]] rfl (by (try simp only [List.map_toArray,List.map_cons,List.map_nil]);first|done|rfl|(simp only [List.length_drop,List.length_take];rfl)) ?_;(with_reducible refine (spec_Arith.calls k t390 t391 t392 t393 t394 t395 t396 t404 t405 t406 t407 _ A4.out).mono ?_);rintro e w19 ⟨rfl,hb⟩;refine ⟨_,rfl,?_⟩;have n0_:=Aside0.mk (blk_below (g:=gb397) (o:=.cells #[.int .i64 t391,.int .i64 t392,.string t393] 24 (0,0)) (by (with_reducible repeat (first|refine blk_drewN ?_ _|refine blk_drew ?_|refine blk_alloc ?_ _));refine blk_far ?_ NB397_403.out _;(with_reducible repeat (first|refine blk_drewN ?_ _|refine blk_drew ?_|refine blk_alloc ?_ _));refine blk_far ?_ NB397_403.out _;(with_reducible repeat (first|refine blk_drewN ?_ _|refine blk_drew ?_|refine blk_alloc ?_ _));refine blk_far ?_ NB397_403.out _;(with_reducible repeat (first|refine blk_drewN ?_ _|refine blk_drew ?_|refine blk_alloc ?_ _));exact BK397.out) hb);have n1_:=Aside0.mk (blk_below (g:=gb398) (o:=.cells #[.int .i64 t394,.int .i64 t395,.string t396] 24 (0,0)) (by (with_reducible repeat (first|refine blk_drewN ?_ _|refine blk_drew ?_|refine blk_alloc ?_ _));refine blk_far ?_ NB398_403.out _;(with_reducible repeat (first|refine blk_drewN ?_ _|refine blk_drew ?_|refine blk_alloc ?_ _));refine blk_far ?_ NB398_403.out _;(with_reducible repeat (first|refine blk_drewN ?_ _|refine blk_drew ?_|refine blk_alloc ?_ _));refine blk_far ?_ NB398_403.out _;(with_reducible repeat (first|refine blk_drewN ?_ _|refine blk_drew ?_|refine blk_alloc ?_ _));exact BK398.out) hb);have n2_:=Aside0.mk (blk_below (g:=gb403) (o:=.cells #[.int .i64 t399,.int .i64 t400,.string t401] 24 (0,0)) (by (with_reducible repeat (first|refine blk_drewN ?_ _|refine blk_drew ?_|refine blk_alloc ?_ _));refine blk_put (cs:=#[.int .i64 t399,.int .i64 t400,.string (⟨#[]⟩ : ByteArray)]) ?_ 2 _ rfl;(with_reducible repeat (first|refine blk_drewN ?_ _|refine blk_drew ?_|refine blk_alloc ?_ _));refine blk_put (cs:=#[.int .i64 t399,.int .i64 0,.string (⟨#[]⟩ : ByteArray)]) ?_ 1 _ rfl;(with_reducible repeat (first|refine blk_drewN ?_ _|refine blk_drew ?_|refine blk_alloc ?_ _));refine blk_put (cs:=#[.int .i64 0,.int .i64 0,.string (⟨#[]⟩ : ByteArray)]) ?_ 0 _ rfl;(with_reducible repeat (first|refine blk_drewN ?_ _|refine blk_drew ?_|refine blk_alloc ?_ _));exact BK403.out) hb);have n3_:=Aside0.mk (below_step (by repeat (first|(with_reducible first|exact HB.out|apply below_alloc|apply pw_below_drewN|apply below_drew1|refine below_set ?_ GE397.out|refine below_set ?_ GE398.out|refine below_set ?_ GE403.out)|exact HB.out)) hb);clear BK397;clear BK398;clear BK403;clear HB;have BK397:=n0_;have BK398:=n1_;have BK403:=n2_;have HB:=n3_;clear n0_ n1_ n2_ n3_;(try clear hb);(try clear hb2);(try clear hk);(try clear hi))|((with_reducible refine gate_dst (N:=8) rfl ?_);refine box_event ?hg (N:=8) ?hd (cs:=#[.int .i64 0,.int .i64 0,.string (⟨#[]⟩ : ByteArray)]) (t:=24) ?hr ?_;(case hd=>rfl);(case hg=>rfl);(case hr=>first|(go_simp;done)|(go_simp;rfl));intro gb408 hg w20 hbox hb;have n0_:=Aside0.mk (blk_below (g:=gb397) (o:=.cells #[.int .i64 t391,.int .i64 t392,.string t393] 24 (0,0)) (by (with_reducible repeat (first|refine blk_drewN ?_ _|refine blk_drew ?_|refine blk_alloc ?_ _));exact BK397.out) hb);have n1_:=Aside0.mk (blk_below (g:=gb398) (o:=.cells #[.int .i64 t394,.int .i64 t395,.string t396] 24 (0,0)) (by (with_reducible repeat (first|refine blk_drewN ?_ _|refine blk_drew ?_|refine blk_alloc ?_ _));exact BK398.out) hb);have n2_:=Aside0.mk (blk_below (g:=gb403) (o:=.cells #[.int .i64 t399,.int .i64 t400,.string t401] 24 (0,0)) (by (with_reducible repeat (first|refine blk_drewN ?_ _|refine blk_drew ?_|refine blk_alloc ?_ _));exact BK403.out) hb);have n3_:=Aside0.mk (below_step (by repeat (first|(with_reducible first|exact HB.out|apply below_alloc|apply pw_below_drewN|apply below_drew1|refine below_set ?_ GE397.out|refine below_set ?_ GE398.out|refine below_set ?_ GE403.out)|exact HB.out)) hb);have n4_:=Aside0.mk (hbox);have n5_:=Aside0.mk ((by rw [hg];exact (below_size (by repeat (first|(with_reducible first|exact HB.out|apply below_alloc|apply pw_below_drewN|apply below_drew1|refine below_set ?_ GE397.out|refine below_set ?_ GE398.out|refine below_set ?_ GE403.out)|exact HB.out))) : w.heap.size ≤ gb408));have n6_:=Aside0.mk ((by rw [hg];exact (below_size (by repeat (first|(with_reducible first|exact HB.out|apply below_alloc|apply pw_below_drewN|apply below_drew1|refine below_set ?_ GE397.out|refine below_set ?_ GE398.out|refine below_set ?_ GE403.out)|exact HB.out))) : w.heap.size ≤ gb408));have n7_:=Aside0.mk ((by rw [hg];exact Nat.ne_of_lt (blk_lt (g:=gb397) (o:=.cells #[.int .i64 t391,.int .i64 t392,.string t393] 24 (0,0)) (by (with_reducible repeat (first|refine blk_drewN ?_ _|refine blk_drew ?_|refine blk_alloc ?_ _));exact BK397.out)) : gb397 ≠ gb408));have n8_:=Aside0.mk ((by rw [hg];exact Nat.ne_of_gt (blk_lt (g:=gb397) (o:=.cells #[.int .i64 t391,.int .i64 t392,.string t393] 24 (0,0)) (by (with_reducible repeat (first|refine blk_drewN ?_ _|refine blk_drew ?_|refine blk_alloc ?_ _));exact BK397.out)) : gb408 ≠ gb397));have n9_:=Aside0.mk ((by rw [hg];exact Nat.ne_of_lt (blk_lt (g:=gb398) (o:=.cells #[.int .i64 t394,.int .i64 t395,.string t396] 24 (0,0)) (by (with_reducible repeat (first|refine blk_drewN ?_ _|refine blk_drew ?_|refine blk_alloc ?_ _));exact BK398.out)) : gb398 ≠ gb408));have n10_:=Aside0.mk ((by rw [hg];exact Nat.ne_of_gt (blk_lt (g:=gb398) (o:=.cells #[.int .i64 t394,.int .i64 t395,.string t396] 24 (0,0)) (by (with_reducible repeat (first|refine blk_drewN ?_ _|refine blk_drew ?_|refine blk_alloc ?_ _));exact BK398.out)) : gb408 ≠ gb398));have n11_:=Aside0.mk ((by rw [hg];exact Nat.ne_of_lt (blk_lt (g:=gb403) (o:=.cells #[.int .i64 t399,.int .i64 t400,.string t401] 24 (0,0)) (by (with_reducible repeat (first|refine blk_drewN ?_ _|refine blk_drew ?_|refine blk_alloc ?_ _));exact BK403.out)) : gb403 ≠ gb408));have n12_:=Aside0.mk ((by rw [hg];exact Nat.ne_of_gt (blk_lt (g:=gb403) (o:=.cells #[.int .i64 t399,.int .i64 t400,.string t401] 24 (0,0)) (by (with_reducible repeat (first|refine blk_drewN ?_ _|refine blk_drew ?_|refine blk_alloc ?_ _));exact BK403.out)) : gb408 ≠ gb403));clear BK397;clear BK398;clear BK403;clear HB;have BK397:=n0_;have BK398:=n1_;have BK403:=n2_;have HB:=n3_;have BK408:=n4_;have GW408:=n5_;have GE408:=n6_;have NB397_408:=n7_;have NB408_397:=n8_;have NB398_408:=n9_;have NB408_398:=n10_;have NB403_408:=n11_;have NB408_403:=n12_;clear n0_ n1_ n2_ n3_ n4_ n5_ n6_ n7_ n8_ n9_ n10_ n11_ n12_;clear hb hbox hg;have hnb21:=NB408_397.out;have hnc21:=NB397_408.out;have hnb22:=NB408_398.out;have hnc22:=NB398_408.out;have hnb23:=NB408_403.out;have hnc23:=NB403_408.out;have hcz24_0 : w20.cell? ⟨gb408,0,none⟩ = some (.int .i64 0):=(blk_cell BK408.out 0).trans rfl;have hcz24_1 : w20.cell? ⟨gb408,1,none⟩ = some (.int .i64 0):=(blk_cell BK408.out 1).trans rfl;have hcz24_2 : w20.cell? ⟨gb408,2,none⟩ = some (.string (⟨#[]⟩ : ByteArray)):=(blk_cell BK408.out 2).trans rfl;have hfz24_0:=blk_frozen BK408.out 0;have hfz24_1:=blk_frozen BK408.out 1;have hfz24_2:=blk_frozen BK408.out 2))
 (try simp only [Act.put,List.setIfInBounds_toArray,List.set_cons_zero,List.set_cons_succ])
 go_cut [40] (fun v40 wc=>∃ (kq : Nat) (x40_4 : Bool),v40 = .bool x40_4 ∧ Aside0 (laws_FnAriths.j0 kq t390 t402 t407 x40_4 t391 t392 t393 t394 t395 t396 t399 t400 t401 = some true) ∧ Aside0 (kq ≤ k) ∧ Aside0 (wc.heap[gb397]? = some (.cells #[.int .i64 t391,.int .i64 t392,.string t393] 24 (0,0))) ∧ Aside0 (wc.heap[gb398]? = some (.cells #[.int .i64 t394,.int .i64 t395,.string t396] 24 (0,0))) ∧ Aside0 (wc.heap[gb403]? = some (.cells #[.int .i64 t399,.int .i64 t400,.string t401] 24 (0,0))) ∧ Aside0 (wc.heap[gb408]? = some (.cells #[.int .i64 t404,.int .i64 t405,.string t406] 24 (0,0))) ∧ Aside0 (Below w.heap.size w wc))
 case first =>
  have H:=HC5.out
  clear HC5
  by_cases c25 : t402 = t407
  ·rw [if_pos c25] at H
   have c25b0 : (t402 == t407) = true:=beq_iff_eq.mpr c25
   have c25b1 : (t402 != t407) = false:=bne_eq_false_iff_eq.mpr c25
   clear c25
   (first|rw [c25b0]|(simp only [i64_w,i32_w];rw [c25b0])|skip)
   have H':=Aside0.mk H
   clear H
   go_wp2
   go_meet
   case rel=>exact ⟨_,((t402 != 0)),(by first|rfl|(simp;done)|(simp [*];done)),H',⟨by first|omega|exact Nat.le_refl _⟩,⟨by (with_reducible repeat (first|refine blk_drewN ?_ _|refine blk_drew ?_|refine blk_alloc ?_ _));refine blk_far ?_ NB397_408.out _;(with_reducible repeat (first|refine blk_drewN ?_ _|refine blk_drew ?_|refine blk_alloc ?_ _));refine blk_far ?_ NB397_408.out _;(with_reducible repeat (first|refine blk_drewN ?_ _|refine blk_drew ?_|refine blk_alloc ?_ _));refine blk_far ?_ NB397_408.out _;(with_reducible repeat (first|refine blk_drewN ?_ _|refine blk_drew ?_|refine blk_alloc ?_ _));exact BK397.out⟩,⟨by (with_reducible repeat (first|refine blk_drewN ?_ _|refine blk_drew ?_|refine blk_alloc ?_ _));refine blk_far ?_ NB398_408.out _;(with_reducible repeat (first|refine blk_drewN ?_ _|refine blk_drew ?_|refine blk_alloc ?_ _));refine blk_far ?_ NB398_408.out _;(with_reducible repeat (first|refine blk_drewN ?_ _|refine blk_drew ?_|refine blk_alloc ?_ _));refine blk_far ?_ NB398_408.out _;(with_reducible repeat (first|refine blk_drewN ?_ _|refine blk_drew ?_|refine blk_alloc ?_ _));exact BK398.out⟩,⟨by (with_reducible repeat (first|refine blk_drewN ?_ _|refine blk_drew ?_|refine blk_alloc ?_ _));refine blk_far ?_ NB403_408.out _;(with_reducible repeat (first|refine blk_drewN ?_ _|refine blk_drew ?_|refine blk_alloc ?_ _));refine blk_far ?_ NB403_408.out _;(with_reducible repeat (first|refine blk_drewN ?_ _|refine blk_drew ?_|refine blk_alloc ?_ _));refine blk_far ?_ NB403_408.out _;(with_reducible repeat (first|refine blk_drewN ?_ _|refine blk_drew ?_|refine blk_alloc ?_ _));exact BK403.out⟩,⟨by (with_reducible repeat (first|refine blk_drewN ?_ _|refine blk_drew ?_|refine blk_alloc ?_ _));refine blk_put (cs:=#[.int .i64 t404,.int .i64 t405,.string (⟨#[]⟩ : ByteArray)]) ?_ 2 _ rfl;(with_reducible repeat (first|refine blk_drewN ?_ _|refine blk_drew ?_|refine blk_alloc ?_ _));refine blk_put (cs:=#[.int .i64 t404,.int .i64 0,.string (⟨#[]⟩ : ByteArray)]) ?_ 1 _ rfl;(with_reducible repeat (first|refine blk_drewN ?_ _|refine blk_drew ?_|refine blk_alloc ?_ _));refine blk_put (cs:=#[.int .i64 0,.int .i64 0,.string (⟨#[]⟩ : ByteArray)]) ?_ 0 _ rfl;(with_reducible repeat (first|refine blk_drewN ?_ _|refine blk_drew ?_|refine blk_alloc ?_ _));exact BK408.out⟩,⟨by repeat (first|(with_reducible first|exact HB.out|apply below_alloc|apply pw_below_drewN|apply below_drew1|refine below_set ?_ GE397.out|refine below_set ?_ GE398.out|refine below_set ?_ GE403.out|refine below_set ?_ GE408.out)|exact HB.out)⟩⟩
  ·rw [if_neg c25] at H
   have c25b0 : (t402 == t407) = false:=beq_eq_false_iff_ne.mpr c25
   have c25b1 : (t402 != t407) = true:=bne_iff_ne.mpr c25
   (first|rw [c25b0]|(simp only [i64_w,i32_w];rw [c25b0])|skip)
   have H':=Aside0.mk H
   clear H
   go_wp2
   go_meet
   case rel=>exact ⟨_,(true),(by first|rfl|(simp;done)|(simp [*];done)),H',⟨by first|omega|exact Nat.le_refl _⟩,⟨by (with_reducible repeat (first|refine blk_drewN ?_ _|refine blk_drew ?_|refine blk_alloc ?_ _));refine blk_far ?_ NB397_408.out _;(with_reducible repeat (first|refine blk_drewN ?_ _|refine blk_drew ?_|refine blk_alloc ?_ _));refine blk_far ?_ NB397_408.out _;(with_reducible repeat (first|refine blk_drewN ?_ _|refine blk_drew ?_|refine blk_alloc ?_ _));refine blk_far ?_ NB397_408.out _;(with_reducible repeat (first|refine blk_drewN ?_ _|refine blk_drew ?_|refine blk_alloc ?_ _));exact BK397.out⟩,⟨by (with_reducible repeat (first|refine blk_drewN ?_ _|refine blk_drew ?_|refine blk_alloc ?_ _));refine blk_far ?_ NB398_408.out _;(with_reducible repeat (first|refine blk_drewN ?_ _|refine blk_drew ?_|refine blk_alloc ?_ _));refine blk_far ?_ NB398_408.out _;(with_reducible repeat (first|refine blk_drewN ?_ _|refine blk_drew ?_|refine blk_alloc ?_ _));refine blk_far ?_ NB398_408.out _;(with_reducible repeat (first|refine blk_drewN ?_ _|refine blk_drew ?_|refine blk_alloc ?_ _));exact BK398.out⟩,⟨by (with_reducible repeat (first|refine blk_drewN ?_ _|refine blk_drew ?_|refine blk_alloc ?_ _));refine blk_far ?_ NB403_408.out _;(with_reducible repeat (first|refine blk_drewN ?_ _|refine blk_drew ?_|refine blk_alloc ?_ _));refine blk_far ?_ NB403_408.out _;(with_reducible repeat (first|refine blk_drewN ?_ _|refine blk_drew ?_|refine blk_alloc ?_ _));refine blk_far ?_ NB403_408.out _;(with_reducible repeat (first|refine blk_drewN ?_ _|refine blk_drew ?_|refine blk_alloc ?_ _));exact BK403.out⟩,⟨by (with_reducible repeat (first|refine blk_drewN ?_ _|refine blk_drew ?_|refine blk_alloc ?_ _));refine blk_put (cs:=#[.int .i64 t404,.int .i64 t405,.string (⟨#[]⟩ : ByteArray)]) ?_ 2 _ rfl;(with_reducible repeat (first|refine blk_drewN ?_ _|refine blk_drew ?_|refine blk_alloc ?_ _));refine blk_put (cs:=#[.int .i64 t404,.int .i64 0,.string (⟨#[]⟩ : ByteArray)]) ?_ 1 _ rfl;(with_reducible repeat (first|refine blk_drewN ?_ _|refine blk_drew ?_|refine blk_alloc ?_ _));refine blk_put (cs:=#[.int .i64 0,.int .i64 0,.string (⟨#[]⟩ : ByteArray)]) ?_ 0 _ rfl;(with_reducible repeat (first|refine blk_drewN ?_ _|refine blk_drew ?_|refine blk_alloc ?_ _));exact BK408.out⟩,⟨by repeat (first|(with_reducible first|exact HB.out|apply below_alloc|apply pw_below_drewN|apply below_drew1|refine below_set ?_ GE397.out|refine below_set ?_ GE398.out|refine below_set ?_ GE403.out|refine below_set ?_ GE408.out)|exact HB.out)⟩⟩
 case rest =>
  clear HC5
  try clear c1
  try clear c2
  try clear p2
  try clear c3
  try clear c6
  try clear c7
  try clear c8
  try clear c9
  try clear c14
  try clear c15
  try clear c21
  try clear c22
  try clear c23
  try clear c25
  try clear c25b0
  try clear c25b1
  try clear hcz10_0
  try clear hcz10_1
  try clear hcz10_2
  try clear hcz11_0
  try clear hcz11_1
  try clear hcz11_2
  try clear hcz16_0
  try clear hcz16_1
  try clear hcz16_2
  try clear hcz17_0
  try clear hcz17_1
  try clear hcz17_2
  try clear hcz18_0
  try clear hcz18_1
  try clear hcz18_2
  try clear hcz24_0
  try clear hcz24_1
  try clear hcz24_2
  try clear hfz10_0
  try clear hfz10_1
  try clear hfz10_2
  try clear hfz11_0
  try clear hfz11_1
  try clear hfz11_2
  try clear hfz16_0
  try clear hfz16_1
  try clear hfz16_2
  try clear hfz17_0
  try clear hfz17_1
  try clear hfz17_2
  try clear hfz18_0
  try clear hfz18_1
  try clear hfz18_2
  try clear hfz24_0
  try clear hfz24_1
  try clear hfz24_2
  obtain ⟨kq,x40_4,rfl,HA,HJ4,BK397,BK398,BK403,BK408,HB⟩:=hcut
  cases kq with
  | zero=>exact absurd HA.out (by simp [laws_FnAriths.j0])
  | succ kj4 =>
   have H:=HA.out
   clear HA
   simp only [laws_FnAriths.j0] at H
   by_cases c26 : x40_4 = true
   ·subst c26
    have H1 : (if t402 = t407 then (if (t399 == 0 && (t400 == 0 && (t401.toList == ([] : List UInt8)))) = true then ((laws_cells.f kj4).bind fun t409=>(some t409)) else (some false)) else (some false)) = some true:=by rw [if_pos rfl] at H;exact H
    clear H
    have H:=H1
    clear H1
    by_cases c27 : t402 = t407
    ·rw [if_pos c27] at H
     have c27b0 : (t402 == t407) = true:=beq_iff_eq.mpr c27
     have c27b1 : (t402 != t407) = false:=bne_eq_false_iff_eq.mpr c27
     clear c27
     by_cases c28 : (t399 == 0 && (t400 == 0 && (t401.toList == ([] : List UInt8)))) = true
     ·rw [if_pos c28] at H
      have c28b0 : (t399 == 0 && (t400 == 0 && (t401.toList == ([] : List UInt8)))) = true:=c28
      (try (have c28b1 : decide (t399 = 0 && (t400 == 0 && (t401.toList == ([] : List UInt8)))) = true:=by simpa using c28))
      (try (have c28b2 : (t399 == 0 && (t400 == 0 && (t401.toList == ([] : List UInt8)))) = true:=by simpa using c28))
      (try (have c28b9 : (t399 == 0 && (t400 == 0 && t401.toList.isEmpty)) = true:=by simpa using c28))
      clear c28
      replace H:=Option.bind_eq_some_iff.mp H
      obtain ⟨t409,A290,H⟩:=H
      replace H : (some t409) = some true:=H
      have A29:=Aside0.mk A290
      clear A290
      have HOR_:=Aside0.mk (Option.some.inj H)
      clear H
      have hnb30:=NB403_397.out
      have hnc30:=NB397_403.out
      have hnb31:=NB403_398.out
      have hnc31:=NB398_403.out
      have hnb32:=NB403_408.out
      have hnc32:=NB408_403.out
      have hcz33_0 : wc.cell? ⟨gb403,0,none⟩ = some (.int .i64 t399):=(blk_cell BK403.out 0).trans rfl
      have hcz33_1 : wc.cell? ⟨gb403,1,none⟩ = some (.int .i64 t400):=(blk_cell BK403.out 1).trans rfl
      have hcz33_2 : wc.cell? ⟨gb403,2,none⟩ = some (.string t401):=(blk_cell BK403.out 2).trans rfl
      have hfz33_0:=blk_frozen BK403.out 0
      have hfz33_1:=blk_frozen BK403.out 1
      have hfz33_2:=blk_frozen BK403.out 2
      go_wp2_with (first|(go_at_call 9;(with_reducible refine (laws_cells.calls kj4  t409 _ A29.out).mono ?_);rintro e w34 ⟨rfl,hb⟩;have n0_:=Aside0.mk (blk_below (g:=gb397) (o:=.cells #[.int .i64 t391,.int .i64 t392,.string t393] 24 (0,0)) (by (with_reducible repeat (first|refine blk_drewN ?_ _|refine blk_drew ?_|refine blk_alloc ?_ _));exact BK397.out) hb);have n1_:=Aside0.mk (blk_below (g:=gb398) (o:=.cells #[.int .i64 t394,.int .i64 t395,.string t396] 24 (0,0)) (by (with_reducible repeat (first|refine blk_drewN ?_ _|refine blk_drew ?_|refine blk_alloc ?_ _));exact BK398.out) hb);have n2_:=Aside0.mk (blk_below (g:=gb403) (o:=.cells #[.int .i64 t399,.int .i64 t400,.string t401] 24 (0,0)) (by (with_reducible repeat (first|refine blk_drewN ?_ _|refine blk_drew ?_|refine blk_alloc ?_ _));exact BK403.out) hb);have n3_:=Aside0.mk (blk_below (g:=gb408) (o:=.cells #[.int .i64 t404,.int .i64 t405,.string t406] 24 (0,0)) (by (with_reducible repeat (first|refine blk_drewN ?_ _|refine blk_drew ?_|refine blk_alloc ?_ _));exact BK408.out) hb);have n4_:=Aside0.mk (below_step (by repeat (first|(with_reducible first|exact HB.out|apply below_alloc|apply pw_below_drewN|apply below_drew1|refine below_set ?_ GE397.out|refine below_set ?_ GE398.out|refine below_set ?_ GE403.out|refine below_set ?_ GE408.out)|exact HB.out)) hb);clear BK397;clear BK398;clear BK403;clear BK408;clear HB;have BK397:=n0_;have BK398:=n1_;have BK403:=n2_;have BK408:=n3_;have HB:=n4_;clear n0_ n1_ n2_ n3_ n4_;(try clear hb);(try clear hb2);(try clear hk);(try clear hi)))
      go_ret
      exact ⟨by first|rfl|(rw [HOR_.out];done)|(rw [HOR_.out];rfl)|(simp [HOR_.out];done)|(have h_:=HOR_.out;simp at h_;subst h_;first|rfl|(simp;done))|(have h_:=HOR_.out;simp at h_ ⊢;exact h_)|(simp [errW_none,errW_some] <;> rfl)|(simp [*,errW_none,errW_some] <;> rfl),by repeat (first|(with_reducible first|exact HB.out|apply below_alloc|apply pw_below_drewN|apply below_drew1|refine below_set ?_ GE397.out|refine below_set ?_ GE398.out|refine below_set ?_ GE403.out|refine below_set ?_ GE408.out)|exact HB.out)⟩
     ·rw [if_neg c28] at H
      have c28b0 : (t399 == 0 && (t400 == 0 && (t401.toList == ([] : List UInt8)))) = false:=by simpa using c28
      (try (have c28b1 : decide (t399 = 0 && (t400 == 0 && (t401.toList == ([] : List UInt8)))) = false:=by simpa using c28))
      (try (have c28b2 : (t399 == 0 && (t400 == 0 && (t401.toList == ([] : List UInt8)))) = false:=by simpa using c28))
      (try (have c28b3 : ¬ (t399 = 0 && (t400 == 0 && (t401.toList == ([] : List UInt8)))):=by simpa using c28))
      (try (have c28b9 : (t399 == 0 && (t400 == 0 && t401.toList.isEmpty)) = false:=by simpa using c28))
      clear c28
      exact absurd H (by simp)
    ·rw [if_neg c27] at H
     have c27b0 : (t402 == t407) = false:=beq_eq_false_iff_ne.mpr c27
     have c27b1 : (t402 != t407) = true:=bne_iff_ne.mpr c27
     exact absurd H (by simp)
   ·replace c26:=Bool.eq_false_iff.mpr c26
    subst c26
    have H1 : ((impl_ToNum.f t391 t392 t393).bind fun t410=>((impl_ToNum.f t394 t395 t396).bind fun t412=>((impl_Arith.f kj4 t390 1 t410 (⟨#[]⟩ : ByteArray) 1 t412 (⟨#[]⟩ : ByteArray)).bind fun bt414=>(if bt414.2.2.2 = 0 then (if (bt414.1 == t399 && (bt414.2.1 == t400 && (bt414.2.2.1.toList == t401.toList))) = true then (if t399 = 1 then ((impl_CellOk.f t399 t400 t401).bind fun t419=>(if t419 = true then ((impl_Truth.f t399 t400 t401).bind fun t420=>(if (t420 == (t400 != 0)) = true then ((laws_cells.f kj4).bind fun t421=>(some t421)) else (some false))) else (some false))) else (some false)) else (some false)) else (some false))))) = some true:=by rw [if_neg (show ¬ (false = true) by decide)] at H;exact H
    clear H
    have H:=H1
    clear H1
    replace H:=Option.bind_eq_some_iff.mp H
    obtain ⟨t410,A350,H⟩:=H
    replace H : ((impl_ToNum.f t394 t395 t396).bind fun t412=>((impl_Arith.f kj4 t390 1 t410 (⟨#[]⟩ : ByteArray) 1 t412 (⟨#[]⟩ : ByteArray)).bind fun bt414=>(if bt414.2.2.2 = 0 then (if (bt414.1 == t399 && (bt414.2.1 == t400 && (bt414.2.2.1.toList == t401.toList))) = true then (if t399 = 1 then ((impl_CellOk.f t399 t400 t401).bind fun t419=>(if t419 = true then ((impl_Truth.f t399 t400 t401).bind fun t420=>(if (t420 == (t400 != 0)) = true then ((laws_cells.f kj4).bind fun t421=>(some t421)) else (some false))) else (some false))) else (some false)) else (some false)) else (some false)))) = some true:=H
    have A35:=Aside0.mk A350
    clear A350
    replace H:=Option.bind_eq_some_iff.mp H
    obtain ⟨t412,A360,H⟩:=H
    replace H : ((impl_Arith.f kj4 t390 1 t410 (⟨#[]⟩ : ByteArray) 1 t412 (⟨#[]⟩ : ByteArray)).bind fun bt414=>(if bt414.2.2.2 = 0 then (if (bt414.1 == t399 && (bt414.2.1 == t400 && (bt414.2.2.1.toList == t401.toList))) = true then (if t399 = 1 then ((impl_CellOk.f t399 t400 t401).bind fun t419=>(if t419 = true then ((impl_Truth.f t399 t400 t401).bind fun t420=>(if (t420 == (t400 != 0)) = true then ((laws_cells.f kj4).bind fun t421=>(some t421)) else (some false))) else (some false))) else (some false)) else (some false)) else (some false))) = some true:=H
    have A36:=Aside0.mk A360
    clear A360
    replace H:=Option.bind_eq_some_iff.mp H
    obtain ⟨⟨t414,t415,t416,t417⟩,A370,H⟩:=H
    replace H : (if t417 = 0 then (if (t414 == t399 && (t415 == t400 && (t416.toList == t401.toList))) = true then (if t399 = 1 then ((impl_CellOk.f t399 t400 t401).bind fun t419=>(if t419 = true then ((impl_Truth.f t399 t400 t401).bind fun t420=>(if (t420 == (t400 != 0)) = true then ((laws_cells.f kj4).bind fun t421=>(some t421)) else (some false))) else (some false))) else (some false)) else (some false)) else (some false)) = some true:=H
    have A37:=Aside0.mk A370
    clear A370
    by_cases c38 : t417 = 0
    ·rw [if_pos c38] at H
     have c38b0 : (t417 == 0) = true:=beq_iff_eq.mpr c38
     have c38b1 : (t417 != 0) = false:=bne_eq_false_iff_eq.mpr c38
     clear c38
     by_cases c39 : (t414 == t399 && (t415 == t400 && (t416.toList == t401.toList))) = true
     ·rw [if_pos c39] at H
      have c39b0 : (t414 == t399 && (t415 == t400 && (t416.toList == t401.toList))) = true:=c39
      (try (have c39b1 : decide (t414 = t399 && (t415 == t400 && (t416.toList == t401.toList))) = true:=by simpa using c39))
      (try (have c39b2 : (t414 == t399 && (t415 == t400 && (t416.toList == t401.toList))) = true:=by simpa using c39))
      clear c39
      by_cases c40 : t399 = 1
      ·rw [if_pos c40] at H
       have c40b0 : (t399 == 1) = true:=beq_iff_eq.mpr c40
       have c40b1 : (t399 != 1) = false:=bne_eq_false_iff_eq.mpr c40
       clear c40
       replace H:=Option.bind_eq_some_iff.mp H
       obtain ⟨t419,A410,H⟩:=H
       replace H : (if t419 = true then ((impl_Truth.f t399 t400 t401).bind fun t420=>(if (t420 == (t400 != 0)) = true then ((laws_cells.f kj4).bind fun t421=>(some t421)) else (some false))) else (some false)) = some true:=H
       have A41:=Aside0.mk A410
       clear A410
       by_cases c42 : t419 = true
       ·subst c42
        have H1 : ((impl_Truth.f t399 t400 t401).bind fun t420=>(if (t420 == (t400 != 0)) = true then ((laws_cells.f kj4).bind fun t421=>(some t421)) else (some false))) = some true:=by rw [if_pos rfl] at H;exact H
        clear H
        have H:=H1
        clear H1
        replace H:=Option.bind_eq_some_iff.mp H
        obtain ⟨t420,A430,H⟩:=H
        replace H : (if (t420 == (t400 != 0)) = true then ((laws_cells.f kj4).bind fun t421=>(some t421)) else (some false)) = some true:=H
        have A43:=Aside0.mk A430
        clear A430
        by_cases c44 : (t420 == (t400 != 0)) = true
        ·rw [if_pos c44] at H
         have c44b0 : (t420 == (t400 != 0)) = true:=c44
         (try (have c44b1 : decide (t420 = (t400 != 0)) = true:=by simpa using c44))
         (try (have c44b2 : (t420 == (t400 != 0)) = true:=by simpa using c44))
         clear c44
         replace H:=Option.bind_eq_some_iff.mp H
         obtain ⟨t421,A450,H⟩:=H
         replace H : (some t421) = some true:=H
         have A45:=Aside0.mk A450
         clear A450
         have HOR_:=Aside0.mk (Option.some.inj H)
         clear H
         have hnb46:=NB397_398.out
         have hnc46:=NB398_397.out
         have hnb47:=NB397_403.out
         have hnc47:=NB403_397.out
         have hnb48:=NB397_408.out
         have hnc48:=NB408_397.out
         have hcz49_0 : wc.cell? ⟨gb397,0,none⟩ = some (.int .i64 t391):=(blk_cell BK397.out 0).trans rfl
         have hcz49_1 : wc.cell? ⟨gb397,1,none⟩ = some (.int .i64 t392):=(blk_cell BK397.out 1).trans rfl
         have hcz49_2 : wc.cell? ⟨gb397,2,none⟩ = some (.string t393):=(blk_cell BK397.out 2).trans rfl
         have hfz49_0:=blk_frozen BK397.out 0
         have hfz49_1:=blk_frozen BK397.out 1
         have hfz49_2:=blk_frozen BK397.out 2
         try go_wp2_with (first|((with_reducible refine gate_callee (f:=10) rfl ?_);refine goesL_ (some 53) rfl rfl Tryz.func10 (by kernel_rfl) rfl #[.agg #[.int .i64 t391,.int .i64 t392,.string t393]] rfl (by (try simp only [List.map_toArray,List.map_cons,List.map_nil]);first|done|rfl|(simp only [List.length_drop,List.length_take];rfl)) ?_;(with_reducible refine (impl_ToNum.calls t391 t392 t393 t410 _ A35.out).mono ?_);rintro e w50 ⟨rfl,hb⟩;refine ⟨_,rfl,?_⟩;have n0_:=Aside0.mk (blk_below (g:=gb397) (o:=.cells #[.int .i64 t391,.int .i64 t392,.string t393] 24 (0,0)) (by (with_reducible repeat (first|refine blk_drewN ?_ _|refine blk_drew ?_|refine blk_alloc ?_ _));exact BK397.out) hb);have n1_:=Aside0.mk (blk_below (g:=gb398) (o:=.cells #[.int .i64 t394,.int .i64 t395,.string t396] 24 (0,0)) (by (with_reducible repeat (first|refine blk_drewN ?_ _|refine blk_drew ?_|refine blk_alloc ?_ _));exact BK398.out) hb);have n2_:=Aside0.mk (blk_below (g:=gb403) (o:=.cells #[.int .i64 t399,.int .i64 t400,.string t401] 24 (0,0)) (by (with_reducible repeat (first|refine blk_drewN ?_ _|refine blk_drew ?_|refine blk_alloc ?_ _));exact BK403.out) hb);have n3_:=Aside0.mk (blk_below (g:=gb408) (o:=.cells #[.int .i64 t404,.int .i64 t405,.string t406] 24 (0,0)) (by (with_reducible repeat (first|refine blk_drewN ?_ _|refine blk_drew ?_|refine blk_alloc ?_ _));exact BK408.out) hb);have n4_:=Aside0.mk (below_step (by repeat (first|(with_reducible first|exact HB.out|apply below_alloc|apply pw_below_drewN|apply below_drew1|refine below_set ?_ GE397.out|refine below_set ?_ GE398.out|refine below_set ?_ GE403.out|refine below_set ?_ GE408.out)|exact HB.out)) hb);clear BK397;clear BK398;clear BK403;clear BK408;clear HB;have BK397:=n0_;have BK398:=n1_;have BK403:=n2_;have BK408:=n3_;have HB:=n4_;clear n0_ n1_ n2_ n3_ n4_;(try clear hb);(try clear hb2);(try clear hk);(try clear hi))|((with_reducible refine gate_dst (N:=10) rfl ?_);refine box_event ?hg (N:=10) ?hd (cs:=#[.int .i64 0,.int .i64 0,.string (⟨#[]⟩ : ByteArray)]) (t:=24) ?hr ?_;(case hd=>rfl);(case hg=>rfl);(case hr=>first|(go_simp;done)|(go_simp;rfl));intro gb411 hg w51 hbox hb;have n0_:=Aside0.mk (blk_below (g:=gb397) (o:=.cells #[.int .i64 t391,.int .i64 t392,.string t393] 24 (0,0)) (by (with_reducible repeat (first|refine blk_drewN ?_ _|refine blk_drew ?_|refine blk_alloc ?_ _));exact BK397.out) hb);have n1_:=Aside0.mk (blk_below (g:=gb398) (o:=.cells #[.int .i64 t394,.int .i64 t395,.string t396] 24 (0,0)) (by (with_reducible repeat (first|refine blk_drewN ?_ _|refine blk_drew ?_|refine blk_alloc ?_ _));exact BK398.out) hb);have n2_:=Aside0.mk (blk_below (g:=gb403) (o:=.cells #[.int .i64 t399,.int .i64 t400,.string t401] 24 (0,0)) (by (with_reducible repeat (first|refine blk_drewN ?_ _|refine blk_drew ?_|refine blk_alloc ?_ _));exact BK403.out) hb);have n3_:=Aside0.mk (blk_below (g:=gb408) (o:=.cells #[.int .i64 t404,.int .i64 t405,.string t406] 24 (0,0)) (by (with_reducible repeat (first|refine blk_drewN ?_ _|refine blk_drew ?_|refine blk_alloc ?_ _));exact BK408.out) hb);have n4_:=Aside0.mk (below_step (by repeat (first|(with_reducible first|exact HB.out|apply below_alloc|apply pw_below_drewN|apply below_drew1|refine below_set ?_ GE397.out|refine below_set ?_ GE398.out|refine below_set ?_ GE403.out|refine below_set ?_ GE408.out)|exact HB.out)) hb);have n5_:=Aside0.mk (hbox);have n6_:=Aside0.mk ((by rw [hg];exact (below_size (by repeat (first|(with_reducible first|exact HB.out|apply below_alloc|apply pw_below_drewN|apply below_drew1|refine below_set ?_ GE397.out|refine below_set ?_ GE398.out|refine below_set ?_ GE403.out|refine below_set ?_ GE408.out)|exact HB.out))) : w.heap.size ≤ gb411));have n7_:=Aside0.mk ((by rw [hg];exact (below_size (by repeat (first|(with_reducible first|exact HB.out|apply below_alloc|apply pw_below_drewN|apply below_drew1|refine below_set ?_ GE397.out|refine below_set ?_ GE398.out|refine below_set ?_ GE403.out|refine below_set ?_ GE408.out)|exact HB.out))) : w.heap.size ≤ gb411));have n8_:=Aside0.mk ((by rw [hg];exact Nat.ne_of_lt (blk_lt (g:=gb397) (o:=.cells #[.int .i64 t391,.int .i64 t392,.string t393] 24 (0,0)) (by (with_reducible repeat (first|refine blk_drewN ?_ _|refine blk_drew ?_|refine blk_alloc ?_ _));exact BK397.out)) : gb397 ≠ gb411));have n9_:=Aside0.mk ((by rw [hg];exact Nat.ne_of_gt (blk_lt (g:=gb397) (o:=.cells #[.int .i64 t391,.int .i64 t392,.string t393] 24 (0,0)) (by (with_reducible repeat (first|refine blk_drewN ?_ _|refine blk_drew ?_|refine blk_alloc ?_ _));exact BK397.out)) : gb411 ≠ gb397));have n10_:=Aside0.mk ((by rw [hg];exact Nat.ne_of_lt (blk_lt (g:=gb398) (o:=.cells #[.int .i64 t394,.int .i64 t395,.string t396] 24 (0,0)) (by (with_reducible repeat (first|refine blk_drewN ?_ _|refine blk_drew ?_|refine blk_alloc ?_ _));exact BK398.out)) : gb398 ≠ gb411));have n11_:=Aside0.mk ((by rw [hg];exact Nat.ne_of_gt (blk_lt (g:=gb398) (o:=.cells #[.int .i64 t394,.int .i64 t395,.string t396] 24 (0,0)) (by (with_reducible repeat (first|refine blk_drewN ?_ _|refine blk_drew ?_|refine blk_alloc ?_ _));exact BK398.out)) : gb411 ≠ gb398));have n12_:=Aside0.mk ((by rw [hg];exact Nat.ne_of_lt (blk_lt (g:=gb403) (o:=.cells #[.int .i64 t399,.int .i64 t400,.string t401] 24 (0,0)) (by (with_reducible repeat (first|refine blk_drewN ?_ _|refine blk_drew ?_|refine blk_alloc ?_ _));exact BK403.out)) : gb403 ≠ gb411));have n13_:=Aside0.mk ((by rw [hg];exact Nat.ne_of_gt (blk_lt (g:=gb403) (o:=.cells #[.int .i64 t399,.int .i64 t400,.string t401] 24 (0,0)) (by (with_reducible repeat (first|refine blk_drewN ?_ _|refine blk_drew ?_|refine blk_alloc ?_ _));exact BK403.out)) : gb411 ≠ gb403));have n14_:=Aside0.mk ((by rw [hg];exact Nat.ne_of_lt (blk_lt (g:=gb408) (o:=.cells #[.int .i64 t404,.int .i64 t405,.string t406] 24 (0,0)) (by (with_reducible repeat (first|refine blk_drewN ?_ _|refine blk_drew ?_|refine blk_alloc ?_ _));exact BK408.out)) : gb408 ≠ gb411));have n15_:=Aside0.mk ((by rw [hg];exact Nat.ne_of_gt (blk_lt (g:=gb408) (o:=.cells #[.int .i64 t404,.int .i64 t405,.string t406] 24 (0,0)) (by (with_reducible repeat (first|refine blk_drewN ?_ _|refine blk_drew ?_|refine blk_alloc ?_ _));exact BK408.out)) : gb411 ≠ gb408));clear BK397;clear BK398;clear BK403;clear BK408;clear HB;have BK397:=n0_;have BK398:=n1_;have BK403:=n2_;have BK408:=n3_;have HB:=n4_;have BK411:=n5_;have GW411:=n6_;have GE411:=n7_;have NB397_411:=n8_;have NB411_397:=n9_;have NB398_411:=n10_;have NB411_398:=n11_;have NB403_411:=n12_;have NB411_403:=n13_;have NB408_411:=n14_;have NB411_408:=n15_;clear n0_ n1_ n2_ n3_ n4_ n5_ n6_ n7_ n8_ n9_ n10_ n11_ n12_ n13_ n14_ n15_;clear hb hbox hg;have hnb52:=NB411_397.out;have hnc52:=NB397_411.out;have hnb53:=NB411_398.out;have hnc53:=NB398_411.out;have hnb54:=NB411_403.out;have hnc54:=NB403_411.out;have hnb55:=NB411_408.out;have hnc55:=NB408_411.out;have hcz56_0 : w51.cell? ⟨gb411,0,none⟩ = some (.int .i64 0):=(blk_cell BK411.out 0).trans rfl;have hcz56_1 : w51.cell? ⟨gb411,1,none⟩ = some (.int .i64 0):=(blk_cell BK411.out 1).trans rfl;have hcz56_2 : w51.cell? ⟨gb411,2,none⟩ = some (.string (⟨#[]⟩ : ByteArray)):=(blk_cell BK411.out 2).trans rfl;have hfz56_0:=blk_frozen BK411.out 0;have hfz56_1:=blk_frozen BK411.out 1;have hfz56_2:=blk_frozen BK411.out 2;have hnb57:=NB398_403.out;have hnc57:=NB403_398.out;have hnb58:=NB398_408.out;have hnc58:=NB408_398.out;have hcz59_0 : w51.cell? ⟨gb398,0,none⟩ = some (.int .i64 t394):=(blk_cell BK398.out 0).trans rfl;have hcz59_1 : w51.cell? ⟨gb398,1,none⟩ = some (.int .i64 t395):=(blk_cell BK398.out 1).trans rfl;have hcz59_2 : w51.cell? ⟨gb398,2,none⟩ = some (.string t396):=(blk_cell BK398.out 2).trans rfl;have hfz59_0:=blk_frozen BK398.out 0;have hfz59_1:=blk_frozen BK398.out 1;have hfz59_2:=blk_frozen BK398.out 2)|((with_reducible refine gate_callee (f:=10) rfl ?_);refine goesL_ (some 56) rfl rfl Tryz.func10 (by kernel_rfl) rfl #[.agg #[.int .i64 t394,.int .i64 t395,.string t396]] rfl (by (try simp only [List.map_toArray,List.map_cons,List.map_nil]);first|done|rfl|(simp only [List.length_drop,List.length_take];rfl)) ?_;(with_reducible refine (impl_ToNum.calls t394 t395 t396 t412 _ A36.out).mono ?_);rintro e w60 ⟨rfl,hb⟩;refine ⟨_,rfl,?_⟩;have n0_:=Aside0.mk (blk_below (g:=gb397) (o:=.cells #[.int .i64 t391,.int .i64 t392,.string t393] 24 (0,0)) (by (with_reducible repeat (first|refine blk_drewN ?_ _|refine blk_drew ?_|refine blk_alloc ?_ _));refine blk_far ?_ NB397_411.out _;(with_reducible repeat (first|refine blk_drewN ?_ _|refine blk_drew ?_|refine blk_alloc ?_ _));refine blk_far ?_ NB397_411.out _;(with_reducible repeat (first|refine blk_drewN ?_ _|refine blk_drew ?_|refine blk_alloc ?_ _));refine blk_far ?_ NB397_411.out _;(with_reducible repeat (first|refine blk_drewN ?_ _|refine blk_drew ?_|refine blk_alloc ?_ _));exact BK397.out) hb);have n1_:=Aside0.mk (blk_below (g:=gb398) (o:=.cells #[.int .i64 t394,.int .i64 t395,.string t396] 24 (0,0)) (by (with_reducible repeat (first|refine blk_drewN ?_ _|refine blk_drew ?_|refine blk_alloc ?_ _));refine blk_far ?_ NB398_411.out _;(with_reducible repeat (first|refine blk_drewN ?_ _|refine blk_drew ?_|refine blk_alloc ?_ _));refine blk_far ?_ NB398_411.out _;(with_reducible repeat (first|refine blk_drewN ?_ _|refine blk_drew ?_|refine blk_alloc ?_ _));refine blk_far ?_ NB398_411.out _;(with_reducible repeat (first|refine blk_drewN ?_ _|refine blk_drew ?_|refine blk_alloc ?_ _));exact BK398.out) hb);have n2_:=Aside0.mk (blk_below (g:=gb403) (o:=.cells #[.int .i64 t399,.int .i64 t400,.string t401] 24 (0,0)) (by (with_reducible repeat (first|refine blk_drewN ?_ _|refine blk_drew ?_|refine blk_alloc ?_ _));refine blk_far ?_ NB403_411.out _;(with_reducible repeat (first|refine blk_drewN ?_ _|refine blk_drew ?_|refine blk_alloc ?_ _));refine blk_far ?_ NB403_411.out _;(with_reducible repeat (first|refine blk_drewN ?_ _|refine blk_drew ?_|refine blk_alloc ?_ _));refine blk_far ?_ NB403_411.out _;(with_reducible repeat (first|refine blk_drewN ?_ _|refine blk_drew ?_|refine blk_alloc ?_ _));exact BK403.out) hb);have n3_:=Aside0.mk (blk_below (g:=gb408) (o:=.cells #[.int .i64 t404,.int .i64 t405,.string t406] 24 (0,0)) (by (with_reducible repeat (first|refine blk_drewN ?_ _|refine blk_drew ?_|refine blk_alloc ?_ _));refine blk_far ?_ NB408_411.out _;(with_reducible repeat (first|refine blk_drewN ?_ _|refine blk_drew ?_|refine blk_alloc ?_ _));refine blk_far ?_ NB408_411.out _;(with_reducible repeat (first|refine blk_drewN ?_ _|refine blk_drew ?_|refine blk_alloc ?_ _));refine blk_far ?_ NB408_411.out _;(with_reducible repeat (first|refine blk_drewN ?_ _|refine blk_drew ?_|refine blk_alloc ?_ _));exact BK408.out) hb);have n4_:=Aside0.mk (blk_below (g:=gb411) (o:=.cells #[.int .i64 1,.int .i64 t410,.string (⟨#[]⟩ : ByteArray)] 24 (0,0)) (by (with_reducible repeat (first|refine blk_drewN ?_ _|refine blk_drew ?_|refine blk_alloc ?_ _));refine blk_put (cs:=#[.int .i64 1,.int .i64 t410,.string (⟨#[]⟩ : ByteArray)]) ?_ 2 _ rfl;(with_reducible repeat (first|refine blk_drewN ?_ _|refine blk_drew ?_|refine blk_alloc ?_ _));refine blk_put (cs:=#[.int .i64 1,.int .i64 0,.string (⟨#[]⟩ : ByteArray)]) ?_ 1 _ rfl;(with_reducible repeat (first|refine blk_drewN ?_ _|refine blk_drew ?_|refine blk_alloc ?_ _));refine blk_put (cs:=#[.int .i64 0,.int .i64 0,.string (⟨#[]⟩ : ByteArray)]) ?_ 0 _ rfl;(with_reducible repeat (first|refine blk_drewN ?_ _|refine blk_drew ?_|refine blk_alloc ?_ _));exact BK411.out) hb);have n5_:=Aside0.mk (below_step (by repeat (first|(with_reducible first|exact HB.out|apply below_alloc|apply pw_below_drewN|apply below_drew1|refine below_set ?_ GE397.out|refine below_set ?_ GE398.out|refine below_set ?_ GE403.out|refine below_set ?_ GE408.out|refine below_set ?_ GE411.out)|exact HB.out)) hb);clear BK397;clear BK398;clear BK403;clear BK408;clear BK411;clear HB;have BK397:=n0_;have BK398:=n1_;have BK403:=n2_;have BK408:=n3_;have BK411:=n4_;have HB:=n5_;clear n0_ n1_ n2_ n3_ n4_ n5_;(try clear hb);(try clear hb2);(try clear hk);(try clear hi))|((with_reducible refine gate_dst (N:=11) rfl ?_);refine box_event ?hg (N:=11) ?hd (cs:=#[.int .i64 0,.int .i64 0,.string (⟨#[]⟩ : ByteArray)]) (t:=24) ?hr ?_;(case hd=>rfl);(case hg=>rfl);(case hr=>first|(go_simp;done)|(go_simp;rfl));intro gb413 hg w61 hbox hb;have n0_:=Aside0.mk (blk_below (g:=gb397) (o:=.cells #[.int .i64 t391,.int .i64 t392,.string t393] 24 (0,0)) (by (with_reducible repeat (first|refine blk_drewN ?_ _|refine blk_drew ?_|refine blk_alloc ?_ _));exact BK397.out) hb);have n1_:=Aside0.mk (blk_below (g:=gb398) (o:=.cells #[.int .i64 t394,.int .i64 t395,.string t396] 24 (0,0)) (by (with_reducible repeat (first|refine blk_drewN ?_ _|refine blk_drew ?_|refine blk_alloc ?_ _));exact BK398.out) hb);have n2_:=Aside0.mk (blk_below (g:=gb403) (o:=.cells #[.int .i64 t399,.int .i64 t400,.string t401] 24 (0,0)) (by (with_reducible repeat (first|refine blk_drewN ?_ _|refine blk_drew ?_|refine blk_alloc ?_ _));exact BK403.out) hb);have n3_:=Aside0.mk (blk_below (g:=gb408) (o:=.cells #[.int .i64 t404,.int .i64 t405,.string t406] 24 (0,0)) (by (with_reducible repeat (first|refine blk_drewN ?_ _|refine blk_drew ?_|refine blk_alloc ?_ _));exact BK408.out) hb);have n4_:=Aside0.mk (blk_below (g:=gb411) (o:=.cells #[.int .i64 1,.int .i64 t410,.string (⟨#[]⟩ : ByteArray)] 24 (0,0)) (by (with_reducible repeat (first|refine blk_drewN ?_ _|refine blk_drew ?_|refine blk_alloc ?_ _));exact BK411.out) hb);have n5_:=Aside0.mk (below_step (by repeat (first|(with_reducible first|exact HB.out|apply below_alloc|apply pw_below_drewN|apply below_drew1|refine below_set ?_ GE397.out|refine below_set ?_ GE398.out|refine below_set ?_ GE403.out|refine below_set ?_ GE408.out|refine below_set ?_ GE411.out)|exact HB.out)) hb);have n6_:=Aside0.mk (hbox);have n7_:=Aside0.mk ((by rw [hg];exact (below_size (by repeat (first|(with_reducible first|exact HB.out|apply below_alloc|apply pw_below_drewN|apply below_drew1|refine below_set ?_ GE397.out|refine below_set ?_ GE398.out|refine below_set ?_ GE403.out|refine below_set ?_ GE408.out|refine below_set ?_ GE411.out)|exact HB.out))) : w.heap.size ≤ gb413));have n8_:=Aside0.mk ((by rw [hg];exact (below_size (by repeat (first|(with_reducible first|exact HB.out|apply below_alloc|apply pw_below_drewN|apply below_drew1|refine below_set ?_ GE397.out|refine below_set ?_ GE398.out|refine below_set ?_ GE403.out|refine below_set ?_ GE408.out|refine below_set ?_ GE411.out)|exact HB.out))) : w.heap.size ≤ gb413));have n9_:=Aside0.mk ((by rw [hg];exact Nat.ne_of_lt (blk_lt (g:=gb397) (o:=.cells #[.int .i64 t391,.int .i64 t392,.string t393] 24 (0,0)) (by (with_reducible repeat (first|refine blk_drewN ?_ _|refine blk_drew ?_|refine blk_alloc ?_ _));exact BK397.out)) : gb397 ≠ gb413));have n10_:=Aside0.mk ((by rw [hg];exact Nat.ne_of_gt (blk_lt (g:=gb397) (o:=.cells #[.int .i64 t391,.int .i64 t392,.string t393] 24 (0,0)) (by (with_reducible repeat (first|refine blk_drewN ?_ _|refine blk_drew ?_|refine blk_alloc ?_ _));exact BK397.out)) : gb413 ≠ gb397));have n11_:=Aside0.mk ((by rw [hg];exact Nat.ne_of_lt (blk_lt (g:=gb398) (o:=.cells #[.int .i64 t394,.int .i64 t395,.string t396] 24 (0,0)) (by (with_reducible repeat (first|refine blk_drewN ?_ _|refine blk_drew ?_|refine blk_alloc ?_ _));exact BK398.out)) : gb398 ≠ gb413));have n12_:=Aside0.mk ((by rw [hg];exact Nat.ne_of_gt (blk_lt (g:=gb398) (o:=.cells #[.int .i64 t394,.int .i64 t395,.string t396] 24 (0,0)) (by (with_reducible repeat (first|refine blk_drewN ?_ _|refine blk_drew ?_|refine blk_alloc ?_ _));exact BK398.out)) : gb413 ≠ gb398));have n13_:=Aside0.mk ((by rw [hg];exact Nat.ne_of_lt (blk_lt (g:=gb403) (o:=.cells #[.int .i64 t399,.int .i64 t400,.string t401] 24 (0,0)) (by (with_reducible repeat (first|refine blk_drewN ?_ _|refine blk_drew ?_|refine blk_alloc ?_ _));exact BK403.out)) : gb403 ≠ gb413));have n14_:=Aside0.mk ((by rw [hg];exact Nat.ne_of_gt (blk_lt (g:=gb403) (o:=.cells #[.int .i64 t399,.int .i64 t400,.string t401] 24 (0,0)) (by (with_reducible repeat (first|refine blk_drewN ?_ _|refine blk_drew ?_|refine blk_alloc ?_ _));exact BK403.out)) : gb413 ≠ gb403));have n15_:=Aside0.mk ((by rw [hg];exact Nat.ne_of_lt (blk_lt (g:=gb408) (o:=.cells #[.int .i64 t404,.int .i64 t405,.string t406] 24 (0,0)) (by (with_reducible repeat (first|refine blk_drewN ?_ _|refine blk_drew ?_|refine blk_alloc ?_ _));exact BK408.out)) : gb408 ≠ gb413));have n16_:=Aside0.mk ((by rw [hg];exact Nat.ne_of_gt (blk_lt (g:=gb408) (o:=.cells #[.int .i64 t404,.int .i64 t405,.string t406] 24 (0,0)) (by (with_reducible repeat (first|refine blk_drewN ?_ _|refine blk_drew ?_|refine blk_alloc ?_ _));exact BK408.out)) : gb413 ≠ gb408));have n17_:=Aside0.mk ((by rw [hg];exact Nat.ne_of_lt (blk_lt (g:=gb411) (o:=.cells #[.int .i64 1,.int .i64 t410,.string (⟨#[]⟩ : ByteArray)] 24 (0,0)) (by (with_reducible repeat (first|refine blk_drewN ?_ _|refine blk_drew ?_|refine blk_alloc ?_ _));exact BK411.out)) : gb411 ≠ gb413));have n18_:=Aside0.mk ((by rw [hg];exact Nat.ne_of_gt (blk_lt (g:=gb411) (o:=.cells #[.int .i64 1,.int .i64 t410,.string (⟨#[]⟩ : ByteArray)] 24 (0,0)) (by (with_reducible repeat (first|refine blk_drewN ?_ _|refine blk_drew ?_|refine blk_alloc ?_ _));exact BK411.out)) : gb413 ≠ gb411));clear BK397;clear BK398;clear BK403;clear BK408;clear BK411;clear HB;have BK397:=n0_;have BK398:=n1_;have BK403:=n2_;have BK408:=n3_;have BK411:=n4_;have HB:=n5_;have BK413:=n6_;have GW413:=n7_;have GE413:=n8_;have NB397_413:=n9_;have NB413_397:=n10_;have NB398_413:=n11_;have NB413_398:=n12_;have NB403_413:=n13_;have NB413_403:=n14_;have NB408_413:=n15_;have NB413_408:=n16_;have NB411_413:=n17_;have NB413_411:=n18_;clear n0_ n1_ n2_ n3_ n4_ n5_ n6_ n7_ n8_ n9_ n10_ n11_ n12_ n13_ n14_ n15_ n16_ n17_ n18_;clear hb hbox hg;have hnb62:=NB413_397.out;have hnc62:=NB397_413.out;have hnb63:=NB413_398.out;have hnc63:=NB398_413.out;have hnb64:=NB413_403.out;have hnc64:=NB403_413.out;have hnb65:=NB413_408.out;have hnc65:=NB408_413.out;have hnb66:=NB413_411.out;have hnc66:=NB411_413.out;have hcz67_0 : w61.cell? ⟨gb413,0,none⟩ = some (.int .i64 0):=(blk_cell BK413.out 0).trans rfl;have hcz67_1 : w61.cell? ⟨gb413,1,none⟩ = some (.int .i64 0):=(blk_cell BK413.out 1).trans rfl;have hcz67_2 : w61.cell? ⟨gb413,2,none⟩ = some (.string (⟨#[]⟩ : ByteArray)):=(blk_cell BK413.out 2).trans rfl;have hfz67_0:=blk_frozen BK413.out 0;have hfz67_1:=blk_frozen BK413.out 1;have hfz67_2:=blk_frozen BK413.out 2;have hcz68_0 : w61.cell? ⟨gb411,0,none⟩ = some (.int .i64 1):=(blk_cell BK411.out 0).trans rfl;have hcz68_1 : w61.cell? ⟨gb411,1,none⟩ = some (.int .i64 t410):=(blk_cell BK411.out 1).trans rfl;have hcz68_2 : w61.cell? ⟨gb411,2,none⟩ = some (.string (⟨#[]⟩ : ByteArray)):=(blk_cell BK411.out 2).trans rfl;have hfz68_0:=blk_frozen BK411.out 0;have hfz68_1:=blk_frozen BK411.out 1;have hfz68_2:=blk_frozen BK411.out 2)|((with_reducible refine gate_callee (f:=7) rfl ?_);refine goesL_ (some 62) rfl rfl Tryz.func7 (by kernel_rfl) rfl #[.int .i64 t390,.agg #[.int .i64 1,.int .i64 t410,.string (⟨#[]⟩ : ByteArray)],.agg #[.int .i64 1,.int .i64 t412,.string (⟨#[]⟩ : ByteArray)]] rfl (by (try simp only [List.map_toArray,List.map_cons,List.map_nil]);first|done|rfl|(simp only [List.length_drop,List.length_take];rfl)) ?_;(with_reducible refine (impl_Arith.calls kj4 t390 1 t410 (⟨#[]⟩ : ByteArray) 1 t412 (⟨#[]⟩ : ByteArray) t414 t415 t416 t417 _ A37.out).mono ?_);rintro e w69 ⟨rfl,hb⟩;refine ⟨_,rfl,?_⟩;have n0_:=Aside0.mk (blk_below (g:=gb397) (o:=.cells #[.int .i64 t391,.int .i64 t392,.string t393] 24 (0,0)) (by (with_reducible repeat (first|refine blk_drewN ?_ _|refine blk_drew ?_|refine blk_alloc ?_ _));refine blk_far ?_ NB397_413.out _;(with_reducible repeat (first|refine blk_drewN ?_ _|refine blk_drew ?_|refine blk_alloc ?_ _));refine blk_far ?_ NB397_413.out _;(with_reducible repeat (first|refine blk_drewN ?_ _|refine blk_drew ?_|refine blk_alloc ?_ _));refine blk_far ?_ NB397_413.out _;(with_reducible repeat (first|refine blk_drewN ?_ _|refine blk_drew ?_|refine blk_alloc ?_ _));exact BK397.out) hb);have n1_:=Aside0.mk (blk_below (g:=gb398) (o:=.cells #[.int .i64 t394,.int .i64 t395,.string t396] 24 (0,0)) (by (with_reducible repeat (first|refine blk_drewN ?_ _|refine blk_drew ?_|refine blk_alloc ?_ _));refine blk_far ?_ NB398_413.out _;(with_reducible repeat (first|refine blk_drewN ?_ _|refine blk_drew ?_|refine blk_alloc ?_ _));refine blk_far ?_ NB398_413.out _;(with_reducible repeat (first|refine blk_drewN ?_ _|refine blk_drew ?_|refine blk_alloc ?_ _));refine blk_far ?_ NB398_413.out _;(with_reducible repeat (first|refine blk_drewN ?_ _|refine blk_drew ?_|refine blk_alloc ?_ _));exact BK398.out) hb);have n2_:=Aside0.mk (blk_below (g:=gb403) (o:=.cells #[.int .i64 t399,.int .i64 t400,.string t401] 24 (0,0)) (by (with_reducible repeat (first|refine blk_drewN ?_ _|refine blk_drew ?_|refine blk_alloc ?_ _));refine blk_far ?_ NB403_413.out _;(with_reducible repeat (first|refine blk_drewN ?_ _|refine blk_drew ?_|refine blk_alloc ?_ _));refine blk_far ?_ NB403_413.out _;(with_reducible repeat (first|refine blk_drewN ?_ _|refine blk_drew ?_|refine blk_alloc ?_ _));refine blk_far ?_ NB403_413.out _;(with_reducible repeat (first|refine blk_drewN ?_ _|refine blk_drew ?_|refine blk_alloc ?_ _));exact BK403.out) hb);have n3_:=Aside0.mk (blk_below (g:=gb408) (o:=.cells #[.int .i64 t404,.int .i64 t405,.string t406] 24 (0,0)) (by (with_reducible repeat (first|refine blk_drewN ?_ _|refine blk_drew ?_|refine blk_alloc ?_ _));refine blk_far ?_ NB408_413.out _;(with_reducible repeat (first|refine blk_drewN ?_ _|refine blk_drew ?_|refine blk_alloc ?_ _));refine blk_far ?_ NB408_413.out _;(with_reducible repeat (first|refine blk_drewN ?_ _|refine blk_drew ?_|refine blk_alloc ?_ _));refine blk_far ?_ NB408_413.out _;(with_reducible repeat (first|refine blk_drewN ?_ _|refine blk_drew ?_|refine blk_alloc ?_ _));exact BK408.out) hb);have n4_:=Aside0.mk (blk_below (g:=gb411) (o:=.cells #[.int .i64 1,.int .i64 t410,.string (⟨#[]⟩ : ByteArray)] 24 (0,0)) (by (with_reducible repeat (first|refine blk_drewN ?_ _|refine blk_drew ?_|refine blk_alloc ?_ _));refine blk_far ?_ NB411_413.out _;(with_reducible repeat (first|refine blk_drewN ?_ _|refine blk_drew ?_|refine blk_alloc ?_ _));refine blk_far ?_ NB411_413.out _;(with_reducible repeat (first|refine blk_drewN ?_ _|refine blk_drew ?_|refine blk_alloc ?_ _));refine blk_far ?_ NB411_413.out _;(with_reducible repeat (first|refine blk_drewN ?_ _|refine blk_drew ?_|refine blk_alloc ?_ _));exact BK411.out) hb);have n5_:=Aside0.mk (blk_below (g:=gb413) (o:=.cells #[.int .i64 1,.int .i64 t412,.string (⟨#[]⟩ : ByteArray)] 24 (0,0)) (by (with_reducible repeat (first|refine blk_drewN ?_ _|refine blk_drew ?_|refine blk_alloc ?_ _));refine blk_put (cs:=#[.int .i64 1,.int .i64 t412,.string (⟨#[]⟩ : ByteArray)]) ?_ 2 _ rfl;(with_reducible repeat (first|refine blk_drewN ?_ _|refine blk_drew ?_|refine blk_alloc ?_ _));refine blk_put (cs:=#[.int .i64 1,.int .i64 0,.string (⟨#[]⟩ : ByteArray)]) ?_ 1 _ rfl;(with_reducible repeat (first|refine blk_drewN ?_ _|refine blk_drew ?_|refine blk_alloc ?_ _));refine blk_put (cs:=#[.int .i64 0,.int .i64 0,.string (⟨#[]⟩ : ByteArray)]) ?_ 0 _ rfl;(with_reducible repeat (first|refine blk_drewN ?_ _|refine blk_drew ?_|refine blk_alloc ?_ _));exact BK413.out) hb);have n6_:=Aside0.mk (below_step (by repeat (first|(with_reducible first|exact HB.out|apply below_alloc|apply pw_below_drewN|apply below_drew1|refine below_set ?_ GE397.out|refine below_set ?_ GE398.out|refine below_set ?_ GE403.out|refine below_set ?_ GE408.out|refine below_set ?_ GE411.out|refine below_set ?_ GE413.out)|exact HB.out)) hb);clear BK397;clear BK398;clear BK403;clear BK408;clear BK411;clear BK413;clear HB;have BK397:=n0_;have BK398:=n1_;have BK403:=n2_;have BK408:=n3_;have BK411:=n4_;have BK413:=n5_;have HB:=n6_;clear n0_ n1_ n2_ n3_ n4_ n5_ n6_;(try clear hb);(try clear hb2);(try clear hk);(try clear hi))|((with_reducible refine gate_dst (N:=12) rfl ?_);refine box_event ?hg (N:=12) ?hd (cs:=#[.int .i64 0,.int .i64 0,.string (⟨#[]⟩ : ByteArray)]) (t:=24) ?hr ?_;(case hd=>rfl);(case hg=>rfl);(case hr=>first|(go_simp;done)|(go_simp;rfl));intro gb418 hg w70 hbox hb;have n0_:=Aside0.mk (blk_below (g:=gb397) (o:=.cells #[.int .i64 t391,.int .i64 t392,.string t393] 24 (0,0)) (by (with_reducible repeat (first|refine blk_drewN ?_ _|refine blk_drew ?_|refine blk_alloc ?_ _));exact BK397.out) hb);have n1_:=Aside0.mk (blk_below (g:=gb398) (o:=.cells #[.int .i64 t394,.int .i64 t395,.string t396] 24 (0,0)) (by (with_reducible repeat (first|refine blk_drewN ?_ _|refine blk_drew ?_|refine blk_alloc ?_ _));exact BK398.out) hb);have n2_:=Aside0.mk (blk_below (g:=gb403) (o:=.cells #[.int .i64 t399,.int .i64 t400,.string t401] 24 (0,0)) (by (with_reducible repeat (first|refine blk_drewN ?_ _|refine blk_drew ?_|refine blk_alloc ?_ _));exact BK403.out) hb);have n3_:=Aside0.mk (blk_below (g:=gb408) (o:=.cells #[.int .i64 t404,.int .i64 t405,.string t406] 24 (0,0)) (by (with_reducible repeat (first|refine blk_drewN ?_ _|refine blk_drew ?_|refine blk_alloc ?_ _));exact BK408.out) hb);have n4_:=Aside0.mk (blk_below (g:=gb411) (o:=.cells #[.int .i64 1,.int .i64 t410,.string (⟨#[]⟩ : ByteArray)] 24 (0,0)) (by (with_reducible repeat (first|refine blk_drewN ?_ _|refine blk_drew ?_|refine blk_alloc ?_ _));exact BK411.out) hb);have n5_:=Aside0.mk (blk_below (g:=gb413) (o:=.cells #[.int .i64 1,.int .i64 t412,.string (⟨#[]⟩ : ByteArray)] 24 (0,0)) (by (with_reducible repeat (first|refine blk_drewN ?_ _|refine blk_drew ?_|refine blk_alloc ?_ _));exact BK413.out) hb);have n6_:=Aside0.mk (below_step (by repeat (first|(with_reducible first|exact HB.out|apply below_alloc|apply pw_below_drewN|apply below_drew1|refine below_set ?_ GE397.out|refine below_set ?_ GE398.out|refine below_set ?_ GE403.out|refine below_set ?_ GE408.out|refine below_set ?_ GE411.out|refine below_set ?_ GE413.out)|exact HB.out)) hb);have n7_:=Aside0.mk (hbox);have n8_:=Aside0.mk ((by rw [hg];exact (below_size (by repeat (first|(with_reducible first|exact HB.out|apply below_alloc|apply pw_below_drewN|apply below_drew1|refine below_set ?_ GE397.out|refine below_set ?_ GE398.out|refine below_set ?_ GE403.out|refine below_set ?_ GE408.out|refine below_set ?_ GE411.out|refine below_set ?_ GE413.out)|exact HB.out))) : w.heap.size ≤ gb418));have n9_:=Aside0.mk ((by rw [hg];exact (below_size (by repeat (first|(with_reducible first|exact HB.out|apply below_alloc|apply pw_below_drewN|apply below_drew1|refine below_set ?_ GE397.out|refine below_set ?_ GE398.out|refine below_set ?_ GE403.out|refine below_set ?_ GE408.out|refine below_set ?_ GE411.out|refine below_set ?_ GE413.out)|exact HB.out))) : w.heap.size ≤ gb418));have n10_:=Aside0.mk ((by rw [hg];exact Nat.ne_of_lt (blk_lt (g:=gb397) (o:=.cells #[.int .i64 t391,.int .i64 t392,.string t393] 24 (0,0)) (by (with_reducible repeat (first|refine blk_drewN ?_ _|refine blk_drew ?_|refine blk_alloc ?_ _));exact BK397.out)) : gb397 ≠ gb418));have n11_:=Aside0.mk ((by rw [hg];exact Nat.ne_of_gt (blk_lt (g:=gb397) (o:=.cells #[.int .i64 t391,.int .i64 t392,.string t393] 24 (0,0)) (by (with_reducible repeat (first|refine blk_drewN ?_ _|refine blk_drew ?_|refine blk_alloc ?_ _));exact BK397.out)) : gb418 ≠ gb397));have n12_:=Aside0.mk ((by rw [hg];exact Nat.ne_of_lt (blk_lt (g:=gb398) (o:=.cells #[.int .i64 t394,.int .i64 t395,.string t396] 24 (0,0)) (by (with_reducible repeat (first|refine blk_drewN ?_ _|refine blk_drew ?_|refine blk_alloc ?_ _));exact BK398.out)) : gb398 ≠ gb418));have n13_:=Aside0.mk ((by rw [hg];exact Nat.ne_of_gt (blk_lt (g:=gb398) (o:=.cells #[.int .i64 t394,.int .i64 t395,.string t396] 24 (0,0)) (by (with_reducible repeat (first|refine blk_drewN ?_ _|refine blk_drew ?_|refine blk_alloc ?_ _));exact BK398.out)) : gb418 ≠ gb398));have n14_:=Aside0.mk ((by rw [hg];exact Nat.ne_of_lt (blk_lt (g:=gb403) (o:=.cells #[.int .i64 t399,.int .i64 t400,.string t401] 24 (0,0)) (by (with_reducible repeat (first|refine blk_drewN ?_ _|refine blk_drew ?_|refine blk_alloc ?_ _));exact BK403.out)) : gb403 ≠ gb418));have n15_:=Aside0.mk ((by rw [hg];exact Nat.ne_of_gt (blk_lt (g:=gb403) (o:=.cells #[.int .i64 t399,.int .i64 t400,.string t401] 24 (0,0)) (by (with_reducible repeat (first|refine blk_drewN ?_ _|refine blk_drew ?_|refine blk_alloc ?_ _));exact BK403.out)) : gb418 ≠ gb403));have n16_:=Aside0.mk ((by rw [hg];exact Nat.ne_of_lt (blk_lt (g:=gb408) (o:=.cells #[.int .i64 t404,.int .i64 t405,.string t406] 24 (0,0)) (by (with_reducible repeat (first|refine blk_drewN ?_ _|refine blk_drew ?_|refine blk_alloc ?_ _));exact BK408.out)) : gb408 ≠ gb418));have n17_:=Aside0.mk ((by rw [hg];exact Nat.ne_of_gt (blk_lt (g:=gb408) (o:=.cells #[.int .i64 t404,.int .i64 t405,.string t406] 24 (0,0)) (by (with_reducible repeat (first|refine blk_drewN ?_ _|refine blk_drew ?_|refine blk_alloc ?_ _));exact BK408.out)) : gb418 ≠ gb408));have n18_:=Aside0.mk ((by rw [hg];exact Nat.ne_of_lt (blk_lt (g:=gb411) (o:=.cells #[.int .i64 1,.int .i64 t410,.string (⟨#[]⟩ : ByteArray)] 24 (0,0)) (by (with_reducible repeat (first|refine blk_drewN ?_ _|refine blk_drew ?_|refine blk_alloc ?_ _));exact BK411.out)) : gb411 ≠ gb418));have n19_:=Aside0.mk ((by rw [hg];exact Nat.ne_of_gt (blk_lt (g:=gb411) (o:=.cells #[.int .i64 1,.int .i64 t410,.string (⟨#[]⟩ : ByteArray)] 24 (0,0)) (by (with_reducible repeat (first|refine blk_drewN ?_ _|refine blk_drew ?_|refine blk_alloc ?_ _));exact BK411.out)) : gb418 ≠ gb411));have n20_:=Aside0.mk ((by rw [hg];exact Nat.ne_of_lt (blk_lt (g:=gb413) (o:=.cells #[.int .i64 1,.int .i64 t412,.string (⟨#[]⟩ : ByteArray)] 24 (0,0)) (by (with_reducible repeat (first|refine blk_drewN ?_ _|refine blk_drew ?_|refine blk_alloc ?_ _));exact BK413.out)) : gb413 ≠ gb418));have n21_:=Aside0.mk ((by rw [hg];exact Nat.ne_of_gt (blk_lt (g:=gb413) (o:=.cells #[.int .i64 1,.int .i64 t412,.string (⟨#[]⟩ : ByteArray)] 24 (0,0)) (by (with_reducible repeat (first|refine blk_drewN ?_ _|refine blk_drew ?_|refine blk_alloc ?_ _));exact BK413.out)) : gb418 ≠ gb413));clear BK397;clear BK398;clear BK403;clear BK408;clear BK411;clear BK413;clear HB;have BK397:=n0_;have BK398:=n1_;have BK403:=n2_;have BK408:=n3_;have BK411:=n4_;have BK413:=n5_;have HB:=n6_;have BK418:=n7_;have GW418:=n8_;have GE418:=n9_;have NB397_418:=n10_;have NB418_397:=n11_;have NB398_418:=n12_;have NB418_398:=n13_;have NB403_418:=n14_;have NB418_403:=n15_;have NB408_418:=n16_;have NB418_408:=n17_;have NB411_418:=n18_;have NB418_411:=n19_;have NB413_418:=n20_;have NB418_413:=n21_;clear n0_ n1_ n2_ n3_ n4_ n5_ n6_ n7_ n8_ n9_ n10_ n11_ n12_ n13_ n14_ n15_ n16_ n17_ n18_ n19_ n20_ n21_;clear hb hbox hg;have hnb71:=NB418_397.out;have hnc71:=NB397_418.out;have hnb72:=NB418_398.out;have hnc72:=NB398_418.out;have hnb73:=NB418_403.out;have hnc73:=NB403_418.out;have hnb74:=NB418_408.out;have hnc74:=NB408_418.out;have hnb75:=NB418_411.out;have hnc75:=NB411_418.out;have hnb76:=NB418_413.out;have hnc76:=NB413_418.out;have hcz77_0 : w70.cell? ⟨gb418,0,none⟩ = some (.int .i64 0):=(blk_cell BK418.out 0).trans rfl;have hcz77_1 : w70.cell? ⟨gb418,1,none⟩ = some (.int .i64 0):=(blk_cell BK418.out 1).trans rfl;have hcz77_2 : w70.cell? ⟨gb418,2,none⟩ = some (.string (⟨#[]⟩ : ByteArray)):=(blk_cell BK418.out 2).trans rfl;have hfz77_0:=blk_frozen BK418.out 0;have hfz77_1:=blk_frozen BK418.out 1;have hfz77_2:=blk_frozen BK418.out 2))
         have n0_ : Aside0 ((((w70.setCell ⟨gb418,0,none⟩ (.int .i64 t414)).setCell ⟨gb418,1,none⟩ (.int .i64 t415)).setCell ⟨gb418,2,none⟩ (.string t416)).heap[gb397]? = some (.cells #[.int .i64 t391,.int .i64 t392,.string t393] 24 (0,0))):=⟨by (with_reducible repeat (first|refine blk_drewN ?_ _|refine blk_drew ?_|refine blk_alloc ?_ _));refine blk_far ?_ NB397_418.out _;(with_reducible repeat (first|refine blk_drewN ?_ _|refine blk_drew ?_|refine blk_alloc ?_ _));refine blk_far ?_ NB397_418.out _;(with_reducible repeat (first|refine blk_drewN ?_ _|refine blk_drew ?_|refine blk_alloc ?_ _));refine blk_far ?_ NB397_418.out _;(with_reducible repeat (first|refine blk_drewN ?_ _|refine blk_drew ?_|refine blk_alloc ?_ _));exact BK397.out⟩
         have n1_ : Aside0 ((((w70.setCell ⟨gb418,0,none⟩ (.int .i64 t414)).setCell ⟨gb418,1,none⟩ (.int .i64 t415)).setCell ⟨gb418,2,none⟩ (.string t416)).heap[gb398]? = some (.cells #[.int .i64 t394,.int .i64 t395,.string t396] 24 (0,0))):=⟨by (with_reducible repeat (first|refine blk_drewN ?_ _|refine blk_drew ?_|refine blk_alloc ?_ _));refine blk_far ?_ NB398_418.out _;(with_reducible repeat (first|refine blk_drewN ?_ _|refine blk_drew ?_|refine blk_alloc ?_ _));refine blk_far ?_ NB398_418.out _;(with_reducible repeat (first|refine blk_drewN ?_ _|refine blk_drew ?_|refine blk_alloc ?_ _));refine blk_far ?_ NB398_418.out _;(with_reducible repeat (first|refine blk_drewN ?_ _|refine blk_drew ?_|refine blk_alloc ?_ _));exact BK398.out⟩
         have n2_ : Aside0 ((((w70.setCell ⟨gb418,0,none⟩ (.int .i64 t414)).setCell ⟨gb418,1,none⟩ (.int .i64 t415)).setCell ⟨gb418,2,none⟩ (.string t416)).heap[gb403]? = some (.cells #[.int .i64 t399,.int .i64 t400,.string t401] 24 (0,0))):=⟨by (with_reducible repeat (first|refine blk_drewN ?_ _|refine blk_drew ?_|refine blk_alloc ?_ _));refine blk_far ?_ NB403_418.out _;(with_reducible repeat (first|refine blk_drewN ?_ _|refine blk_drew ?_|refine blk_alloc ?_ _));refine blk_far ?_ NB403_418.out _;(with_reducible repeat (first|refine blk_drewN ?_ _|refine blk_drew ?_|refine blk_alloc ?_ _));refine blk_far ?_ NB403_418.out _;(with_reducible repeat (first|refine blk_drewN ?_ _|refine blk_drew ?_|refine blk_alloc ?_ _));exact BK403.out⟩
         have n3_ : Aside0 ((((w70.setCell ⟨gb418,0,none⟩ (.int .i64 t414)).setCell ⟨gb418,1,none⟩ (.int .i64 t415)).setCell ⟨gb418,2,none⟩ (.string t416)).heap[gb408]? = some (.cells #[.int .i64 t404,.int .i64 t405,.string t406] 24 (0,0))):=⟨by (with_reducible repeat (first|refine blk_drewN ?_ _|refine blk_drew ?_|refine blk_alloc ?_ _));refine blk_far ?_ NB408_418.out _;(with_reducible repeat (first|refine blk_drewN ?_ _|refine blk_drew ?_|refine blk_alloc ?_ _));refine blk_far ?_ NB408_418.out _;(with_reducible repeat (first|refine blk_drewN ?_ _|refine blk_drew ?_|refine blk_alloc ?_ _));refine blk_far ?_ NB408_418.out _;(with_reducible repeat (first|refine blk_drewN ?_ _|refine blk_drew ?_|refine blk_alloc ?_ _));exact BK408.out⟩
         have n4_ : Aside0 ((((w70.setCell ⟨gb418,0,none⟩ (.int .i64 t414)).setCell ⟨gb418,1,none⟩ (.int .i64 t415)).setCell ⟨gb418,2,none⟩ (.string t416)).heap[gb411]? = some (.cells #[.int .i64 1,.int .i64 t410,.string (⟨#[]⟩ : ByteArray)] 24 (0,0))):=⟨by (with_reducible repeat (first|refine blk_drewN ?_ _|refine blk_drew ?_|refine blk_alloc ?_ _));refine blk_far ?_ NB411_418.out _;(with_reducible repeat (first|refine blk_drewN ?_ _|refine blk_drew ?_|refine blk_alloc ?_ _));refine blk_far ?_ NB411_418.out _;(with_reducible repeat (first|refine blk_drewN ?_ _|refine blk_drew ?_|refine blk_alloc ?_ _));refine blk_far ?_ NB411_418.out _;(with_reducible repeat (first|refine blk_drewN ?_ _|refine blk_drew ?_|refine blk_alloc ?_ _));exact BK411.out⟩
         have n5_ : Aside0 ((((w70.setCell ⟨gb418,0,none⟩ (.int .i64 t414)).setCell ⟨gb418,1,none⟩ (.int .i64 t415)).setCell ⟨gb418,2,none⟩ (.string t416)).heap[gb413]? = some (.cells #[.int .i64 1,.int .i64 t412,.string (⟨#[]⟩ : ByteArray)] 24 (0,0))):=⟨by (with_reducible repeat (first|refine blk_drewN ?_ _|refine blk_drew ?_|refine blk_alloc ?_ _));refine blk_far ?_ NB413_418.out _;(with_reducible repeat (first|refine blk_drewN ?_ _|refine blk_drew ?_|refine blk_alloc ?_ _));refine blk_far ?_ NB413_418.out _;(with_reducible repeat (first|refine blk_drewN ?_ _|refine blk_drew ?_|refine blk_alloc ?_ _));refine blk_far ?_ NB413_418.out _;(with_reducible repeat (first|refine blk_drewN ?_ _|refine blk_drew ?_|refine blk_alloc ?_ _));exact BK413.out⟩
         have n6_ : Aside0 ((((w70.setCell ⟨gb418,0,none⟩ (.int .i64 t414)).setCell ⟨gb418,1,none⟩ (.int .i64 t415)).setCell ⟨gb418,2,none⟩ (.string t416)).heap[gb418]? = some (.cells #[.int .i64 t414,.int .i64 t415,.string t416] 24 (0,0))):=⟨by (with_reducible repeat (first|refine blk_drewN ?_ _|refine blk_drew ?_|refine blk_alloc ?_ _));refine blk_put (cs:=#[.int .i64 t414,.int .i64 t415,.string (⟨#[]⟩ : ByteArray)]) ?_ 2 _ rfl;(with_reducible repeat (first|refine blk_drewN ?_ _|refine blk_drew ?_|refine blk_alloc ?_ _));refine blk_put (cs:=#[.int .i64 t414,.int .i64 0,.string (⟨#[]⟩ : ByteArray)]) ?_ 1 _ rfl;(with_reducible repeat (first|refine blk_drewN ?_ _|refine blk_drew ?_|refine blk_alloc ?_ _));refine blk_put (cs:=#[.int .i64 0,.int .i64 0,.string (⟨#[]⟩ : ByteArray)]) ?_ 0 _ rfl;(with_reducible repeat (first|refine blk_drewN ?_ _|refine blk_drew ?_|refine blk_alloc ?_ _));exact BK418.out⟩
         have n7_ : Aside0 (Below w.heap.size w (((w70.setCell ⟨gb418,0,none⟩ (.int .i64 t414)).setCell ⟨gb418,1,none⟩ (.int .i64 t415)).setCell ⟨gb418,2,none⟩ (.string t416))):=⟨by repeat (first|(with_reducible first|exact HB.out|apply below_alloc|apply pw_below_drewN|apply below_drew1|refine below_set ?_ GE397.out|refine below_set ?_ GE398.out|refine below_set ?_ GE403.out|refine below_set ?_ GE408.out|refine below_set ?_ GE411.out|refine below_set ?_ GE413.out|refine below_set ?_ GE418.out)|exact HB.out)⟩
         (try clear BK397)
         (try clear BK398)
         (try clear BK403)
         (try clear BK408)
         (try clear BK411)
         (try clear BK413)
         (try clear BK418)
         (try clear HB)
         generalize (((w70.setCell ⟨gb418,0,none⟩ (.int .i64 t414)).setCell ⟨gb418,1,none⟩ (.int .i64 t415)).setCell ⟨gb418,2,none⟩ (.string t416)) = w78 at n0_ n1_ n2_ n3_ n4_ n5_ n6_ n7_ ⊢
         have BK397:=n0_
         have BK398:=n1_
         have BK403:=n2_
         have BK408:=n3_
         have BK411:=n4_
         have BK413:=n5_
         have BK418:=n6_
         have HB:=n7_
         clear n0_ n1_ n2_ n3_ n4_ n5_ n6_ n7_
         have n0_:=Aside0.mk (blk_drew BK397.out)
         have n1_:=Aside0.mk (blk_drew BK398.out)
         have n2_:=Aside0.mk (blk_drew BK403.out)
         have n3_:=Aside0.mk (blk_drew BK408.out)
         have n4_:=Aside0.mk (blk_drew BK411.out)
         have n5_:=Aside0.mk (blk_drew BK413.out)
         have n6_:=Aside0.mk (blk_drew BK418.out)
         have n7_:=Aside0.mk (below_drew1 HB.out)
         clear BK397
         clear BK398
         clear BK403
         clear BK408
         clear BK411
         clear BK413
         clear BK418
         clear HB
         have BK397:=n0_
         have BK398:=n1_
         have BK403:=n2_
         have BK408:=n3_
         have BK411:=n4_
         have BK413:=n5_
         have BK418:=n6_
         have HB:=n7_
         clear n0_ n1_ n2_ n3_ n4_ n5_ n6_ n7_
         refine start_ (n:=28) (S:=fun w'=>w'.cell? ⟨gb418,0,none⟩ = some (.int .i64 t414) ∧ w'.cell? ⟨gb418,1,none⟩ = some (.int .i64 t415) ∧ w'.cell? ⟨gb418,2,none⟩ = some (.string t416) ∧ w'.cell? ⟨gb403,0,none⟩ = some (.int .i64 t399) ∧ w'.cell? ⟨gb403,1,none⟩ = some (.int .i64 t400) ∧ w'.cell? ⟨gb403,2,none⟩ = some (.string t401)) (ds:=[]) #[false,false,false,false,false,false,false,false,false,false,false,false,false,false,false,false,false,false,false,false,false,false,false,false,false,false,false,false] (by kernel_rfl) rfl rfl ⟨(blk_cell BK418.out 0).trans rfl,(blk_cell BK418.out 1).trans rfl,(blk_cell BK418.out 2).trans rfl,(blk_cell BK403.out 0).trans rfl,(blk_cell BK403.out 1).trans rfl,(blk_cell BK403.out 2).trans rfl⟩ (fun hHeld=>?_);refine with_tabW laws_FnAriths.tab9 laws_FnAriths.bits9 (fun HT_ HW_=>?_)
         generalize w78.drew = w79 at BK397 BK398 BK403 BK408 BK411 BK413 BK418 HB hHeld ⊢
         refine pure_ (i:=0) (N:=some 65) (v:=?_) (a':=?_) #[true,false,false,false,false,false,false,false,false,false,false,false,false,false,false,false,false,false,false,false,false,false,false,false,false,false,false,false] rfl rfl (any_of HT_.out (by kernel_rfl)) (fun _ _ _ h=>h) (Or.inl ⟨by rfl,?_⟩) ?_ ?_
         rotate_left
         ·intro w'
          go_simp
          first|with_reducible rfl|(rw [if_neg (by simp only [ByteArray.size_append,ByteArray.size_extract,eq_iff_iff,iff_true,iff_false] at *;omega)];try with_reducible rfl)
         rotate_left
         ·simp only [Act.put,List.setIfInBounds_toArray,List.set_cons_zero,List.set_cons_succ,i64_w,i32_w]
          rfl
         refine pure_ (i:=1) (N:=some 66) (v:=?_) (a':=?_) #[true,true,false,false,false,false,false,false,false,false,false,false,false,false,false,false,false,false,false,false,false,false,false,false,false,false,false,false] rfl rfl (any_of HT_.out (by kernel_rfl)) (fun _ _ _ h=>h) (Or.inl ⟨by rfl,?_⟩) ?_ ?_
         rotate_left
         ·intro w'
          go_simp
          first|with_reducible rfl|(rw [if_neg (by simp only [ByteArray.size_append,ByteArray.size_extract,eq_iff_iff,iff_true,iff_false] at *;omega)];try with_reducible rfl)
         rotate_left
         ·simp only [Act.put,List.setIfInBounds_toArray,List.set_cons_zero,List.set_cons_succ,i64_w,i32_w]
          rfl
         refine pure_ (i:=2) (N:=some 67) (v:=?_) (a':=?_) #[true,true,true,false,false,false,false,false,false,false,false,false,false,false,false,false,false,false,false,false,false,false,false,false,false,false,false,false] rfl rfl (any_of HT_.out (by kernel_rfl)) (fun _ _ _ h=>h) (Or.inl ⟨by rfl,?_⟩) ?_ ?_
         rotate_left
         ·intro w'
          go_simp
          first|with_reducible rfl|(rw [if_neg (by simp only [ByteArray.size_append,ByteArray.size_extract,eq_iff_iff,iff_true,iff_false] at *;omega)];try with_reducible rfl)
         rotate_left
         ·simp only [Act.put,List.setIfInBounds_toArray,List.set_cons_zero,List.set_cons_succ,i64_w,i32_w]
          rfl
         refine take_ (i:=3) (N:=some 68) (v:=?_) (a':=?_) #[true,true,true,true,false,false,false,false,false,false,false,false,false,false,false,false,false,false,false,false,false,false,false,false,false,false,false,false] rfl rfl (take_ofW HT_.out HW_.out (by kernel_rfl)) (fun _ _ _ h=>h) (Or.inl ⟨by rfl,?_⟩) hHeld ?_ ?_
         rotate_left
         ·rintro w' ⟨s0,s1,s2,s3,s4,s5⟩
          go_simp
          first|with_reducible rfl|(rw [if_neg (by simp only [ByteArray.size_append,ByteArray.size_extract,eq_iff_iff,iff_true,iff_false] at *;omega)];try with_reducible rfl)
         rotate_left
         ·simp only [Act.put,List.setIfInBounds_toArray,List.set_cons_zero,List.set_cons_succ,i64_w,i32_w]
          rfl
         refine take_ (i:=4) (N:=some 69) (v:=?_) (a':=?_) #[true,true,true,true,true,false,false,false,false,false,false,false,false,false,false,false,false,false,false,false,false,false,false,false,false,false,false,false] rfl rfl (take_ofW HT_.out HW_.out (by kernel_rfl)) (fun _ _ _ h=>h) (Or.inl ⟨by rfl,?_⟩) hHeld ?_ ?_
         rotate_left
         ·rintro w' ⟨s0,s1,s2,s3,s4,s5⟩
          go_simp
          first|with_reducible rfl|(rw [if_neg (by simp only [ByteArray.size_append,ByteArray.size_extract,eq_iff_iff,iff_true,iff_false] at *;omega)];try with_reducible rfl)
         rotate_left
         ·simp only [Act.put,List.setIfInBounds_toArray,List.set_cons_zero,List.set_cons_succ,i64_w,i32_w]
          rfl
         refine pure_ (i:=5) (N:=some 70) (v:=?_) (a':=?_) #[true,true,true,true,true,true,false,false,false,false,false,false,false,false,false,false,false,false,false,false,false,false,false,false,false,false,false,false] rfl rfl (any_of HT_.out (by kernel_rfl)) (fun _ _ _ h=>h) (Or.inl ⟨by rfl,?_⟩) ?_ ?_
         rotate_left
         ·intro w'
          go_simp
          first|with_reducible rfl|(rw [if_neg (by simp only [ByteArray.size_append,ByteArray.size_extract,eq_iff_iff,iff_true,iff_false] at *;omega)];try with_reducible rfl)
         rotate_left
         ·simp only [Act.put,List.setIfInBounds_toArray,List.set_cons_zero,List.set_cons_succ,i64_w,i32_w]
          rfl
         refine pure_ (i:=6) (N:=some 71) (v:=?_) (a':=?_) #[true,true,true,true,true,true,true,false,false,false,false,false,false,false,false,false,false,false,false,false,false,false,false,false,false,false,false,false] rfl rfl (any_of HT_.out (by kernel_rfl)) (fun _ _ _ h=>h) (Or.inl ⟨by rfl,?_⟩) ?_ ?_
         rotate_left
         ·intro w'
          go_simp
          first|with_reducible rfl|(rw [if_neg (by simp only [ByteArray.size_append,ByteArray.size_extract,eq_iff_iff,iff_true,iff_false] at *;omega)];try with_reducible rfl)
         rotate_left
         ·simp only [Act.put,List.setIfInBounds_toArray,List.set_cons_zero,List.set_cons_succ,i64_w,i32_w]
          rfl
         refine pure_ (i:=7) (N:=some 72) (v:=?_) (a':=?_) #[true,true,true,true,true,true,true,true,false,false,false,false,false,false,false,false,false,false,false,false,false,false,false,false,false,false,false,false] rfl rfl (any_of HT_.out (by kernel_rfl)) (fun _ _ _ h=>h) (Or.inl ⟨by rfl,?_⟩) ?_ ?_
         rotate_left
         ·intro w'
          go_simp
          first|with_reducible rfl|(rw [if_neg (by simp only [ByteArray.size_append,ByteArray.size_extract,eq_iff_iff,iff_true,iff_false] at *;omega)];try with_reducible rfl)
         rotate_left
         ·simp only [Act.put,List.setIfInBounds_toArray,List.set_cons_zero,List.set_cons_succ,i64_w,i32_w]
          rfl
         refine pure_ (i:=8) (N:=some 73) (v:=?_) (a':=?_) #[true,true,true,true,true,true,true,true,true,false,false,false,false,false,false,false,false,false,false,false,false,false,false,false,false,false,false,false] rfl rfl (any_of HT_.out (by kernel_rfl)) (fun _ _ _ h=>h) (Or.inl ⟨by rfl,?_⟩) ?_ ?_
         rotate_left
         ·intro w'
          go_simp
          first|with_reducible rfl|(rw [if_neg (by simp only [ByteArray.size_append,ByteArray.size_extract,eq_iff_iff,iff_true,iff_false] at *;omega)];try with_reducible rfl)
         rotate_left
         ·simp only [Act.put,List.setIfInBounds_toArray,List.set_cons_zero,List.set_cons_succ,i64_w,i32_w]
          rfl
         refine take_ (i:=9) (N:=some 74) (v:=?_) (a':=?_) #[true,true,true,true,true,true,true,true,true,true,false,false,false,false,false,false,false,false,false,false,false,false,false,false,false,false,false,false] rfl rfl (take_ofW HT_.out HW_.out (by kernel_rfl)) (fun _ _ _ h=>h) (Or.inl ⟨by rfl,?_⟩) hHeld ?_ ?_
         rotate_left
         ·rintro w' ⟨s0,s1,s2,s3,s4,s5⟩
          go_simp
          first|with_reducible rfl|(rw [if_neg (by simp only [ByteArray.size_append,ByteArray.size_extract,eq_iff_iff,iff_true,iff_false] at *;omega)];try with_reducible rfl)
         rotate_left
         ·simp only [Act.put,List.setIfInBounds_toArray,List.set_cons_zero,List.set_cons_succ,i64_w,i32_w]
          rfl
         refine pure_ (i:=10) (N:=some 75) (v:=?_) (a':=?_) #[true,true,true,true,true,true,true,true,true,true,true,false,false,false,false,false,false,false,false,false,false,false,false,false,false,false,false,false] rfl rfl (any_of HT_.out (by kernel_rfl)) (fun _ _ _ h=>h) (Or.inl ⟨by rfl,?_⟩) ?_ ?_
         rotate_left
         ·intro w'
          go_simp
          first|with_reducible rfl|(rw [if_neg (by simp only [ByteArray.size_append,ByteArray.size_extract,eq_iff_iff,iff_true,iff_false] at *;omega)];try with_reducible rfl)
         rotate_left
         ·simp only [Act.put,List.setIfInBounds_toArray,List.set_cons_zero,List.set_cons_succ,i64_w,i32_w]
          rfl
         refine pure_ (i:=11) (N:=some 76) (v:=?_) (a':=?_) #[true,true,true,true,true,true,true,true,true,true,true,true,false,false,false,false,false,false,false,false,false,false,false,false,false,false,false,false] rfl rfl (any_of HT_.out (by kernel_rfl)) (fun _ _ _ h=>h) (Or.inl ⟨by rfl,?_⟩) ?_ ?_
         rotate_left
         ·intro w'
          go_simp
          first|with_reducible rfl|(rw [if_neg (by simp only [ByteArray.size_append,ByteArray.size_extract,eq_iff_iff,iff_true,iff_false] at *;omega)];try with_reducible rfl)
         rotate_left
         ·simp only [Act.put,List.setIfInBounds_toArray,List.set_cons_zero,List.set_cons_succ,i64_w,i32_w]
          rfl
         refine pure_ (i:=12) (N:=some 77) (v:=?_) (a':=?_) #[true,true,true,true,true,true,true,true,true,true,true,true,true,false,false,false,false,false,false,false,false,false,false,false,false,false,false,false] rfl rfl (any_of HT_.out (by kernel_rfl)) (fun _ _ _ h=>h) (Or.inl ⟨by rfl,?_⟩) ?_ ?_
         rotate_left
         ·intro w'
          go_simp
          first|with_reducible rfl|(rw [if_neg (by simp only [ByteArray.size_append,ByteArray.size_extract,eq_iff_iff,iff_true,iff_false] at *;omega)];try with_reducible rfl)
         rotate_left
         ·simp only [Act.put,List.setIfInBounds_toArray,List.set_cons_zero,List.set_cons_succ,i64_w,i32_w]
          rfl
         refine take_ (i:=13) (N:=some 78) (v:=?_) (a':=?_) #[true,true,true,true,true,true,true,true,true,true,true,true,true,true,false,false,false,false,false,false,false,false,false,false,false,false,false,false] rfl rfl (take_ofW HT_.out HW_.out (by kernel_rfl)) (fun _ _ _ h=>h) (Or.inl ⟨by rfl,?_⟩) hHeld ?_ ?_
         rotate_left
         ·rintro w' ⟨s0,s1,s2,s3,s4,s5⟩
          go_simp
          first|with_reducible rfl|(rw [if_neg (by simp only [ByteArray.size_append,ByteArray.size_extract,eq_iff_iff,iff_true,iff_false] at *;omega)];try with_reducible rfl)
         rotate_left
         ·simp only [Act.put,List.setIfInBounds_toArray,List.set_cons_zero,List.set_cons_succ,i64_w,i32_w]
          rfl
         refine one_ (i:=14) (N:=some 79) #[true,true,true,true,true,true,true,true,true,true,true,true,true,true,true,false,false,false,false,false,false,false,false,false,false,false,false,false] rfl rfl (one_of HT_.out (by kernel_rfl)) (by decide) (fun K hK=>?_)
         refine goes_ Tryz.func11 (by kernel_rfl) rfl #[.agg #[.int .i64 t399,.int .i64 t400,.string t401]] (by rfl) rfl rfl (by (try simp only [List.map_toArray,List.map_cons,List.map_nil]);first|done|rfl|(simp only [List.length_drop,List.length_take];rfl)) ?_
         with_reducible refine (impl_CellOk.calls t399 t400 t401 true _ A41.out).mono ?_
         rintro e w80 ⟨rfl,hb⟩
         refine ⟨_,rfl,?_⟩
         have n0_:=Aside0.mk (blk_below (g:=gb397) (o:=.cells #[.int .i64 t391,.int .i64 t392,.string t393] 24 (0,0)) (by (with_reducible repeat (first|refine blk_drewN ?_ _|refine blk_drew ?_|refine blk_alloc ?_ _));exact BK397.out) hb)
         have n1_:=Aside0.mk (blk_below (g:=gb398) (o:=.cells #[.int .i64 t394,.int .i64 t395,.string t396] 24 (0,0)) (by (with_reducible repeat (first|refine blk_drewN ?_ _|refine blk_drew ?_|refine blk_alloc ?_ _));exact BK398.out) hb)
         have n2_:=Aside0.mk (blk_below (g:=gb403) (o:=.cells #[.int .i64 t399,.int .i64 t400,.string t401] 24 (0,0)) (by (with_reducible repeat (first|refine blk_drewN ?_ _|refine blk_drew ?_|refine blk_alloc ?_ _));exact BK403.out) hb)
         have n3_:=Aside0.mk (blk_below (g:=gb408) (o:=.cells #[.int .i64 t404,.int .i64 t405,.string t406] 24 (0,0)) (by (with_reducible repeat (first|refine blk_drewN ?_ _|refine blk_drew ?_|refine blk_alloc ?_ _));exact BK408.out) hb)
         have n4_:=Aside0.mk (blk_below (g:=gb411) (o:=.cells #[.int .i64 1,.int .i64 t410,.string (⟨#[]⟩ : ByteArray)] 24 (0,0)) (by (with_reducible repeat (first|refine blk_drewN ?_ _|refine blk_drew ?_|refine blk_alloc ?_ _));exact BK411.out) hb)
         have n5_:=Aside0.mk (blk_below (g:=gb413) (o:=.cells #[.int .i64 1,.int .i64 t412,.string (⟨#[]⟩ : ByteArray)] 24 (0,0)) (by (with_reducible repeat (first|refine blk_drewN ?_ _|refine blk_drew ?_|refine blk_alloc ?_ _));exact BK413.out) hb)
         have n6_:=Aside0.mk (blk_below (g:=gb418) (o:=.cells #[.int .i64 t414,.int .i64 t415,.string t416] 24 (0,0)) (by (with_reducible repeat (first|refine blk_drewN ?_ _|refine blk_drew ?_|refine blk_alloc ?_ _));exact BK418.out) hb)
         have n7_:=Aside0.mk (below_step (by repeat (first|(with_reducible first|exact HB.out|apply below_alloc|apply pw_below_drewN|apply below_drew1|refine below_set ?_ GE397.out|refine below_set ?_ GE398.out|refine below_set ?_ GE403.out|refine below_set ?_ GE408.out|refine below_set ?_ GE411.out|refine below_set ?_ GE413.out|refine below_set ?_ GE418.out)|exact HB.out)) hb)
         clear BK397
         clear BK398
         clear BK403
         clear BK408
         clear BK411
         clear BK413
         clear BK418
         clear HB
         have BK397:=n0_
         have BK398:=n1_
         have BK403:=n2_
         have BK408:=n3_
         have BK411:=n4_
         have BK413:=n5_
         have BK418:=n6_
         have HB:=n7_
         clear n0_ n1_ n2_ n3_ n4_ n5_ n6_ n7_
         (try clear hb)
         (try clear hb2)
         (try clear hk)
         (try clear hi)
         refine hK.out _ _ ⟨(blk_cell BK418.out 0).trans rfl,(blk_cell BK418.out 1).trans rfl,(blk_cell BK418.out 2).trans rfl,(blk_cell BK403.out 0).trans rfl,(blk_cell BK403.out 1).trans rfl,(blk_cell BK403.out 2).trans rfl⟩ (fun hHeld=>?_)
         clear hK K
         refine norm_ (a':=?_) ?_ ?_
         rotate_left
         ·show Act.put _ (some 79) _ = _
          simp only [Act.put,List.setIfInBounds_toArray,List.set_cons_zero,List.set_cons_succ,i64_w,i32_w]
          rfl
         refine pure_ (i:=15) (N:=some 80) (v:=?_) (a':=?_) #[true,true,true,true,true,true,true,true,true,true,true,true,true,true,true,true,false,false,false,false,false,false,false,false,false,false,false,false] rfl rfl (any_of HT_.out (by kernel_rfl)) (fun _ _ _ h=>h) (Or.inl ⟨by rfl,?_⟩) ?_ ?_
         rotate_left
         ·intro w'
          go_simp
          first|with_reducible rfl|(rw [if_neg (by simp only [ByteArray.size_append,ByteArray.size_extract,eq_iff_iff,iff_true,iff_false] at *;omega)];try with_reducible rfl)
         rotate_left
         ·simp only [Act.put,List.setIfInBounds_toArray,List.set_cons_zero,List.set_cons_succ,i64_w,i32_w]
          rfl
         refine pure_ (i:=16) (N:=some 81) (v:=?_) (a':=?_) #[true,true,true,true,true,true,true,true,true,true,true,true,true,true,true,true,true,false,false,false,false,false,false,false,false,false,false,false] rfl rfl (any_of HT_.out (by kernel_rfl)) (fun _ _ _ h=>h) (Or.inl ⟨by rfl,?_⟩) ?_ ?_
         rotate_left
         ·intro w'
          go_simp
          first|with_reducible rfl|(rw [if_neg (by simp only [ByteArray.size_append,ByteArray.size_extract,eq_iff_iff,iff_true,iff_false] at *;omega)];try with_reducible rfl)
         rotate_left
         ·simp only [Act.put,List.setIfInBounds_toArray,List.set_cons_zero,List.set_cons_succ,i64_w,i32_w]
          rfl
         refine pure_ (i:=19) (N:=some 84) (v:=?_) (a':=?_) #[true,true,true,true,true,true,true,true,true,true,true,true,true,true,true,true,true,false,false,true,false,false,false,false,false,false,false,false] rfl rfl (any_of HT_.out (by kernel_rfl)) (fun _ _ _ h=>h) (Or.inl ⟨by rfl,?_⟩) ?_ ?_
         rotate_left
         ·intro w'
          go_simp
          first|with_reducible rfl|(rw [if_neg (by simp only [ByteArray.size_append,ByteArray.size_extract,eq_iff_iff,iff_true,iff_false] at *;omega)];try with_reducible rfl)
         rotate_left
         ·simp only [Act.put,List.setIfInBounds_toArray,List.set_cons_zero,List.set_cons_succ,i64_w,i32_w]
          rfl
         refine take_ (i:=17) (N:=some 82) (v:=?_) (a':=?_) #[true,true,true,true,true,true,true,true,true,true,true,true,true,true,true,true,true,true,false,true,false,false,false,false,false,false,false,false] rfl rfl (take_ofW HT_.out HW_.out (by kernel_rfl)) (fun _ _ _ h=>h) (Or.inl ⟨by rfl,?_⟩) hHeld ?_ ?_
         rotate_left
         ·rintro w' ⟨s0,s1,s2,s3,s4,s5⟩
          go_simp
          first|with_reducible rfl|(rw [if_neg (by simp only [ByteArray.size_append,ByteArray.size_extract,eq_iff_iff,iff_true,iff_false] at *;omega)];try with_reducible rfl)
         rotate_left
         ·simp only [Act.put,List.setIfInBounds_toArray,List.set_cons_zero,List.set_cons_succ,i64_w,i32_w]
          rfl
         refine take_ (i:=20) (N:=some 85) (v:=?_) (a':=?_) #[true,true,true,true,true,true,true,true,true,true,true,true,true,true,true,true,true,true,false,true,true,false,false,false,false,false,false,false] rfl rfl (take_ofW HT_.out HW_.out (by kernel_rfl)) (fun _ _ _ h=>h) (Or.inl ⟨by rfl,?_⟩) hHeld ?_ ?_
         rotate_left
         ·rintro w' ⟨s0,s1,s2,s3,s4,s5⟩
          go_simp
          first|with_reducible rfl|(rw [if_neg (by simp only [ByteArray.size_append,ByteArray.size_extract,eq_iff_iff,iff_true,iff_false] at *;omega)];try with_reducible rfl)
         rotate_left
         ·simp only [Act.put,List.setIfInBounds_toArray,List.set_cons_zero,List.set_cons_succ,i64_w,i32_w]
          rfl
         refine pure_ (i:=21) (N:=some 86) (v:=?_) (a':=?_) #[true,true,true,true,true,true,true,true,true,true,true,true,true,true,true,true,true,true,false,true,true,true,false,false,false,false,false,false] rfl rfl (any_of HT_.out (by kernel_rfl)) (fun _ _ _ h=>h) (Or.inl ⟨by rfl,?_⟩) ?_ ?_
         rotate_left
         ·intro w'
          go_simp
          first|with_reducible rfl|(rw [if_neg (by simp only [ByteArray.size_append,ByteArray.size_extract,eq_iff_iff,iff_true,iff_false] at *;omega)];try with_reducible rfl)
         rotate_left
         ·simp only [Act.put,List.setIfInBounds_toArray,List.set_cons_zero,List.set_cons_succ,i64_w,i32_w]
          rfl
         refine one_ (i:=18) (N:=some 83) #[true,true,true,true,true,true,true,true,true,true,true,true,true,true,true,true,true,true,true,true,true,true,false,false,false,false,false,false] rfl rfl (one_of HT_.out (by kernel_rfl)) (by decide) (fun K hK=>?_)
         refine goes_ Tryz.func12 (by kernel_rfl) rfl #[.agg #[.int .i64 t399,.int .i64 t400,.string t401]] (by rfl) rfl rfl (by (try simp only [List.map_toArray,List.map_cons,List.map_nil]);first|done|rfl|(simp only [List.length_drop,List.length_take];rfl)) ?_
         with_reducible refine (impl_Truth.calls t399 t400 t401 t420 _ A43.out).mono ?_
         rintro e w81 ⟨rfl,hb⟩
         refine ⟨_,rfl,?_⟩
         have n0_:=Aside0.mk (blk_below (g:=gb397) (o:=.cells #[.int .i64 t391,.int .i64 t392,.string t393] 24 (0,0)) (by (with_reducible repeat (first|refine blk_drewN ?_ _|refine blk_drew ?_|refine blk_alloc ?_ _));exact BK397.out) hb)
         have n1_:=Aside0.mk (blk_below (g:=gb398) (o:=.cells #[.int .i64 t394,.int .i64 t395,.string t396] 24 (0,0)) (by (with_reducible repeat (first|refine blk_drewN ?_ _|refine blk_drew ?_|refine blk_alloc ?_ _));exact BK398.out) hb)
         have n2_:=Aside0.mk (blk_below (g:=gb403) (o:=.cells #[.int .i64 t399,.int .i64 t400,.string t401] 24 (0,0)) (by (with_reducible repeat (first|refine blk_drewN ?_ _|refine blk_drew ?_|refine blk_alloc ?_ _));exact BK403.out) hb)
         have n3_:=Aside0.mk (blk_below (g:=gb408) (o:=.cells #[.int .i64 t404,.int .i64 t405,.string t406] 24 (0,0)) (by (with_reducible repeat (first|refine blk_drewN ?_ _|refine blk_drew ?_|refine blk_alloc ?_ _));exact BK408.out) hb)
         have n4_:=Aside0.mk (blk_below (g:=gb411) (o:=.cells #[.int .i64 1,.int .i64 t410,.string (⟨#[]⟩ : ByteArray)] 24 (0,0)) (by (with_reducible repeat (first|refine blk_drewN ?_ _|refine blk_drew ?_|refine blk_alloc ?_ _));exact BK411.out) hb)
         have n5_:=Aside0.mk (blk_below (g:=gb413) (o:=.cells #[.int .i64 1,.int .i64 t412,.string (⟨#[]⟩ : ByteArray)] 24 (0,0)) (by (with_reducible repeat (first|refine blk_drewN ?_ _|refine blk_drew ?_|refine blk_alloc ?_ _));exact BK413.out) hb)
         have n6_:=Aside0.mk (blk_below (g:=gb418) (o:=.cells #[.int .i64 t414,.int .i64 t415,.string t416] 24 (0,0)) (by (with_reducible repeat (first|refine blk_drewN ?_ _|refine blk_drew ?_|refine blk_alloc ?_ _));exact BK418.out) hb)
         have n7_:=Aside0.mk (below_step (by repeat (first|(with_reducible first|exact HB.out|apply below_alloc|apply pw_below_drewN|apply below_drew1|refine below_set ?_ GE397.out|refine below_set ?_ GE398.out|refine below_set ?_ GE403.out|refine below_set ?_ GE408.out|refine below_set ?_ GE411.out|refine below_set ?_ GE413.out|refine below_set ?_ GE418.out)|exact HB.out)) hb)
         clear BK397
         clear BK398
         clear BK403
         clear BK408
         clear BK411
         clear BK413
         clear BK418
         clear HB
         have BK397:=n0_
         have BK398:=n1_
         have BK403:=n2_
         have BK408:=n3_
         have BK411:=n4_
         have BK413:=n5_
         have BK418:=n6_
         have HB:=n7_
         clear n0_ n1_ n2_ n3_ n4_ n5_ n6_ n7_
         (try clear hb)
         (try clear hb2)
         (try clear hk)
         (try clear hi)
         refine hK.out _ _ ⟨(blk_cell BK418.out 0).trans rfl,(blk_cell BK418.out 1).trans rfl,(blk_cell BK418.out 2).trans rfl,(blk_cell BK403.out 0).trans rfl,(blk_cell BK403.out 1).trans rfl,(blk_cell BK403.out 2).trans rfl⟩ (fun hHeld=>?_)
         clear hK K
         refine norm_ (a':=?_) ?_ ?_
         rotate_left
         ·show Act.put _ (some 83) _ = _
          simp only [Act.put,List.setIfInBounds_toArray,List.set_cons_zero,List.set_cons_succ,i64_w,i32_w]
          rfl
         refine pure_ (i:=22) (N:=some 87) (v:=?_) (a':=?_) #[true,true,true,true,true,true,true,true,true,true,true,true,true,true,true,true,true,true,true,true,true,true,true,false,false,false,false,false] rfl rfl (any_of HT_.out (by kernel_rfl)) (fun _ _ _ h=>h) (Or.inl ⟨by rfl,?_⟩) ?_ ?_
         rotate_left
         ·intro w'
          go_simp
          first|with_reducible rfl|(rw [if_neg (by simp only [ByteArray.size_append,ByteArray.size_extract,eq_iff_iff,iff_true,iff_false] at *;omega)];try with_reducible rfl)
         rotate_left
         ·simp only [Act.put,List.setIfInBounds_toArray,List.set_cons_zero,List.set_cons_succ,i64_w,i32_w]
          rfl
         refine pure_ (i:=23) (N:=some 88) (v:=?_) (a':=?_) #[true,true,true,true,true,true,true,true,true,true,true,true,true,true,true,true,true,true,true,true,true,true,true,true,false,false,false,false] rfl rfl (any_of HT_.out (by kernel_rfl)) (fun _ _ _ h=>h) (Or.inl ⟨by rfl,?_⟩) ?_ ?_
         rotate_left
         ·intro w'
          go_simp
          first|with_reducible rfl|(rw [if_neg (by simp only [ByteArray.size_append,ByteArray.size_extract,eq_iff_iff,iff_true,iff_false] at *;omega)];try with_reducible rfl)
         rotate_left
         ·simp only [Act.put,List.setIfInBounds_toArray,List.set_cons_zero,List.set_cons_succ,i64_w,i32_w]
          rfl
         refine pure_ (i:=24) (N:=some 89) (v:=?_) (a':=?_) #[true,true,true,true,true,true,true,true,true,true,true,true,true,true,true,true,true,true,true,true,true,true,true,true,true,false,false,false] rfl rfl (any_of HT_.out (by kernel_rfl)) (fun _ _ _ h=>h) (Or.inl ⟨by rfl,?_⟩) ?_ ?_
         rotate_left
         ·intro w'
          go_simp
          first|with_reducible rfl|(rw [if_neg (by simp only [ByteArray.size_append,ByteArray.size_extract,eq_iff_iff,iff_true,iff_false] at *;omega)];try with_reducible rfl)
         rotate_left
         ·simp only [Act.put,List.setIfInBounds_toArray,List.set_cons_zero,List.set_cons_succ,i64_w,i32_w]
          rfl
         refine one_ (i:=25) (N:=some 90) #[true,true,true,true,true,true,true,true,true,true,true,true,true,true,true,true,true,true,true,true,true,true,true,true,true,true,false,false] rfl rfl (one_of HT_.out (by kernel_rfl)) (by decide) (fun K hK=>?_)
         refine goes_ Tryz.func9 (by kernel_rfl) rfl #[] (by rfl) rfl rfl (by (try simp only [List.map_toArray,List.map_cons,List.map_nil]);first|done|rfl|(simp only [List.length_drop,List.length_take];rfl)) ?_
         with_reducible refine (laws_cells.calls kj4  t421 _ A45.out).mono ?_
         rintro e w82 ⟨rfl,hb⟩
         refine ⟨_,rfl,?_⟩
         have n0_:=Aside0.mk (blk_below (g:=gb397) (o:=.cells #[.int .i64 t391,.int .i64 t392,.string t393] 24 (0,0)) (by (with_reducible repeat (first|refine blk_drewN ?_ _|refine blk_drew ?_|refine blk_alloc ?_ _));exact BK397.out) hb)
         have n1_:=Aside0.mk (blk_below (g:=gb398) (o:=.cells #[.int .i64 t394,.int .i64 t395,.string t396] 24 (0,0)) (by (with_reducible repeat (first|refine blk_drewN ?_ _|refine blk_drew ?_|refine blk_alloc ?_ _));exact BK398.out) hb)
         have n2_:=Aside0.mk (blk_below (g:=gb403) (o:=.cells #[.int .i64 t399,.int .i64 t400,.string t401] 24 (0,0)) (by (with_reducible repeat (first|refine blk_drewN ?_ _|refine blk_drew ?_|refine blk_alloc ?_ _));exact BK403.out) hb)
         have n3_:=Aside0.mk (blk_below (g:=gb408) (o:=.cells #[.int .i64 t404,.int .i64 t405,.string t406] 24 (0,0)) (by (with_reducible repeat (first|refine blk_drewN ?_ _|refine blk_drew ?_|refine blk_alloc ?_ _));exact BK408.out) hb)
         have n4_:=Aside0.mk (blk_below (g:=gb411) (o:=.cells #[.int .i64 1,.int .i64 t410,.string (⟨#[]⟩ : ByteArray)] 24 (0,0)) (by (with_reducible repeat (first|refine blk_drewN ?_ _|refine blk_drew ?_|refine blk_alloc ?_ _));exact BK411.out) hb)
         have n5_:=Aside0.mk (blk_below (g:=gb413) (o:=.cells #[.int .i64 1,.int .i64 t412,.string (⟨#[]⟩ : ByteArray)] 24 (0,0)) (by (with_reducible repeat (first|refine blk_drewN ?_ _|refine blk_drew ?_|refine blk_alloc ?_ _));exact BK413.out) hb)
         have n6_:=Aside0.mk (blk_below (g:=gb418) (o:=.cells #[.int .i64 t414,.int .i64 t415,.string t416] 24 (0,0)) (by (with_reducible repeat (first|refine blk_drewN ?_ _|refine blk_drew ?_|refine blk_alloc ?_ _));exact BK418.out) hb)
         have n7_:=Aside0.mk (below_step (by repeat (first|(with_reducible first|exact HB.out|apply below_alloc|apply pw_below_drewN|apply below_drew1|refine below_set ?_ GE397.out|refine below_set ?_ GE398.out|refine below_set ?_ GE403.out|refine below_set ?_ GE408.out|refine below_set ?_ GE411.out|refine below_set ?_ GE413.out|refine below_set ?_ GE418.out)|exact HB.out)) hb)
         clear BK397
         clear BK398
         clear BK403
         clear BK408
         clear BK411
         clear BK413
         clear BK418
         clear HB
         have BK397:=n0_
         have BK398:=n1_
         have BK403:=n2_
         have BK408:=n3_
         have BK411:=n4_
         have BK413:=n5_
         have BK418:=n6_
         have HB:=n7_
         clear n0_ n1_ n2_ n3_ n4_ n5_ n6_ n7_
         (try clear hb)
         (try clear hb2)
         (try clear hk)
         (try clear hi)
         refine hK.out _ _ ⟨(blk_cell BK418.out 0).trans rfl,(blk_cell BK418.out 1).trans rfl,(blk_cell BK418.out 2).trans rfl,(blk_cell BK403.out 0).trans rfl,(blk_cell BK403.out 1).trans rfl,(blk_cell BK403.out 2).trans rfl⟩ (fun hHeld=>?_)
         clear hK K
         refine norm_ (a':=?_) ?_ ?_
         rotate_left
         ·show Act.put _ (some 90) _ = _
          simp only [Act.put,List.setIfInBounds_toArray,List.set_cons_zero,List.set_cons_succ,i64_w,i32_w]
          rfl
         refine pure_ (i:=26) (N:=some 91) (v:=?_) (a':=?_) #[true,true,true,true,true,true,true,true,true,true,true,true,true,true,true,true,true,true,true,true,true,true,true,true,true,true,true,false] rfl rfl (any_of HT_.out (by kernel_rfl)) (fun _ _ _ h=>h) (Or.inl ⟨by rfl,?_⟩) ?_ ?_
         rotate_left
         ·intro w'
          go_simp
          first|with_reducible rfl|(rw [if_neg (by simp only [ByteArray.size_append,ByteArray.size_extract,eq_iff_iff,iff_true,iff_false] at *;omega)];try with_reducible rfl)
         rotate_left
         ·simp only [Act.put,List.setIfInBounds_toArray,List.set_cons_zero,List.set_cons_succ,i64_w,i32_w]
          rfl
         refine pure_ (i:=27) (N:=some 2) (v:=?_) (a':=?_) #[true,true,true,true,true,true,true,true,true,true,true,true,true,true,true,true,true,true,true,true,true,true,true,true,true,true,true,true] rfl rfl (any_of HT_.out (by kernel_rfl)) (fun _ _ _ h=>h) (Or.inl ⟨by rfl,?_⟩) ?_ ?_
         rotate_left
         ·intro w'
          go_simp
          first|with_reducible rfl|(rw [if_neg (by simp only [ByteArray.size_append,ByteArray.size_extract,eq_iff_iff,iff_true,iff_false] at *;omega)];try with_reducible rfl)
         rotate_left
         ·simp only [Act.put,List.setIfInBounds_toArray,List.set_cons_zero,List.set_cons_succ,i64_w,i32_w]
          rfl
         refine done_ (done_of HT_.out (by kernel_rfl)) ?_
         try go_wp2
         go_ret
         exact ⟨by first|rfl|(rw [HOR_.out];done)|(rw [HOR_.out];rfl)|(simp [HOR_.out];done)|(have h_:=HOR_.out;simp at h_;subst h_;first|rfl|(simp;done))|(have h_:=HOR_.out;simp at h_ ⊢;exact h_)|(simp [errW_none,errW_some] <;> rfl)|(simp [*,errW_none,errW_some] <;> rfl),by repeat (first|(with_reducible first|exact HB.out|apply below_alloc|apply pw_below_drewN|apply below_drew1|refine below_set ?_ GE397.out|refine below_set ?_ GE398.out|refine below_set ?_ GE403.out|refine below_set ?_ GE408.out|refine below_set ?_ GE411.out|refine below_set ?_ GE413.out|refine below_set ?_ GE418.out)|exact HB.out)⟩
        ·rw [if_neg c44] at H
         have c44b0 : (t420 == (t400 != 0)) = false:=by simpa using c44
         (try (have c44b1 : decide (t420 = (t400 != 0)) = false:=by simpa using c44))
         (try (have c44b2 : (t420 == (t400 != 0)) = false:=by simpa using c44))
         (try (have c44b3 : ¬ (t420 = (t400 != 0)):=by simpa using c44))
         clear c44
         exact absurd H (by simp)
       ·replace c42:=Bool.eq_false_iff.mpr c42
        subst c42
        have H1 : (some false) = some true:=by rw [if_neg (show ¬ (false = true) by decide)] at H;exact H
        clear H
        have H:=H1
        clear H1
        exact absurd H (by simp)
      ·rw [if_neg c40] at H
       have c40b0 : (t399 == 1) = false:=beq_eq_false_iff_ne.mpr c40
       have c40b1 : (t399 != 1) = true:=bne_iff_ne.mpr c40
       exact absurd H (by simp)
     ·rw [if_neg c39] at H
      have c39b0 : (t414 == t399 && (t415 == t400 && (t416.toList == t401.toList))) = false:=by simpa using c39
      (try (have c39b1 : decide (t414 = t399 && (t415 == t400 && (t416.toList == t401.toList))) = false:=by simpa using c39))
      (try (have c39b2 : (t414 == t399 && (t415 == t400 && (t416.toList == t401.toList))) = false:=by simpa using c39))
      (try (have c39b3 : ¬ (t414 = t399 && (t415 == t400 && (t416.toList == t401.toList))):=by simpa using c39))
      clear c39
      exact absurd H (by simp)
    ·rw [if_neg c38] at H
     have c38b0 : (t417 == 0) = false:=beq_eq_false_iff_ne.mpr c38
     have c38b1 : (t417 != 0) = true:=bne_iff_ne.mpr c38
     exact absurd H (by simp)
def laws_FnAriths.Pure : Prop:=∀ (l0 : List Int),l0.length ≤ maxLen → l0.length * 1 ≤ 140737488351232 → (∀ x ∈ l0,(Lit.int .u8 x).wf = true) → ∃ k,laws_FnAriths.f k l0 = some true
end Go.Proofs.YtnfiljnncpieoaaGreatDoor.Q
namespace Go.Proofs.YtnfiljnncpieoaaGreatDoor.Pure
open Go Go.RowKit Go.Proofs.YtnfiljnncpieoaaGreatDoor.Q Go.Proofs.YtnfiljnncpieoaaGreatDoorW.PrintWords Go.Proofs.YtnfiljnncpieoaaGreatDoorW.PrintLast Go.Proofs.YtnfiljnncpieoaaGreatDoorW.PrintMore
theorem and255 (x : Int) : 0 ≤ Go.bits .and .i64 x 255 ∧ Go.bits .and .i64 x 255 ≤ 255 := by
  have h : ((BitVec.ofInt 64 x) &&& (BitVec.ofInt 64 255)).toNat ≤ 255 := by
    rw [BitVec.toNat_and]
    exact Nat.and_le_right
  have e : Go.bits .and .i64 x 255 = IntKind.i64.wrap (((BitVec.ofInt 64 x) &&& (BitVec.ofInt 64 255)).toNat : Int) := rfl
  rw [e, IntKind.wrap_i64]
  omega
theorem l1Byte_some (b : List Int) (i h : Int) (hi : 0 ≤ i) (hb : b.length ≤ 9223372036854775807) : ∃ r i' h', spec_l1Byte.f b i h = some (r, i', h') ∧ 0 ≤ i' ∧ 0 ≤ r ∧ r ≤ 255 := by
  unfold spec_l1Byte.f
  by_cases h1 : i < (b.length : Int)
  · rw [if_pos h1, if_pos hi]
    refine ⟨_, _, _, rfl, ?_, and255 _⟩
    unfold wrap64; omega
  · rw [if_neg h1]
    exact ⟨_, _, _, rfl, hi, and255 _⟩
theorem l1Below_some (b : List Int) (i h n : Int) (hi : 0 ≤ i) (hb : b.length ≤ 9223372036854775807) : ∃ r i' h', spec_l1Below.f b i h n = some (r, i', h') ∧ 0 ≤ i' ∧ (n ≤ 0 → r = 0) ∧ (0 < n → n ≤ 256 → 0 ≤ r ∧ r < n) := by
  unfold spec_l1Below.f
  by_cases h0 : n ≤ 0
  · rw [if_pos h0]
    exact ⟨_, _, _, rfl, hi, fun _ => rfl, fun h => by omega⟩
  rw [if_neg h0]
  by_cases h1 : n ≤ 256
  · rw [if_pos h1]
    obtain ⟨r, i', h', e, hi', hr⟩ := l1Byte_some b i h hi hb
    rw [e, Option.bind_some, if_neg (by omega)]
    refine ⟨_, _, _, rfl, hi', fun h => by omega, fun _ _ => ?_⟩
    show 0 ≤ Int.tmod r n ∧ Int.tmod r n < n
    exact ⟨Int.tmod_nonneg _ hr.1, Int.tmod_lt_of_pos _ (by omega)⟩
  · rw [if_neg h1]
    obtain ⟨r1, i1, h1', e1, hi1, _⟩ := l1Byte_some b i h hi hb
    obtain ⟨r2, i2, h2', e2, hi2, _⟩ := l1Byte_some b i1 h1' hi1 hb
    obtain ⟨r3, i3, h3', e3, hi3, _⟩ := l1Byte_some b i2 h2' hi2 hb
    obtain ⟨r4, i4, h4', e4, hi4, _⟩ := l1Byte_some b i3 h3' hi3 hb
    rw [e1, Option.bind_some]
    dsimp only
    rw [e2, Option.bind_some]
    dsimp only
    rw [e3, Option.bind_some]
    dsimp only
    rw [e4, Option.bind_some, if_neg (by omega)]
    exact ⟨_, _, _, rfl, hi4, fun h => by omega, fun h h' => by omega⟩
theorem l1PickInt_some (b : List Int) (i h : Int) (l : List Int) (hi : 0 ≤ i) (hb : b.length ≤ 9223372036854775807) (hl : 0 < l.length) (hl2 : l.length ≤ 256) : ∃ r i' h', spec_l1PickInt.f b i h l = some (r, i', h') ∧ 0 ≤ i' ∧ r ∈ l := by
  unfold spec_l1PickInt.f
  obtain ⟨r, i', h', e, hi', _, hr⟩ := l1Below_some b i h (l.length : Int) hi hb
  obtain ⟨h1, h2⟩ := hr (by omega) (by omega)
  rw [e, Option.bind_some]
  dsimp only
  rw [if_pos h1, if_pos h2]
  refine ⟨_, _, _, rfl, hi', ?_⟩
  unfold rd
  rw [List.getD_eq_getElem?_getD, List.getElem?_eq_getElem (by omega)]
  exact List.getElem_mem _
theorem l1num_some (b : List Int) (i h : Int) (hi : 0 ≤ i) (hb : b.length ≤ 9223372036854775807) : ∃ r i' h', spec_l1num.f b i h = some (r, i', h') ∧ 0 ≤ i' ∧ -9223372036854775808 ≤ r ∧ r ≤ 9223372036854775807 := by
  have hw : ∀ x : Int, -9223372036854775808 ≤ wrap64 x ∧ wrap64 x ≤ 9223372036854775807 := fun x => by unfold wrap64; omega
  unfold spec_l1num.f
  obtain ⟨r, i1, h1, e, hi1, _⟩ := l1Below_some b i h 4 hi hb
  rw [e, Option.bind_some]
  dsimp only
  by_cases c0 : r = 0
  · rw [if_pos c0]
    obtain ⟨r2, i2, h2, e2, hi2, hm⟩ := l1PickInt_some b i1 h1 [0, 1, (-1), 1000000, (-1000000), 9000000000000, (-9000000000000), 9000000000001, (-9000000000001), 500000, 4611686018427387904, 3000000] hi1 hb (by simp) (by simp)
    rw [e2, Option.bind_some]
    refine ⟨_, _, _, rfl, hi2, ?_⟩
    simp only [List.mem_cons, List.mem_nil_iff, or_false] at hm
    dsimp only
    omega
  rw [if_neg c0]
  by_cases c1 : r = 1
  · rw [if_pos c1]
    obtain ⟨r2, i2, h2, e2, hi2, _⟩ := l1Below_some b i1 h1 4294967296 hi1 hb
    rw [e2, Option.bind_some]
    exact ⟨_, _, _, rfl, hi2, hw _⟩
  · rw [if_neg c1]
    obtain ⟨r2, i2, h2, e2, hi2, _⟩ := l1Below_some b i1 h1 30 hi1 hb
    rw [e2, Option.bind_some]
    dsimp only
    obtain ⟨r3, i3, h3, e3, hi3, _⟩ := l1PickInt_some b i2 h2 [0, 0, 500000, 250000, 1] hi2 hb (by simp) (by simp)
    rw [e3, Option.bind_some]
    exact ⟨_, _, _, rfl, hi3, hw _⟩
theorem l1New_l0 (l : List Int) (hl : l.length ≤ 9223372036854775807) (d : Nat) : ∀ (i k : Nat) (h : Int), i ≤ l.length → l.length - i = d → d < k → ∃ h', spec_l1New.l0 k l h i = some (l, 0, h') := by
  induction d with
  | zero =>
    intro i k h hi hd hk
    obtain ⟨k, rfl⟩ : ∃ m, k = m + 1 := ⟨k - 1, by omega⟩
    simp only [spec_l1New.l0]; rw [if_neg (by omega)]
    exact ⟨_, rfl⟩
  | succ d ih =>
    intro i k h hi hd hk
    obtain ⟨k, rfl⟩ : ∃ m, k = m + 1 := ⟨k - 1, by omega⟩
    simp only [spec_l1New.l0]
    rw [if_pos (by omega)]
    by_cases c : (i : Int) < 4000
    · rw [if_pos c, if_pos (by omega)]
      have e : wrap64 ((i : Int) + 1) = ((i + 1 : Nat) : Int) := by unfold wrap64; omega
      rw [e]
      exact ih (i + 1) k _ (by omega) (by omega) (by omega)
    · rw [if_neg c]
      exact ⟨_, rfl⟩
theorem l1New_some (l : List Int) (hl : l.length ≤ 9223372036854775807) (k : Nat) (hk : l.length < k) : ∃ h, spec_l1New.f k l = some (l, 0, h) := by
  unfold spec_l1New.f
  exact l1New_l0 l hl l.length 0 k _ (by omega) (by omega) hk
def valFrom (n : Int) (l : List Int) : Int := l.foldl (fun n c => n * 10 + (c - 48) % 256) n
theorem valFrom_nonneg (l : List Int) : ∀ n : Int, 0 ≤ n → 0 ≤ valFrom n l := by
  induction l with
  | nil => intro n h; exact h
  | cons c l ih => intro n h; exact ih _ (show 0 ≤ n * 10 + (c - 48) % 256 by omega)
theorem numFold (l : List Int) : ∀ n : Int, 0 ≤ n → l.foldl numStep (mn n 9000000000001) = mn (valFrom n l) 9000000000001 := by
  induction l with
  | nil => intro n _; rfl
  | cons c l ih =>
    intro n h
    have e : numStep (mn n 9000000000001) c = mn (n * 10 + (c - 48) % 256) 9000000000001 := by
      unfold numStep mn; omega
    show l.foldl numStep (numStep (mn n 9000000000001) c) = _
    rw [e]
    exact ih _ (by omega)
def wholeStep (n : Int) (c : Int) : Int := if n * 10 + (c - 48) % 256 * 1000000 > 9000000000000 then 9000000000001 else n * 10 + (c - 48) % 256 * 1000000
theorem wholeFold (l : List Int) : ∀ n : Int, 0 ≤ n → l.foldl wholeStep (mn (n * 1000000) 9000000000001) = mn (valFrom n l * 1000000) 9000000000001 := by
  induction l with
  | nil => intro n _; rfl
  | cons c l ih =>
    intro n h
    have e : wholeStep (mn (n * 1000000) 9000000000001) c = mn ((n * 10 + (c - 48) % 256) * 1000000) 9000000000001 := by
      unfold wholeStep mn; omega
    show l.foldl wholeStep (wholeStep (mn (n * 1000000) 9000000000001) c) = _
    rw [e]
    exact ih _ (by omega)
def partSum : Int → List Int → Int
  | _, [] => 0
  | u, c :: l => (c - 48) % 256 * u + partSum (u / 10) l
theorem partSum_zero (l : List Int) : partSum 0 l = 0 := by
  induction l with
  | nil => rfl
  | cons c l ih => show (c - 48) % 256 * 0 + partSum (0 / 10) l = 0; rw [show (0 : Int) / 10 = 0 from rfl, ih]; omega
theorem partSum_six (l : List Int) : partSum 100000 l = valFrom 0 ((l ++ [48, 48, 48, 48, 48, 48]).take 6) := by
  match l with
  | [] => decide
  | [a] => simp [partSum, valFrom]; omega
  | [a, b] => simp [partSum, valFrom]; omega
  | [a, b, c] => simp [partSum, valFrom]; omega
  | [a, b, c, d] => simp [partSum, valFrom]; omega
  | [a, b, c, d, e] => simp [partSum, valFrom]; omega
  | a :: b :: c :: d :: e :: f :: l =>
    have z := partSum_zero l
    simp [partSum, valFrom, z]; omega
theorem valFrom_append (n : Int) (l m : List Int) : valFrom n (l ++ m) = valFrom (valFrom n l) m := List.foldl_append ..
theorem valFrom_shift (m : List Int) : ∀ n : Int, valFrom n m = n * 10 ^ m.length + valFrom 0 m := by
  induction m with
  | nil => intro n; simp [valFrom]
  | cons c m ih =>
    intro n
    show valFrom (n * 10 + (c - 48) % 256) m = n * 10 ^ (m.length + 1) + valFrom (0 * 10 + (c - 48) % 256) m
    rw [ih, ih (0 * 10 + (c - 48) % 256)]
    rw [show (10 : Int) ^ (m.length + 1) = 10 ^ m.length * 10 from Int.pow_succ ..]
    grind
theorem both_ways (w p : List Int) : mn (mn (valFrom 0 w * 1000000) 9000000000001 + partSum 100000 p) 9000000000000 = mn (mn (valFrom 0 (w ++ (p ++ [48, 48, 48, 48, 48, 48]).take 6)) 9000000000001) 9000000000000 := by
  have hl : ((p ++ [48, 48, 48, 48, 48, 48]).take 6).length = 6 := by simp
  have e1 := valFrom_shift (List.take 6 (p ++ [48, 48, 48, 48, 48, 48])) (valFrom 0 w)
  rw [valFrom_append, e1, hl, ← partSum_six]
  have h0 : 0 ≤ partSum 100000 p := by rw [partSum_six]; exact valFrom_nonneg _ 0 (by omega)
  have e6 : (10 : Int) ^ 6 = 1000000 := by decide
  rw [e6]
  generalize valFrom 0 w * 1000000 = x
  unfold mn; omega
theorem white_eq (c : Int) : spec_l1white.f c = some (isSp c) := by
  unfold spec_l1white.f isSp
  by_cases h1 : c = 32
  · subst h1; rfl
  · rw [if_neg h1]
    by_cases h2 : c = 9
    · subst h2; rfl
    · rw [if_neg h2, beq_eq_false_iff_ne.mpr h1, beq_eq_false_iff_ne.mpr h2]; rfl
theorem digit_eq (c : Int) : spec_l1digit.f c = some (isDg c) := by
  unfold spec_l1digit.f isDg
  by_cases h1 : c ≥ 48
  · rw [if_pos h1, decide_eq_true h1]; rfl
  · rw [if_neg h1, decide_eq_false h1]; rfl
theorem w64 {x : Int} (h0 : -9223372036854775808 ≤ x) (h1 : x ≤ 9223372036854775807) : wrap64 x = x := by unfold wrap64; omega
theorem skip_l0 (s : ByteArray) (hs : s.size ≤ 9223372036854775806) (i : Nat) : ∀ k, i ≤ s.size → s.size - i < k → spec_l1skip.l0 k s i = some ((i + Q.runN isSp s i : Nat) : Int) := by
  fun_induction Q.runN isSp s i with
  | case1 i h1 h2 ih =>
    intro k hi hk
    obtain ⟨k, rfl⟩ : ∃ m, k = m + 1 := ⟨k - 1, by omega⟩
    simp only [spec_l1skip.l0]
    rw [if_pos (by omega), if_pos (by omega), white_eq, Option.bind_some, if_pos h2, w64 (by omega) (by omega)]
    have := ih k (by omega) (by omega)
    rw [show (i : Int) + 1 = ((i + 1 : Nat) : Int) by omega, this]
    congr 1; omega
  | case2 i h1 h2 =>
    intro k hi hk
    obtain ⟨k, rfl⟩ : ∃ m, k = m + 1 := ⟨k - 1, by omega⟩
    simp only [spec_l1skip.l0]
    rw [if_pos (by omega), if_pos (by omega), white_eq, Option.bind_some, if_neg h2]; rfl
  | case3 i h1 =>
    intro k hi hk
    obtain ⟨k, rfl⟩ : ∃ m, k = m + 1 := ⟨k - 1, by omega⟩
    simp only [spec_l1skip.l0]
    rw [if_neg (by omega)]; rfl
theorem skip_eq (s : ByteArray) (hs : s.size ≤ 9223372036854775806) (i : Nat) (hi : i ≤ s.size) (k : Nat) (hk : s.size < k) : spec_l1skip.f k s i = some ((i + Q.runN isSp s i : Nat) : Int) := by
  unfold spec_l1skip.f
  exact skip_l0 s hs i k hi (by omega)
def seg (s : ByteArray) (i : Nat) : Nat → List Int
  | 0 => []
  | m + 1 => bt s (i : Int) :: seg s (i + 1) m
theorem seg_length (s : ByteArray) (m : Nat) : ∀ i, (seg s i m).length = m := by
  induction m with
  | zero => intro i; rfl
  | succ m ih => intro i; simp [seg, ih]
theorem bytes_extract (s : ByteArray) (i m : Nat) (h : i + m ≤ s.size) : (s.extract i (i + m)).data.toList.map (fun b => (b.toNat : Int)) = seg s i m := by
  apply List.ext_getElem
  · rw [seg_length, List.length_map, Array.length_toList]
    have : (s.extract i (i + m)).size = m := by rw [ByteArray.size_extract]; omega
    exact this
  · intro j h1 h2
    rw [seg_length] at h2
    have e : ∀ (m i j : Nat) (h : j < (seg s i m).length), (seg s i m)[j] = bt s ((i + j : Nat) : Int) := by
      intro m
      induction m with
      | zero => intro i j h; simp [seg] at h
      | succ m ih =>
        intro i j h
        cases j with
        | zero => simp [seg]
        | succ j =>
          have h' : j < (seg s (i + 1) m).length := by simpa [seg] using h
          simp only [seg, List.getElem_cons_succ]
          rw [ih (i + 1) j h']
          congr 2; omega
    rw [e m i j (by rw [seg_length]; exact h2), bt_nat (by omega)]
    simp [ByteArray.data_extract]
    rfl
theorem digB (c : Int) (h : isDg c = true) : 48 ≤ c ∧ c ≤ 57 := by
  unfold isDg at h
  simpa using h
theorem mn_range {x : Int} (h : 0 ≤ x) : 0 ≤ mn x 9000000000001 ∧ mn x 9000000000001 ≤ 9000000000001 := by unfold mn; omega
theorem wholeStep_range (n c : Int) (h0 : 0 ≤ n) : 0 ≤ wholeStep n c ∧ wholeStep n c ≤ 9000000000001 := by unfold wholeStep; split <;> omega
theorem readDec_l0 (s : ByteArray) (hs : s.size ≤ 140737488355328) (neg : Bool) (i : Nat) : ∀ (k m : Nat) (n x7 : Int), Q.runN isDg s i = m → i ≤ s.size → 0 ≤ n → n ≤ 9000000000001 → 0 ≤ x7 → x7 ≤ i →
    spec_ReadDec.l0 (k + 2 + 2 * m) s i neg n x7 = spec_ReadDec.j3 (k + 1) s ((i + m : Nat) : Int) neg ((seg s i m).foldl wholeStep n) (x7 + m) false := by
  fun_induction Q.runN isDg s i with
  | case1 i h1 h2 ih =>
    intro k m n x7 hm hi hn0 hn1 hx0 hx1
    subst hm
    have hd := digB _ h2
    have hr := wholeStep_range n (bt s (i : Int)) hn0
    have key := ih k (Q.runN isDg s (i + 1)) (wholeStep n (bt s (i : Int))) (x7 + 1) rfl (by omega) hr.1 hr.2 (by omega) (by omega)
    have e1 : ((i + 1 + Q.runN isDg s (i + 1) : Nat) : Int) = ((i + (Q.runN isDg s (i + 1) + 1) : Nat) : Int) := by omega
    have e2 : x7 + 1 + ((Q.runN isDg s (i + 1) : Nat) : Int) = x7 + ((Q.runN isDg s (i + 1) + 1 : Nat) : Int) := by omega
    rw [seg, List.foldl_cons, ← e1, ← e2, ← key, show k + 2 + 2 * (Q.runN isDg s (i + 1) + 1) = (k + 2 + 2 * Q.runN isDg s (i + 1)) + 1 + 1 by omega]
    generalize k + 2 + 2 * Q.runN isDg s (i + 1) = K at *
    simp only [spec_ReadDec.l0]
    rw [if_pos (by omega), if_pos (by omega), digit_eq, Option.bind_some, h2]
    simp only [spec_ReadDec.j3]
    rw [if_pos trivial, if_pos (by omega), if_pos (by omega), w64 (x := n * 10) (by omega) (by omega), w64 (x := (i : Int) + 1) (by omega) (by omega), w64 (x := x7 + 1) (by omega) (by omega)]
    generalize hb : bt s (i : Int) = b at *
    rw [w64 (x := n * 10 + (b - 48) % 256 * 1000000) (by omega) (by omega), show (i : Int) + 1 = ((i + 1 : Nat) : Int) by omega]
    unfold wholeStep
    split <;> rfl
  | case2 i h1 h2 =>
    intro k m n x7 hm hi hn0 hn1 hx0 hx1
    subst hm
    show spec_ReadDec.l0 (k + 1 + 1) s i neg n x7 = _
    simp only [spec_ReadDec.l0]
    rw [if_pos (by omega), if_pos (by omega), digit_eq, Option.bind_some, Bool.eq_false_iff.mpr h2]
    simp [seg]
  | case3 i h1 =>
    intro k m n x7 hm hi hn0 hn1 hx0 hx1
    subst hm
    show spec_ReadDec.l0 (k + 1 + 1) s i neg n x7 = _
    simp only [spec_ReadDec.l0]
    rw [if_neg (by omega)]
    simp [seg]
theorem readDec_l1 (s : ByteArray) (hs : s.size ≤ 140737488355328) (neg : Bool) (i : Nat) : ∀ (k m : Nat) (n x7 u : Int), Q.runN isDg s i = m → i ≤ s.size → 0 ≤ n → 0 ≤ u → n + 10 * u ≤ 9000001000001 → 0 ≤ x7 → x7 ≤ i →
    spec_ReadDec.l1 (k + 1 + m) s i neg n x7 u = spec_ReadDec.j6 k ((i + m : Nat) : Int) neg (n + partSum u (seg s i m)) (x7 + m) := by
  fun_induction Q.runN isDg s i with
  | case1 i h1 h2 ih =>
    intro k m n x7 u hm hi hn0 hu hn1 hx0 hx1
    subst hm
    have hd := digB _ h2
    rw [show k + 1 + (Q.runN isDg s (i + 1) + 1) = (k + 1 + Q.runN isDg s (i + 1)) + 1 by omega]
    simp only [spec_ReadDec.l1]
    rw [if_pos (by omega), if_pos (by omega), digit_eq, Option.bind_some, h2, if_pos rfl, w64 (x := (i : Int) + 1) (by omega) (by omega), w64 (x := x7 + 1) (by omega) (by omega)]
    generalize hb : bt s (i : Int) = b at *
    have hp0 : 0 ≤ (b - 48) % 256 * u := Int.mul_nonneg (by omega) hu
    have hp1 : (b - 48) % 256 * u ≤ 9 * u := Int.mul_le_mul_of_nonneg_right (by omega) hu
    rw [w64 (x := (b - 48) % 256 * u) (by omega) (by omega), w64 (x := n + (b - 48) % 256 * u) (by omega) (by omega), Int.tdiv_eq_ediv_of_nonneg hu, w64 (x := u / 10) (by omega) (by omega)]
    rw [show (i : Int) + 1 = ((i + 1 : Nat) : Int) by omega, ih k _ _ _ _ rfl (by omega) (by omega) (by omega) (by omega) (by omega) (by omega), seg, hb]
    simp only [partSum]
    congr 1 <;> omega
  | case2 i h1 h2 =>
    intro k m n x7 u hm hi hn0 hu hn1 hx0 hx1
    subst hm
    show spec_ReadDec.l1 (k + 1) s i neg n x7 u = _
    simp only [spec_ReadDec.l1]
    rw [if_pos (by omega), if_pos (by omega), digit_eq, Option.bind_some, if_neg h2]
    simp [seg, partSum]
  | case3 i h1 =>
    intro k m n x7 u hm hi hn0 hu hn1 hx0 hx1
    subst hm
    show spec_ReadDec.l1 (k + 1) s i neg n x7 u = _
    simp only [spec_ReadDec.l1]
    rw [if_neg (by omega)]
    simp [seg, partSum]
theorem readDec_j6 (k : Nat) (x4 : Int) (neg : Bool) (n x7 : Int) (h0 : 0 ≤ n) (h1 : n ≤ 9000009000000) :
    spec_ReadDec.j6 (k + 1) x4 neg n x7 = some (if x7 = 0 then (0, 0) else (if neg = true then -(mn n 9000000000000) else mn n 9000000000000, x4)) := by
  simp only [spec_ReadDec.j6]
  by_cases c : x7 = 0
  · rw [if_pos c, if_pos c]
  · rw [if_neg c, if_neg c]
    by_cases d : n > 9000000000000
    · have e : mn n 9000000000000 = 9000000000000 := by unfold mn; omega
      rw [if_pos d, e]
      cases neg <;> rfl
    · have e : mn n 9000000000000 = n := by unfold mn; omega
      rw [if_neg d, e, w64 (x := -n) (by omega) (by omega)]
      cases neg <;> rfl
theorem bytesOf_append (a b : ByteArray) : bytesOf (a ++ b) = bytesOf a ++ bytesOf b := by
  unfold bytesOf
  rw [ByteArray.data_append, Array.toList_append, List.map_append]
theorem bytesOf_extract (a : ByteArray) (i j : Nat) : bytesOf (a.extract i j) = ((bytesOf a).drop i).take (j - i) := by
  unfold bytesOf
  rw [ByteArray.data_extract, Array.toList_extract]
  simp [List.map_take, List.map_drop]
theorem bytesOf_zeros : bytesOf ⟨#[48, 48, 48, 48, 48, 48]⟩ = [48, 48, 48, 48, 48, 48] := by decide
theorem bytes_seg (s : ByteArray) (i m : Nat) (h : i + m ≤ s.size) : bytesOf (s.extract i (i + m)) = seg s i m := bytes_extract s i m h
theorem at2_le (s : ByteArray) : at2 s ≤ s.size := by
  unfold at2 wholeN
  exact runN_le isDg s (atD s) (atD_le s)
theorem more_le (s : ByteArray) (h : tkB s = true) : at2 s + 1 + moreN s ≤ s.size := by
  unfold tkB at h
  rw [Bool.and_eq_true] at h
  have h1 := h.1
  unfold dotB at h1
  rw [Bool.and_eq_true, decide_eq_true_eq] at h1
  unfold moreN
  rw [if_pos h.1]
  exact runN_le isDg s (at2 s + 1) (by omega)
theorem dig_bytes (s : ByteArray) : bytesOf (digS s) = seg s (atD s) (wholeN s) := by
  unfold digS
  have := at2_le s
  exact bytes_seg s (atD s) (wholeN s) this
def partL (s : ByteArray) : List Int := if tkB s = true then seg s (at2 s + 1) (moreN s) else []
theorem part_bytes (s : ByteArray) : bytesOf (partS s) = partL s := by
  unfold partS partL
  by_cases h : tkB s = true
  · rw [if_pos h, if_pos h]
    exact bytes_seg s (at2 s + 1) (moreN s) (more_le s h)
  · rw [if_neg h, if_neg h]; rfl
theorem all_bytes (s : ByteArray) : bytesOf (allS s) = seg s (atD s) (wholeN s) ++ (partL s ++ [48, 48, 48, 48, 48, 48]).take 6 := by
  unfold allS
  rw [bytesOf_append, bytesOf_extract, bytesOf_append, dig_bytes, part_bytes, bytesOf_zeros]
  rfl
theorem foldl_bytes (s : ByteArray) : s.data.toList.foldl (fun n c => numStep n (c.toNat : Int)) 0 = (bytesOf s).foldl numStep 0 := by
  unfold bytesOf
  rw [List.foldl_map]
theorem mn_start : mn 0 9000000000001 = 0 := by decide
theorem mn_start2 : mn (0 * 1000000) 9000000000001 = 0 := by decide
theorem whole_val (l : List Int) : l.foldl wholeStep 0 = mn (valFrom 0 l * 1000000) 9000000000001 := by
  have := wholeFold l 0 (by omega)
  rw [mn_start2] at this
  exact this
theorem numOf_eq (s : ByteArray) : numOf s = mn ((seg s (atD s) (wholeN s)).foldl wholeStep 0 + partSum 100000 (partL s)) 9000000000000 := by
  unfold numOf
  rw [foldl_bytes, all_bytes, whole_val]
  have h := numFold (seg s (atD s) (wholeN s) ++ (partL s ++ [48, 48, 48, 48, 48, 48]).take 6) 0 (by omega)
  rw [mn_start] at h
  rw [h]
  exact (both_ways _ _).symm
theorem partSum_le (l : List Int) (hl : ∀ c ∈ l, 48 ≤ c ∧ c ≤ 57) : ∀ u : Int, 0 ≤ u → 0 ≤ partSum u l ∧ partSum u l ≤ 10 * u := by
  induction l with
  | nil => intro u hu; exact ⟨by simp [partSum], by simp only [partSum]; omega⟩
  | cons c l ih =>
    intro u hu
    have hc := hl c (List.mem_cons_self ..)
    have h := ih (fun d hd => hl d (List.mem_cons_of_mem _ hd)) (u / 10) (by omega)
    have hp0 : 0 ≤ (c - 48) % 256 * u := Int.mul_nonneg (by omega) hu
    have hp1 : (c - 48) % 256 * u ≤ 9 * u := Int.mul_le_mul_of_nonneg_right (by omega) hu
    simp only [partSum]
    omega
theorem seg_digits (s : ByteArray) (m : Nat) : ∀ i, m ≤ Q.runN isDg s i → ∀ c ∈ seg s i m, 48 ≤ c ∧ c ≤ 57 := by
  induction m with
  | zero => intro i _ c hc; simp [seg] at hc
  | succ m ih =>
    intro i hm c hc
    rw [Q.runN] at hm
    by_cases h1 : i < s.size
    · rw [if_pos h1] at hm
      by_cases h2 : isDg (bt s i) = true
      · rw [if_pos h2] at hm
        simp only [seg, List.mem_cons] at hc
        rcases hc with rfl | hc
        · exact digB _ h2
        · exact ih (i + 1) (by omega) c hc
      · rw [if_neg h2] at hm; omega
    · rw [if_neg h1] at hm; omega
theorem partL_digits (s : ByteArray) : ∀ c ∈ partL s, 48 ≤ c ∧ c ≤ 57 := by
  intro c hc
  unfold partL at hc
  by_cases h : tkB s = true
  · rw [if_pos h] at hc
    refine seg_digits s (moreN s) (at2 s + 1) ?_ c hc
    unfold tkB at h
    rw [Bool.and_eq_true] at h
    unfold moreN
    rw [if_pos h.1]
    exact Nat.le_refl _
  · rw [if_neg h] at hc; cases hc
theorem isEmpty_size (s : ByteArray) : s.toList.isEmpty = decide (s.size = 0) := by
  have h : s.toList.length = s.size := by simp [ByteArray.toList_eq, Array.length_toList]
  cases hl : s.toList with
  | nil => rw [hl] at h; simp at h; simp [← h]
  | cons a l => rw [hl] at h; simp at h; simp [← h]
theorem digS_size (s : ByteArray) : (digS s).size = wholeN s := by
  have h := congrArg List.length (dig_bytes s)
  rw [bytesOf_length, seg_length] at h
  exact h
theorem partS_size (s : ByteArray) : (partS s).size = if tkB s = true then moreN s else 0 := by
  have h := congrArg List.length (part_bytes s)
  rw [bytesOf_length] at h
  rw [h]
  unfold partL
  split
  · exact seg_length s _ _
  · rfl
theorem readV_eq (s : ByteArray) : readV s = if wholeN s + (if tkB s = true then moreN s else 0) = 0 then (0, 0) else (if negB s = true then - numOf s else numOf s, (at3 s : Int)) := by
  unfold readV
  rw [isEmpty_size, isEmpty_size, digS_size, partS_size]
  by_cases h : wholeN s + (if tkB s = true then moreN s else 0) = 0
  · rw [if_pos h, if_pos]
    simp only [Bool.and_eq_true, decide_eq_true_eq]
    omega
  · rw [if_neg h, if_neg]
    simp only [Bool.and_eq_true, decide_eq_true_eq]
    omega
theorem runN_pos (p : Int → Bool) (s : ByteArray) (i : Nat) : 0 < Q.runN p s i ↔ i < s.size ∧ p (bt s i) = true := by
  rw [Q.runN]
  by_cases h1 : i < s.size
  · rw [if_pos h1]
    by_cases h2 : p (bt s i) = true
    · rw [if_pos h2]; exact ⟨fun _ => ⟨h1, h2⟩, fun _ => by omega⟩
    · rw [if_neg h2]; exact ⟨fun h => by omega, fun h => absurd h.2 h2⟩
  · rw [if_neg h1]; exact ⟨fun h => by omega, fun h => absurd h.1 h1⟩
theorem tk_true (s : ByteArray) (h1 : at2 s < s.size) (h2 : bt s (at2 s) = 46) : tkB s = decide (0 < wholeN s + Q.runN isDg s (at2 s + 1)) := by
  have hd : dotB s (at2 s) = true := by simp [dotB, h1, h2]
  unfold tkB moreN
  rw [if_pos hd, hd, Bool.true_and]
theorem tk_false (s : ByteArray) (h : ¬ (at2 s < s.size ∧ bt s (at2 s) = 46)) : tkB s = false := by
  have hd : dotB s (at2 s) = false := by
    unfold dotB
    by_cases h1 : at2 s < s.size
    · by_cases h2 : bt s (at2 s) = 46
      · exact absurd ⟨h1, h2⟩ h
      · simp [h2]
    · simp [h1]
  unfold tkB
  rw [hd, Bool.false_and]
theorem readDec_body (s : ByteArray) (hs : s.size ≤ 140737488355328) (k : Nat) (hk : 3 * s.size + 8 ≤ k) : spec_ReadDec.l0 k s (atD s) (negB s) 0 0 = some (readV s) := by
  have ha := atD_le s
  have h2 := at2_le s
  have hw : Q.runN isDg s (atD s) = wholeN s := rfl
  have e2 : atD s + wholeN s = at2 s := rfl
  obtain ⟨k0, rfl⟩ : ∃ k0, k = k0 + 2 + 2 * wholeN s := ⟨k - 2 - 2 * wholeN s, by omega⟩
  rw [readDec_l0 s hs (negB s) (atD s) k0 (wholeN s) 0 0 hw ha (by omega) (by omega) (by omega) (by omega), e2]
  have hW : 0 ≤ (seg s (atD s) (wholeN s)).foldl wholeStep 0 ∧ (seg s (atD s) (wholeN s)).foldl wholeStep 0 ≤ 9000000000001 := by
    rw [whole_val]
    exact mn_range (Int.mul_nonneg (valFrom_nonneg _ 0 (by omega)) (by omega))
  have hN := numOf_eq s
  have hP := partSum_le (partL s) (partL_digits s) 100000 (by omega)
  generalize (seg s (atD s) (wholeN s)).foldl wholeStep 0 = W at *
  have key : spec_ReadDec.j3 (k0 + 1) s ((at2 s : Nat) : Int) (negB s) W (0 + (wholeN s : Int)) false = spec_ReadDec.j4 k0 s (at2 s) (negB s) W (0 + (wholeN s : Int)) (tkB s) := by
    simp only [spec_ReadDec.j3]
    rw [if_neg (by decide)]
    by_cases c1 : at2 s < s.size
    · rw [if_pos (by omega), if_pos (by omega)]
      by_cases c2 : bt s (at2 s) = 46
      · rw [if_pos c2, tk_true s c1 c2]
        by_cases c3 : 0 < wholeN s
        · rw [if_pos (by omega), decide_eq_true (by omega)]
        · rw [if_neg (by omega), w64 (x := (at2 s : Int) + 1) (by omega) (by omega)]
          have hp := runN_pos isDg s (at2 s + 1)
          rw [show ((at2 s + 1 : Nat) : Int) = (at2 s : Int) + 1 by omega] at hp
          by_cases c4 : at2 s + 1 < s.size
          · rw [if_pos (by omega), if_pos (by omega), digit_eq, Option.bind_some]
            congr 1
            by_cases c5 : isDg (bt s ((at2 s : Int) + 1)) = true
            · rw [c5, decide_eq_true]
              have := hp.2 ⟨c4, c5⟩
              omega
            · rw [Bool.eq_false_iff.mpr c5, decide_eq_false]
              intro h
              exact c5 (hp.1 (by omega)).2
          · rw [if_neg (by omega), decide_eq_false]
            intro h
            exact c4 (hp.1 (by omega)).1
      · rw [if_neg c2, tk_false s (fun h => c2 h.2)]
    · rw [if_neg (by omega), tk_false s (fun h => c1 h.1)]
  rw [key, readV_eq, hN]
  obtain ⟨k1, rfl⟩ : ∃ k1, k0 = k1 + 1 := ⟨k0 - 1, by omega⟩
  simp only [spec_ReadDec.j4]
  by_cases ht : tkB s = true
  · have hm := more_le s ht
    have hmr : Q.runN isDg s (at2 s + 1) = moreN s := by
      unfold tkB at ht
      rw [Bool.and_eq_true] at ht
      unfold moreN
      rw [if_pos ht.1]
    have hpl : partL s = seg s (at2 s + 1) (moreN s) := if_pos ht
    have h3 : at3 s = at2 s + 1 + moreN s := if_pos ht
    rw [if_pos ht, if_pos ht, w64 (x := (at2 s : Int) + 1) (by omega) (by omega), h3]
    obtain ⟨k2, rfl⟩ : ∃ k2, k1 = (k2 + 1) + 1 + moreN s := ⟨k1 - 2 - moreN s, by omega⟩
    have h1 := readDec_l1 s hs (negB s) (at2 s + 1) (k2 + 1) (moreN s) W (0 + (wholeN s : Int)) 100000 hmr (by omega) (by omega) (by omega) (by omega) (by omega) (by omega)
    rw [show ((at2 s + 1 : Nat) : Int) = (at2 s : Int) + 1 by omega, ← hpl] at h1
    rw [h1, readDec_j6 k2 _ _ _ _ (by omega) (by omega)]
    by_cases c : wholeN s + moreN s = 0
    · rw [if_pos c, if_pos (by omega)]
    · rw [if_neg c, if_neg (by omega)]
  · have hpl : partL s = [] := if_neg ht
    have h3 : at3 s = at2 s := if_neg ht
    rw [if_neg ht, if_neg ht, hpl, h3]
    have e0 : W + partSum 100000 [] = W := by simp [partSum]
    obtain ⟨k2, rfl⟩ : ∃ k2, k1 = k2 + 1 := ⟨k1 - 1, by omega⟩
    rw [e0, readDec_j6 k2 _ _ _ _ (by omega) (by omega)]
    by_cases c : wholeN s + 0 = 0
    · rw [if_pos c, if_pos (by omega)]
    · rw [if_neg c, if_neg (by omega)]
theorem specReadDec_eq (s : ByteArray) (hs : s.size ≤ 140737488355328) (k : Nat) (hk : 3 * s.size + 10 ≤ k) : spec_ReadDec.f k s = some (readV s) := by
  have h0 := skip_eq s (by omega) 0 (by omega) k (by omega)
  rw [Nat.zero_add] at h0
  unfold spec_ReadDec.f
  rw [show (0 : Int) = ((0 : Nat) : Int) from rfl, h0, Option.bind_some]
  have hl := runN_le isSp s 0 (by omega)
  rw [Nat.zero_add] at hl
  have eA : atD s = if sgnB s (Q.runN isSp s 0) = true then Q.runN isSp s 0 + 1 else Q.runN isSp s 0 := rfl
  have eN : negB s = if sgnB s (Q.runN isSp s 0) = true then bt s (Q.runN isSp s 0) == 45 else false := rfl
  have hb := readDec_body s hs
  generalize Q.runN isSp s 0 = a at *
  have key : (if (a : Int) < (s.size : Int) then (if 0 ≤ (a : Int) then (if (bt s a) = 43 then (spec_ReadDec.j0 k s a false true) else (spec_ReadDec.j0 k s a false ((bt s a) == 45))) else (none)) else (spec_ReadDec.j0 k s a false false)) = spec_ReadDec.j0 k s a false (sgnB s a) := by
    unfold sgnB
    by_cases c1 : a < s.size
    · rw [if_pos (by omega), if_pos (by omega), decide_eq_true c1, Bool.true_and]
      by_cases c2 : bt s a = 43
      · rw [if_pos c2, c2]; rfl
      · rw [if_neg c2, beq_eq_false_iff_ne.mpr c2, Bool.false_or]
    · rw [if_neg (by omega), decide_eq_false c1, Bool.false_and]
  refine key.trans ?_
  obtain ⟨k1, rfl⟩ : ∃ k1, k = k1 + 1 + 1 := ⟨k - 2, by omega⟩
  simp only [spec_ReadDec.j0]
  by_cases c : sgnB s a = true
  · rw [if_pos c] at eA eN
    have h1 : a < s.size := by
      unfold sgnB at c
      rw [Bool.and_eq_true, decide_eq_true_eq] at c
      exact c.1
    rw [if_pos c, if_pos (by omega), if_pos (by omega), w64 (x := (a : Int) + 1) (by omega) (by omega)]
    simp only [spec_ReadDec.j1]
    rw [show (a : Int) + 1 = ((a + 1 : Nat) : Int) by omega, ← eA, ← eN]
    exact hb k1 (by omega)
  · rw [if_neg c] at eA eN
    rw [if_neg c]
    simp only [spec_ReadDec.j1]
    rw [← eA, ← eN]
    exact hb k1 (by omega)
theorem implReadDec_eq (s : ByteArray) (hs : s.size ≤ 140737488355328) : impl_ReadDec.f s = some (readV s) := if_pos hs
theorem at3_le (s : ByteArray) : at3 s ≤ s.size := by
  unfold at3
  split
  · rename_i h; exact more_le s h
  · exact at2_le s
theorem readV_at (s : ByteArray) : ∃ n : Nat, (readV s).2 = (n : Int) ∧ n ≤ s.size := by
  rw [readV_eq]
  by_cases c : wholeN s + (if tkB s = true then moreN s else 0) = 0
  · rw [if_pos c]; exact ⟨0, rfl, by omega⟩
  · rw [if_neg c]; exact ⟨at3 s, rfl, at3_le s⟩
theorem numOf_range (s : ByteArray) : 0 ≤ numOf s ∧ numOf s ≤ 9000000000000 := by
  rw [numOf_eq, whole_val]
  have h1 := mn_range (Int.mul_nonneg (valFrom_nonneg (seg s (atD s) (wholeN s)) 0 (by omega)) (show (0 : Int) ≤ 1000000 by omega))
  have h2 := partSum_le (partL s) (partL_digits s) 100000 (by omega)
  generalize mn (valFrom 0 (seg s (atD s) (wholeN s)) * 1000000) 9000000000001 = x at *
  generalize partSum 100000 (partL s) = y at *
  unfold mn
  omega
theorem readV_range (s : ByteArray) : -9000000000000 ≤ (readV s).1 ∧ (readV s).1 ≤ 9000000000000 := by
  have h := numOf_range s
  rw [readV_eq]
  by_cases c : wholeN s + (if tkB s = true then moreN s else 0) = 0
  · rw [if_pos c]; dsimp only; omega
  · rw [if_neg c]
    dsimp only
    split <;> omega
def looksV (s : ByteArray) : Bool := decide (0 < (readV s).2) && decide ((readV s).2.toNat + Q.runN isSp s (readV s).2.toNat = s.size)
theorem implLooksNum_eq (s : ByteArray) (hs : s.size ≤ 140737488355328) : impl_LooksNum.f s = some (looksV s) := by
  unfold impl_LooksNum.f looksV
  rw [implReadDec_eq s hs, Option.bind_some]
  obtain ⟨n, hn, hl⟩ := readV_at s
  rw [hn, Int.toNat_natCast]
  by_cases c : (n : Int) > 0
  · rw [if_pos c]
    have hr : impl_run.f s (n : Int) 78 = some ((Q.runN isSp s n : Nat) : Int) := by
      unfold impl_run.f
      rw [if_pos (by omega), if_pos rfl, Int.toNat_natCast]
    have hle := runN_le isSp s n hl
    rw [hr, Option.bind_some, w64 (by omega) (by omega), decide_eq_true (show 0 < (n : Int) from c), Bool.true_and]
    congr 1
    by_cases d : n + Q.runN isSp s n = s.size
    · rw [decide_eq_true d]
      exact beq_iff_eq.mpr (by omega)
    · rw [decide_eq_false d]
      exact beq_eq_false_iff_ne.mpr (by omega)
  · rw [if_neg c, decide_eq_false (show ¬ 0 < (n : Int) from c), Bool.false_and]
theorem specLooksNum_eq (s : ByteArray) (hs : s.size ≤ 140737488355328) (k : Nat) (hk : 3 * s.size + 10 ≤ k) : spec_LooksNum.f k s = some (looksV s) := by
  unfold spec_LooksNum.f looksV
  rw [specReadDec_eq s hs k hk, Option.bind_some]
  obtain ⟨n, hn, hl⟩ := readV_at s
  rw [hn, Int.toNat_natCast]
  by_cases c : (n : Int) > 0
  · rw [if_pos c, skip_eq s (by omega) n hl k (by omega), Option.bind_some, decide_eq_true (show 0 < (n : Int) from c), Bool.true_and]
    congr 1
    by_cases d : n + Q.runN isSp s n = s.size
    · rw [decide_eq_true d]
      exact beq_iff_eq.mpr (by omega)
    · rw [decide_eq_false d]
      exact beq_eq_false_iff_ne.mpr (by omega)
  · rw [if_neg c, decide_eq_false (show ¬ 0 < (n : Int) from c), Bool.false_and]
def Dr {α : Type} (x : Option α) (P : α → Prop) : Prop := ∃ r, x = some r ∧ P r
theorem Dr.bind {α β : Type} {x : Option α} {P : α → Prop} {f : α → Option β} {R : β → Prop} (h : Dr x P) (g : ∀ r, P r → Dr (f r) R) : Dr (x.bind f) R := by
  obtain ⟨r, rfl, hp⟩ := h
  exact g r hp
theorem Dr.some {α : Type} {r : α} {P : α → Prop} (h : P r) : Dr (Option.some r) P := ⟨r, rfl, h⟩
theorem Dr.pos {α : Type} {c : Prop} [Decidable c] {x y : Option α} {P : α → Prop} (hc : c) (h : Dr x P) : Dr (if c then x else y) P := by rw [if_pos hc]; exact h
theorem Dr.ite {α : Type} {c : Prop} [Decidable c] {x y : Option α} {P : α → Prop} (h1 : c → Dr x P) (h2 : ¬ c → Dr y P) : Dr (if c then x else y) P := by
  by_cases hc : c
  · rw [if_pos hc]; exact h1 hc
  · rw [if_neg hc]; exact h2 hc
theorem Dr.mono {α : Type} {x : Option α} {P R : α → Prop} (h : Dr x P) (hr : ∀ r, P r → R r) : Dr x R := by
  obtain ⟨r, e, hp⟩ := h
  exact ⟨r, e, hr r hp⟩
end Go.Proofs.YtnfiljnncpieoaaGreatDoor.Pure
namespace Go.Proofs.YtnfiljnncpieoaaGreatDoor.Pure
open Go Go.RowKit Go.Proofs.YtnfiljnncpieoaaGreatDoor.Q Go.Proofs.YtnfiljnncpieoaaGreatDoorW.PrintWords Go.Proofs.YtnfiljnncpieoaaGreatDoorW.PrintLast Go.Proofs.YtnfiljnncpieoaaGreatDoorW.PrintMore
section
variable (b : List Int) (hb : b.length ≤ 9223372036854775807)
include hb
theorem below_dr (i h n : Int) (hi : 0 ≤ i) (hn : 0 < n) (hn2 : n ≤ 256) : Dr (spec_l1Below.f b i h n) (fun r => 0 ≤ r.2.1 ∧ 0 ≤ r.1 ∧ r.1 < n) := by
  obtain ⟨r, i', h', e, hi', _, hr⟩ := l1Below_some b i h n hi hb
  exact ⟨_, e, hi', hr hn hn2⟩
theorem num_dr (i h : Int) (hi : 0 ≤ i) : Dr (spec_l1num.f b i h) (fun r => 0 ≤ r.2.1 ∧ -9223372036854775808 ≤ r.1 ∧ r.1 ≤ 9223372036854775807) := by
  obtain ⟨r, i', h', e, hi', hr⟩ := l1num_some b i h hi hb
  exact ⟨_, e, hi', hr⟩
end
end Go.Proofs.YtnfiljnncpieoaaGreatDoor.Pure
