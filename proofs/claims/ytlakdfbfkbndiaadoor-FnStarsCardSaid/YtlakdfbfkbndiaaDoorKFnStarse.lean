/- What the row of FnStars rests on, and the row: for every input that can be read the call returns true and the input reads as it did; condition: what the row lists of the library reads as the program lays it. -/
import Derived.Test.YtlakdfbfkbndiaaDoorKFnStarsd
set_option linter.unusedVariables false
set_option linter.unusedSimpArgs false
set_option linter.unusedSectionVars false
namespace Go.Proofs.YtlakdfbfkbndiaaDoor.Q
open Go.RowKit Go.Proofs.YtlakdfbfkbndiaaDoor.Re Go.Proofs.YtlakdfbfkbndiaaDoorW.PrintWords Go.Proofs.YtlakdfbfkbndiaaDoorW.PrintLast Go.Proofs.YtlakdfbfkbndiaaDoorW.PrintMore
theorem findV_spec (l : List S49) (s : ByteArray) (hV : Valid l) : ∀ (d i : Nat),i + d = s.size + 1 → (findV l s d i = (-1,0)) ∨ ∃ j x : Nat,findV l s d i = ((j : Int),(x : Int)) ∧ i ≤ j ∧ j ≤ x ∧ x ≤ s.size
 | 0,i,_=>.inl rfl
 | d + 1,i,h=>by
  simp only [findV]
  by_cases hn : (endsL l s i).length = 0
  ·rw [if_pos hn]
   rcases findV_spec l s hV d (i + 1) (by omega) with h1|⟨j,x,h1,h2,h3,h4⟩
   ·exact .inl h1
   ·exact .inr ⟨j,x,h1,by omega,h3,h4⟩
  ·rw [if_neg hn]
   refine .inr ⟨i,(endsL l s i).getD ((endsL l s i).length - 1) 0,rfl,Nat.le_refl _,?_⟩
   have hm : (endsL l s i).getD ((endsL l s i).length - 1) 0 ∈ endsL l s i:=by
    rw [List.getD_eq_getElem?_getD,List.getElem?_eq_getElem (by omega)]
    exact List.getElem_mem _
   have:=(mem_upto.mp hm).2
   exact meets_fwd hV s (l.length - 1) (by have:=hV.pos;omega) i _ (by omega) this
noncomputable def occV (l : List S49) (s : ByteArray) : Nat → Nat → List (Int × Int)
 | 0,_=>[]
 | g + 1,i=>if i ≤ s.size then (if (findV l s (s.size + 1 - i) i).1 < 0 then [] else findV l s (s.size + 1 - i) i :: occV l s g (if (findV l s (s.size + 1 - i) i).1 = (findV l s (s.size + 1 - i) i).2 then (findV l s (s.size + 1 - i) i).2.toNat + 1 else (findV l s (s.size + 1 - i) i).2.toNat)) else []
end Go.Proofs.YtlakdfbfkbndiaaDoor.Q
namespace Go.Proofs.YtlakdfbfkbndiaaDoor.Q
open Go.RowKit Go.Proofs.YtlakdfbfkbndiaaDoor.Re Go.Proofs.YtlakdfbfkbndiaaDoorW.PrintWords Go.Proofs.YtlakdfbfkbndiaaDoorW.PrintLast Go.Proofs.YtlakdfbfkbndiaaDoorW.PrintMore
section
variable {l : List S49} {s : ByteArray} {A0 : Option Addr} {c0 Bm Bf : Nat} {w0 w wr w1 : World} {base : Nat} {v : Value} {xs : List (Int × Int)}
theorem pair_ne {k : Nat} {ok : Nat → Prop} {o : Obj} (h : Kd.R kPair 72 wr base ok v xs) (hb : wr.heap[k]? = some o) (ho : ∀ c,o ≠ .cells c 72 (0,0)) : some k ≠ v.ownBlock:=fun e=>by
 obtain ⟨c,hc⟩:=Kd.R_typed h k e.symm
 rw [hb] at hc
 exact ho c (Option.some.inj hc)
theorem Mem.pairs (h : Mem l s A0 c0 Bm Bf w0 wr) (hR : Kd.R kPair 72 wr base (fun _=>True) v xs) (hbase : w0.heap.size ≤ base) (hg : wr.grownBy w1 v.ownBlock) : Mem l s A0 c0 Bm Bf w0 w1:=by
 have keep : ∀ {k : Nat} {o : Obj},wr.heap[k]? = some o → (∀ c,o ≠ .cells c 72 (0,0)) → w1.heap[k]? = some o:=fun {k o} hb ho=>(hg.block k (Array.getElem?_eq_some_iff.mp hb).1 (pair_ne hR hb ho)).trans hb
 have hlo : ∀ k,v.ownBlock = some k → w0.heap.size ≤ k:=fun k hk=>Nat.le_trans hbase (Kd.R_base hR k hk)
 exact {
  below:=h.below.grown hg h.below.size (fun k hk=>hlo k hk)
  bm:=h.bm
  bf:=h.bf
  obj:=keep h.obj (by simp)
  map:=by
   obtain ⟨es,clock,hb,hd,he⟩:=h.map
   refine ⟨es,clock,keep hb (by simp),hd,fun e hm=>?_⟩
   obtain ⟨n',i',b',ws',g1,g2,g3,g4,g5,g6,g7⟩:=he e hm
   exact ⟨n',i',b',ws',g1,g2,g3,g4,g5,keep g6 (by simp [wobj]),g7⟩ }
theorem pairs_call (h : Kd.R kPair 72 wr base (fun _=>True) v xs) (hm : Mem l s A0 c0 Bm Bf w0 wr) (hg : wr.grownBy w1 (some Bf)) : Kd.R kPair 72 w1 base (fun _=>True) v xs:=by
 obtain ⟨es,clock,hb,_⟩:=hm.map
 exact Kd.R_mono (Kd.R_grown (Kd.R_mono (ok':=fun k=>k ≠ Bf) (Kd.R_mono (Kd.R_bound h) (ok':=fun k=>k ≠ Bf) (fun k hk e=>by
  obtain ⟨q,_,cells,hc⟩:=hk.2.2.2
  rw [e,hb] at hc
  cases hc)) (fun _ hk=>hk)) hg (fun k hk e=>hk (Option.some.inj e))) (fun _ _=>trivial)
set_option maxRecDepth 100000 in
theorem occ_calls (hB : Base l s A0 c0 w0) (w : World) (hM : Mem l s A0 c0 Bm Bf w0 w) :
  Calls Tryd.prog 48 #[.pointer (some ⟨Bm,0,none⟩)] w fun e w'=>∃ v,e = .returned v ∧ Kd.R kPair 72 w' w.heap.size (fun _=>True) v (occV l s (s.size + 2) 0) ∧ Mem l s A0 c0 Bm Bf w0 w' ∧ (occV l s (s.size + 2) 0).length ≤ 502:=by
 have HB:=Aside0.mk hB
 have HM:=Aside0.mk hM
 have HS:=Aside0.mk hB.sz
 generalize hVV : occV l s (s.size + 2) 0 = V
 have HVV:=Aside0.mk hVV
 clear hB hM hVV
 go_enter Tryd.func48,Tryd.ntmps48
 go_wp2_with fail
 have h0 : Kd.R kPair 72 (w.alloc (.cells #[] 72)) w.heap.size (fun _=>True) (.slice (some ⟨w.heap.size,0,none⟩) 0 0) ([] : List (Int × Int)) :=
  ⟨fun _ _=>trivial,[],World.ownsRow_lit (base:=w.heap.size) (e:=72) (size:=2) w #[] 0 (Nat.le_refl _) (by unfold maxLen;omega) rfl,rfl,fun j p hj=>by simp at hj⟩
 have hb0 : Below w.heap.size w (w.alloc (.cells #[] 72)):=below_alloc (Below.refl _ _) _
 go_loopg [3,4] (s.size + 2) (fun g v3 v4 wr=>∃ (i : Nat) (L : List (Int × Int)),v4 = .int .i64 i ∧ s.size + 2 - i ≤ g ∧ i ≤ s.size + 1 ∧ L.length ≤ i ∧ Aside0 (Kd.R kPair 72 wr w.heap.size (fun _=>True) v3 L) ∧ Aside0 (Mem l s A0 c0 Bm Bf w0 wr) ∧ Aside0 (w.heap.size ≤ wr.heap.size) ∧ Aside0 (∃ h,s.size + 1 < h + i ∧ V = L ++ occV l s h i))
 case atStart=>exact ⟨0,[],rfl,by omega,by omega,Nat.le_refl _,⟨h0⟩,⟨HM.out.move hb0⟩,⟨hb0.size⟩,⟨s.size + 2,by omega,HVV.out.symm⟩⟩
 case round =>
  clear h0 hb0
  have HSz:=Aside0.mk (HM.out.below.size)
  clear HM
  obtain ⟨i,L,rfl,hg,hi,hL,HR,HM,HW,HV⟩:=hrel
  obtain ⟨hm0,hm1,hm2⟩:=HM.out.cell
  clear hm0 hm2
  by_cases hlt : i ≤ s.size
  ·have hlt0 : ((i : Int) ≤ (s.size : Int)) = True:=eq_true (by omega)
   have hcall:=find_calls HB.out i (by omega) wr HM.out
   have HLt:=Aside0.mk hlt
   have HLL:=Aside0.mk hL
   have hstep : ∃ h,s.size + 1 < h + 1 + i ∧ V = L ++ occV l s (h + 1) i:=by
    obtain ⟨h,h1,h2⟩:=HV.out
    exact ⟨h - 1,by omega,by rw [show h - 1 + 1 = h by omega];exact h2⟩
   obtain ⟨h,h1,h2⟩:=hstep
   simp only [occV] at h2
   rw [if_pos hlt] at h2
   clear hlt HV hL
   rcases findV_spec l s HB.out.ok (s.size + 1 - i) i (by have:=HLt.out;omega) with e|⟨j,x,e,e1,e2,e3⟩
   ·rw [e] at hcall h2
    simp only at h2
    rw [if_pos (by omega),List.append_nil] at h2
    have HF:=Aside0.mk h2
    clear h2 e h1
    go_wp2_with fail
    refine hcall.mono ?_
    rintro e w4 ⟨rfl,hM4,hG4⟩
    dsimp only
    have HR4:=Aside0.mk (pairs_call HR.out HM.out hG4)
    have HM4:=Aside0.mk hM4
    clear hcall hM4 hG4 HR HM
    go_wp2_with fail
    go_ret
    rw [HF.out]
    exact ⟨_,rfl,HR4.out,HM4.out,by have:=HLL.out;have:=HLt.out;have:=HS.out;omega⟩
   ·rw [e] at hcall h2
    simp only at h2
    rw [if_neg (by omega)] at h2
    have HF:=Aside0.mk h2
    have H1:=Aside0.mk h1
    have HE:=Aside0.mk (And.intro e1 (And.intro e2 e3))
    have hj0 : ((j : Int) < 0) = False:=eq_false (by omega)
    clear h2 e h1 e1 e2 e3
    go_wp2_with fail
    refine hcall.mono ?_
    rintro e w4 ⟨rfl,hM4,hG4⟩
    dsimp only
    have HR4:=Aside0.mk (pairs_call HR.out HM.out hG4)
    have HM4:=Aside0.mk hM4
    have HW4 : Aside0 (w.heap.size ≤ w4.heap.size):=⟨Nat.le_trans HW.out hG4.size⟩
    clear hcall hM4 hG4 HR HM HW
    have hL2 : (L ++ [((j : Int),(x : Int))]).length ≤ x + (if j = x then 1 else 0):=by
     rw [List.length_append,List.length_singleton]
     have:=HLL.out;have:=HE.out
     split <;> omega
    have HL2:=Aside0.mk hL2
    clear hL2
    by_cases hjx : j = x
    ·have hjx0 : ((j : Int) == (x : Int)) = true:=by rw [hjx];simp
     have hxi : (x : Int) + 1 ≤ 502:=by have:=HE.out;have:=HS.out;omega
     have HJX:=Aside0.mk hjx
     clear hjx
     go_wp2_with (first|((with_reducible refine gate_builtin (b:=.append) (xs:=#[.tmp 23,.tmp 27]) rfl ?_);at_builtin;refine Kd.R_append kPair (w0:=w4) w.heap.size rfl (.tmp 23) (.tmp 27) 70 72 (.agg #[.int .i64 0,.int .i64 0]) 16 rfl Tryd.underlying70 infoPair rfl (by decide) (by omega) _ L ((j : Int),(x : Int)) [.int .i64 (j : Int),.int .i64 (x : Int)] (fun _=>True) (fun _=>False) rfl rfl ?aP (fun _ hk=>hk.elim) (fun _ _=>trivial) ?aO ?aB ?aS ?aL ?_;(case aP=>exact kPair_mkM _ _ _ ((j : Int),(x : Int)));(case aO=>exact HR4.out);(case aB=>exact Below.refl _ _);(case aS=>exact HW4.out);(case aL=>have:=HLL.out;have:=HLt.out;have:=HS.out;omega);intro v9 w9 ho hb hg hat;have HO2:=Aside0.mk ho;have HG2:=Aside0.mk hg;clear ho hb hg hat))
     have HM9:=Aside0.mk (HM4.out.pairs HR4.out HSz.out HG2.out)
     have HW9 : Aside0 (w.heap.size ≤ w9.heap.size):=⟨Nat.le_trans HW4.out HG2.out.size⟩
     go_wp2_with fail
     go_roundg (s.size + 2 - (x + 1))
     case measure=>have:=HE.out;have:=HLt.out;omega
     case rel=>exact ⟨x + 1,L ++ [((j : Int),(x : Int))],by go_num,Nat.le_refl _,by have:=HE.out;omega,by have:=HL2.out;rw [if_pos HJX.out] at this;exact this,HO2,HM9,HW9,⟨h,by have:=H1.out;have:=HE.out;omega,by
      rw [HF.out,if_pos (by rw [HJX.out]),Int.toNat_natCast,List.append_assoc];rfl⟩⟩
    ·have hjx0 : ((j : Int) == (x : Int)) = false:=beq_eq_false_iff_ne.mpr (fun h=>hjx (Int.ofNat.inj h))
     have HJX:=Aside0.mk hjx
     clear hjx
     go_wp2_with (first|((with_reducible refine gate_builtin (b:=.append) (xs:=#[.tmp 23,.tmp 27]) rfl ?_);at_builtin;refine Kd.R_append kPair (w0:=w4) w.heap.size rfl (.tmp 23) (.tmp 27) 70 72 (.agg #[.int .i64 0,.int .i64 0]) 16 rfl Tryd.underlying70 infoPair rfl (by decide) (by omega) _ L ((j : Int),(x : Int)) [.int .i64 (j : Int),.int .i64 (x : Int)] (fun _=>True) (fun _=>False) rfl rfl ?aP (fun _ hk=>hk.elim) (fun _ _=>trivial) ?aO ?aB ?aS ?aL ?_;(case aP=>exact kPair_mkM _ _ _ ((j : Int),(x : Int)));(case aO=>exact HR4.out);(case aB=>exact Below.refl _ _);(case aS=>exact HW4.out);(case aL=>have:=HLL.out;have:=HLt.out;have:=HS.out;omega);intro v9 w9 ho hb hg hat;have HO2:=Aside0.mk ho;have HG2:=Aside0.mk hg;clear ho hb hg hat))
     have HM9:=Aside0.mk (HM4.out.pairs HR4.out HSz.out HG2.out)
     have HW9 : Aside0 (w.heap.size ≤ w9.heap.size):=⟨Nat.le_trans HW4.out HG2.out.size⟩
     go_wp2_with fail
     go_roundg (s.size + 2 - x)
     case measure=>have:=HE.out;have:=HLt.out;have:=HJX.out;omega
     case rel=>exact ⟨x,L ++ [((j : Int),(x : Int))],rfl,Nat.le_refl _,by have:=HE.out;omega,by have:=HL2.out;rw [if_neg HJX.out] at this;exact this,HO2,HM9,HW9,⟨h,by have:=H1.out;have:=HE.out;have:=HJX.out;omega,by
      rw [HF.out,if_neg (by have:=HJX.out;omega),Int.toNat_natCast,List.append_assoc];rfl⟩⟩
  ·have hlt0 : ((i : Int) ≤ (s.size : Int)) = False:=eq_false (by omega)
   have hF : V = L:=by
    obtain ⟨h,h1,h2⟩:=HV.out
    cases h with
    | zero=>exact h2.trans (List.append_nil _)
    | succ h =>
     simp only [occV] at h2
     rw [if_neg hlt,List.append_nil] at h2
     exact h2
   have HF:=Aside0.mk hF
   have HLL:=Aside0.mk hL
   have HI:=Aside0.mk hi
   clear hF HV hL
   go_wp2_with fail
   go_ret
   rw [HF.out]
   exact ⟨_,rfl,HR.out,HM.out,by have:=HLL.out;have:=HI.out;have:=HS.out;omega⟩
end
end Go.Proofs.YtlakdfbfkbndiaaDoor.Q
namespace Go.Proofs.YtlakdfbfkbndiaaDoor.Q
open Go.RowKit Go.Proofs.YtlakdfbfkbndiaaDoor.Re Go.Proofs.YtlakdfbfkbndiaaDoorW.PrintWords Go.Proofs.YtlakdfbfkbndiaaDoorW.PrintLast Go.Proofs.YtlakdfbfkbndiaaDoorW.PrintMore
def okV (l : List S49) : Prop:=∃ k,impl_ReOk.f k l = some true
def sureL (l : List S49) : Prop:=(∃ k b,impl_ReOk.f k l = some b) ∧ (okV l → Valid l)
theorem leO_le {α : Type} {f : Nat → Option α} (h : ∀ k,LeO (f k) (f (k + 1))) {k m : Nat} (hk : k ≤ m) {r : α} (hr : f k = some r) : f m = some r:=by
 induction hk with
 | refl=>exact hr
 | step _ ih=>exact h _ _ ih
theorem ok_one {l : List S49} {k : Nat} {b : Bool} (h : impl_ReOk.f k l = some b) : (b = true ↔ okV l):=by
 constructor
 ·rintro rfl;exact ⟨k,h⟩
 ·rintro ⟨m,hm⟩
  have h1:=leO_le (f:=fun k=>impl_ReOk.f k l) (fun k=>impl_ReOk.mono l k) (Nat.le_max_left k m) h
  have h2:=leO_le (f:=fun k=>impl_ReOk.f k l) (fun k=>impl_ReOk.mono l k) (Nat.le_max_right k m) hm
  exact Option.some.inj (h1.symm.trans h2)
theorem new_any (l : List S49) (s : ByteArray) (A0 : Option Addr) (c0 : Nat) (w : World) (hS : sureL l) (hr : Kd.C k49 w A0 l.length l) (hc : l.length ≤ c0) :
  Calls Tryd.prog 41 #[.slice A0 l.length c0,.string s] w fun e w' =>
   Below w.heap.size w w' ∧ (((okV l ∧ s.size ≤ 500) ∧ ∃ Bm Bf,e = .returned (.pointer (some ⟨Bm,0,none⟩)) ∧ Mem l s A0 c0 Bm Bf w w') ∨ (¬ (okV l ∧ s.size ≤ 500) ∧ e = .returned (.pointer none))):=by
 obtain ⟨⟨k,b,hk⟩,_⟩:=hS
 refine (new_calls l s A0 c0 w k b hr hc hk).mono ?_
 rintro e w' ⟨hb,h⟩
 refine ⟨hb,?_⟩
 rcases h with ⟨h1,h2,h3⟩|⟨h1,h2⟩
 ·exact .inl ⟨⟨(ok_one hk).mp h1,h2⟩,h3⟩
 ·exact .inr ⟨fun g=>h1 ⟨(ok_one hk).mpr g.1,g.2⟩,h2⟩
noncomputable def findR (l : List S49) (s : ByteArray) : Int × Int :=
 if (findV l s (s.size + 1) 0).1 < 0 then (-1,0) else ((findV l s (s.size + 1) 0).1,(findV l s (s.size + 1) 0).2 - (findV l s (s.size + 1) 0).1)
open Classical in
noncomputable def impl_ReFind.f (l : List S49) (s : ByteArray) : Option (Int × Int) :=
 if sureL l then (if okV l ∧ s.size ≤ 500 then some (findR l s) else some (-1,0)) else none
open Classical in
noncomputable def impl_ReTest.f (l : List S49) (s : ByteArray) : Option Bool:=(impl_ReFind.f l s).map fun r=>decide (0 ≤ r.1)
open Classical in
noncomputable def impl_ReCount.f (l : List S49) (s : ByteArray) : Option Int :=
 if sureL l then (if okV l ∧ s.size ≤ 500 then some ((occV l s (s.size + 2) 0).length : Int) else some (-1)) else none
set_option maxRecDepth 100000 in
theorem impl_ReFind.calls (A0 : Option Addr) (c0 : Nat) (l0 : List S49) (a1 : ByteArray) (r1 r2 : Int) (w : World) (hr0 : Kd.C k49 w A0 l0.length l0) (hc0 : l0.length ≤ c0) (h : impl_ReFind.f l0 a1 = some (r1,r2)) (hT : Tabs w:=by first|assumption|(refine Aside0.out (p:=Tabs _) ?_;assumption)|(refine Tabs.below (w:=?ww) (Aside0.out ?ha) ?hb;(case ha=>assumption);(case hb=>repeat (first|(with_reducible first|exact Below.refl _ _|(refine Aside0.out ?_;assumption)|apply below_alloc|apply pw_below_drewN|apply below_drew1|(refine below_set ?_ (Aside0.out ?_);(rotate_left;assumption)))|(refine Aside0.out ?_;assumption))))|(refine Tabs.drewN (w:=?ww) (Aside0.out ?ha) _;(case ha=>assumption))) :
  Calls Tryd.prog 14 #[.slice A0 l0.length c0,.string a1] w fun e w'=>e = .returned (.tuple #[.int .i64 r1,.int .i64 r2]) ∧ Below w.heap.size w w':=by
 unfold impl_ReFind.f at h
 by_cases hS : sureL l0
 ·rw [if_pos hS] at h
  have hcall:=new_any l0 a1 A0 c0 w hS hr0 hc0
  by_cases hok : okV l0 ∧ a1.size ≤ 500
  ·rw [if_pos hok] at h
   have hBase : Base l0 a1 A0 c0 w:=⟨hS.2 hok.1,hok.2,hr0,hc0,hT⟩
   have HBase:=Aside0.mk hBase
   have HOk:=Aside0.mk hok
   have hsp:=findV_spec l0 a1 hBase.ok (a1.size + 1) 0 (by omega)
   unfold findR at h
   generalize hf : findV l0 a1 (a1.size + 1) 0 = r at h hsp
   have HF:=Aside0.mk hf
   clear hf hok hS hT hr0 hc0 hBase
   rcases hsp with e|⟨j,x,e,e1,e2,e3⟩
   ·subst e
    rw [if_pos (by decide)] at h
    cases h
    go_enter Tryd.func14,Tryd.ntmps14
    go_wp2_with fail
    refine hcall.mono ?_
    rintro e w1 ⟨hb,(⟨_,Bm,Bf,rfl,hM⟩|⟨hn,_⟩)⟩
    ·dsimp only
     have hfind:=find_calls HBase.out 0 (by omega) w1 hM
     rw [Nat.sub_zero,HF.out] at hfind
     clear hcall hM hb
     go_wp2_with fail
     refine hfind.mono ?_
     rintro e w4 ⟨rfl,hM4,hG4⟩
     dsimp only
     have HM4:=Aside0.mk hM4
     clear hfind hM4 hG4
     go_wp2_with fail
     go_ret2
     exact ⟨rfl,HM4.out.below⟩
    ·exact absurd HOk.out hn
   ·subst e
    rw [if_neg (by dsimp only;omega)] at h
    cases h
    have hj0 : ((j : Int) < 0) = False:=eq_false (by omega)
    have hw : (0 : Int) ≤ (x : Int) - (j : Int) ∧ (x : Int) - (j : Int) ≤ 500:=by have:=HOk.out.2;omega
    obtain ⟨d,hd⟩ : ∃ d : Nat,(x : Int) - (j : Int) = (d : Int):=⟨x - j,by omega⟩
    rw [hd] at hw
    have hd500 : (d : Int) ≤ 500:=hw.2
    clear hw e1 e2 e3
    go_enter Tryd.func14,Tryd.ntmps14
    go_wp2_with fail
    refine hcall.mono ?_
    rintro e w1 ⟨hb,(⟨_,Bm,Bf,rfl,hM⟩|⟨hn,_⟩)⟩
    ·dsimp only
     have hfind:=find_calls HBase.out 0 (by omega) w1 hM
     rw [Nat.sub_zero,HF.out] at hfind
     clear hcall hM hb
     go_wp2_with fail
     refine hfind.mono ?_
     rintro e w4 ⟨rfl,hM4,hG4⟩
     dsimp only
     have HM4:=Aside0.mk hM4
     clear hfind hM4 hG4
     go_wp2_with fail
     go_ret2
     exact ⟨by first|rfl|(rw [hd];rfl),HM4.out.below⟩
    ·exact absurd HOk.out hn
  ·rw [if_neg hok] at h
   cases h
   have HOk:=Aside0.mk hok
   clear hok hS hT hr0 hc0
   go_enter Tryd.func14,Tryd.ntmps14
   go_wp2_with fail
   refine hcall.mono ?_
   rintro e w1 ⟨hb,(⟨hn,_⟩|⟨_,rfl⟩)⟩
   ·exact absurd hn HOk.out
   ·dsimp only
    have HB:=Aside0.mk hb
    clear hcall hb
    go_wp2_with fail
    go_ret2
    exact ⟨rfl,HB.out⟩
 ·rw [if_neg hS] at h;cases h
set_option maxRecDepth 100000 in
theorem impl_ReTest.calls (A0 : Option Addr) (c0 : Nat) (l0 : List S49) (a1 : ByteArray) (r : Bool) (w : World) (hr0 : Kd.C k49 w A0 l0.length l0) (hc0 : l0.length ≤ c0) (h : impl_ReTest.f l0 a1 = some r) (hT : Tabs w:=by first|assumption|(refine Aside0.out (p:=Tabs _) ?_;assumption)|(refine Tabs.below (w:=?ww) (Aside0.out ?ha) ?hb;(case ha=>assumption);(case hb=>repeat (first|(with_reducible first|exact Below.refl _ _|(refine Aside0.out ?_;assumption)|apply below_alloc|apply pw_below_drewN|apply below_drew1|(refine below_set ?_ (Aside0.out ?_);(rotate_left;assumption)))|(refine Aside0.out ?_;assumption))))|(refine Tabs.drewN (w:=?ww) (Aside0.out ?ha) _;(case ha=>assumption))) :
  Calls Tryd.prog 17 #[.slice A0 l0.length c0,.string a1] w fun e w'=>e = .returned (.bool r) ∧ Below w.heap.size w w':=by
 unfold impl_ReTest.f at h
 obtain ⟨⟨r1,r2⟩,hf,rfl⟩:=Option.map_eq_some_iff.mp h
 have hcall:=impl_ReFind.calls A0 c0 l0 a1 r1 r2 w hr0 hc0 hf hT
 clear h hf hT hr0 hc0
 go_enter Tryd.func17,Tryd.ntmps17
 go_wp2_with fail
 refine hcall.mono ?_
 rintro e w1 ⟨rfl,hb⟩
 dsimp only
 have HB:=Aside0.mk hb
 clear hcall hb
 go_wp2_with fail
 go_ret
 exact ⟨rfl,HB.out⟩
set_option maxRecDepth 100000 in
theorem impl_ReCount.calls (A0 : Option Addr) (c0 : Nat) (l0 : List S49) (a1 : ByteArray) (r : Int) (w : World) (hr0 : Kd.C k49 w A0 l0.length l0) (hc0 : l0.length ≤ c0) (h : impl_ReCount.f l0 a1 = some r) (hT : Tabs w:=by first|assumption|(refine Aside0.out (p:=Tabs _) ?_;assumption)|(refine Tabs.below (w:=?ww) (Aside0.out ?ha) ?hb;(case ha=>assumption);(case hb=>repeat (first|(with_reducible first|exact Below.refl _ _|(refine Aside0.out ?_;assumption)|apply below_alloc|apply pw_below_drewN|apply below_drew1|(refine below_set ?_ (Aside0.out ?_);(rotate_left;assumption)))|(refine Aside0.out ?_;assumption))))|(refine Tabs.drewN (w:=?ww) (Aside0.out ?ha) _;(case ha=>assumption))) :
  Calls Tryd.prog 25 #[.slice A0 l0.length c0,.string a1] w fun e w'=>e = .returned (.int .i64 r) ∧ Below w.heap.size w w':=by
 unfold impl_ReCount.f at h
 by_cases hS : sureL l0
 ·rw [if_pos hS] at h
  have hcall:=new_any l0 a1 A0 c0 w hS hr0 hc0
  by_cases hok : okV l0 ∧ a1.size ≤ 500
  ·rw [if_pos hok] at h
   cases h
   have hBase : Base l0 a1 A0 c0 w:=⟨hS.2 hok.1,hok.2,hr0,hc0,hT⟩
   have HBase:=Aside0.mk hBase
   have HOk:=Aside0.mk hok
   clear hok hS hT hr0 hc0 hBase
   go_enter Tryd.func25,Tryd.ntmps25
   go_wp2_with fail
   refine hcall.mono ?_
   rintro e w1 ⟨hb,(⟨_,Bm,Bf,rfl,hM⟩|⟨hn,_⟩)⟩
   ·dsimp only
    have hocc:=occ_calls HBase.out w1 hM
    clear hcall hM hb
    go_wp2_with fail
    refine hocc.mono ?_
    rintro e w4 ⟨v4,rfl,hR4,hM4,hL4⟩
    dsimp only
    obtain ⟨A4,c4,rfl,_,_⟩:=Kd.R_reads hR4
    have HM4:=Aside0.mk hM4
    clear hocc hM4 hR4
    go_wp2_with fail
    go_ret
    exact ⟨rfl,HM4.out.below⟩
   ·exact absurd HOk.out hn
  ·rw [if_neg hok] at h
   cases h
   have HOk:=Aside0.mk hok
   clear hok hS hT hr0 hc0
   go_enter Tryd.func25,Tryd.ntmps25
   go_wp2_with fail
   refine hcall.mono ?_
   rintro e w1 ⟨hb,(⟨hn,_⟩|⟨_,rfl⟩)⟩
   ·exact absurd hn HOk.out
   ·dsimp only
    have HB:=Aside0.mk hb
    clear hcall hb
    go_wp2_with fail
    go_ret
    exact ⟨rfl,HB.out⟩
 ·rw [if_neg hS] at h;cases h
def InOrder (n : Nat) : Nat → List (Int × Int) → Prop
 | _,[]=>True
 | i,x :: r=>∃ j y : Nat,x = ((j : Int),(y : Int)) ∧ i ≤ j ∧ j ≤ y ∧ y ≤ n ∧ InOrder n y r
theorem InOrder.mono {n : Nat} {i k : Nat} (hk : k ≤ i) : ∀ {L : List (Int × Int)},InOrder n i L → InOrder n k L
 | [],_=>trivial
 | _ :: _,⟨j,y,e,h1,h2⟩=>⟨j,y,e,by omega,h2⟩
open Classical in
noncomputable def impl_ReEnds.f (l : List S49) (s : ByteArray) (i : Int) : Option (List Int) :=
 if sureL l then (if (okV l ∧ s.size ≤ 500) ∧ 0 ≤ i ∧ i ≤ (s.size : Int) then some (nats (endsL l s i.toNat)) else some []) else none
set_option maxRecDepth 100000 in
theorem impl_ReEnds.calls (A0 : Option Addr) (c0 : Nat) (l0 : List S49) (a1 : ByteArray) (a2 : Int) (r : List Int) (w : World) (hr0 : Kd.C k49 w A0 l0.length l0) (hc0 : l0.length ≤ c0) (h : impl_ReEnds.f l0 a1 a2 = some r) (hT : Tabs w:=by first|assumption|(refine Aside0.out (p:=Tabs _) ?_;assumption)|(refine Tabs.below (w:=?ww) (Aside0.out ?ha) ?hb;(case ha=>assumption);(case hb=>repeat (first|(with_reducible first|exact Below.refl _ _|(refine Aside0.out ?_;assumption)|apply below_alloc|apply pw_below_drewN|apply below_drew1|(refine below_set ?_ (Aside0.out ?_);(rotate_left;assumption)))|(refine Aside0.out ?_;assumption))))|(refine Tabs.drewN (w:=?ww) (Aside0.out ?ha) _;(case ha=>assumption))) :
  Calls Tryd.prog 19 #[.slice A0 l0.length c0,.string a1,.int .i64 a2] w fun e w'=>∃ v,e = .returned v ∧ Kd.R (Kd.int .i64) 3 w' w.heap.size (fun _=>True) v r ∧ Below w.heap.size w w':=by
 unfold impl_ReEnds.f at h
 by_cases hS : sureL l0
 ·rw [if_pos hS] at h
  have hcall:=new_any l0 a1 A0 c0 w hS hr0 hc0
  by_cases hok : okV l0 ∧ a1.size ≤ 500
  ·have hBase : Base l0 a1 A0 c0 w:=⟨hS.2 hok.1,hok.2,hr0,hc0,hT⟩
   have HBase:=Aside0.mk hBase
   have HOk:=Aside0.mk hok
   by_cases hi : 0 ≤ a2 ∧ a2 ≤ (a1.size : Int)
   ·rw [if_pos ⟨hok,hi⟩] at h
    cases h
    obtain ⟨j,rfl⟩ : ∃ j : Nat,a2 = (j : Int):=⟨a2.toNat,by omega⟩
    have hj : j ≤ a1.size:=by omega
    have hbt : impl_between.f (j : Int) 0 (a1.size : Int) = some true:=by
     unfold impl_between.f
     rw [if_pos hi.1,decide_eq_true hi.2]
    rw [Int.toNat_natCast]
    have HJ:=Aside0.mk hj
    have HBt:=Aside0.mk hbt
    clear hok hS hT hr0 hc0 hBase hi hj hbt
    go_enter Tryd.func19,Tryd.ntmps19
    go_wp2_with fail
    refine hcall.mono ?_
    rintro e w1 ⟨hb,(⟨_,Bm,Bf,rfl,hM⟩|⟨hn,_⟩)⟩
    ·dsimp only
     have HM:=Aside0.mk hM
     have hbc:=impl_between.calls (j : Int) 0 (a1.size : Int) true w1 HBt.out
     clear hcall hM hb
     go_wp2_with fail
     refine hbc.mono ?_
     rintro e w2 ⟨rfl,hD⟩
     obtain ⟨m2,rfl⟩:=hD
     dsimp only
     have hM2 : Mem l0 a1 A0 c0 Bm Bf w (w1.drewN m2):=HM.out.move (pw_below_drewN (Below.refl _ _) m2)
     have hat:=at_calls HBase.out j HJ.out _ hM2
     have HM2:=Aside0.mk hM2
     clear hbc HM hM2
     go_wp2_with fail
     refine hat.mono ?_
     rintro e w4 ⟨v4,rfl,hR4,hM4,hG4⟩
     dsimp only
     have HR:=Aside0.mk hR4
     have HM4:=Aside0.mk hM4
     have HL:=Aside0.mk HM2.out.below.size
     clear hat hR4 hM4 hG4
     go_wp2_with fail
     go_ret
     exact ⟨v4,rfl,Kd.R_lower (Kd.R_mono HR.out (fun _ _=>trivial)) HL.out,HM4.out.below⟩
    ·exact absurd HOk.out hn
   ·rw [if_neg (fun h=>hi h.2)] at h
    cases h
    have hbt : impl_between.f a2 0 (a1.size : Int) = some false:=by
     unfold impl_between.f
     by_cases h0 : a2 ≥ 0
     ·rw [if_pos h0,decide_eq_false (fun h1=>hi ⟨h0,h1⟩)]
     ·rw [if_neg h0]
    have HBt:=Aside0.mk hbt
    clear hok hS hT hr0 hc0 hBase hi hbt
    go_enter Tryd.func19,Tryd.ntmps19
    go_wp2_with fail
    refine hcall.mono ?_
    rintro e w1 ⟨hb,(⟨_,Bm,Bf,rfl,hM⟩|⟨hn,_⟩)⟩
    ·dsimp only
     have HB:=Aside0.mk hb
     have hbc:=impl_between.calls a2 0 (a1.size : Int) false w1 HBt.out
     clear hcall hM hb
     go_wp2_with fail
     refine hbc.mono ?_
     rintro e w2 ⟨rfl,hD⟩
     obtain ⟨m2,rfl⟩:=hD
     dsimp only
     have HB2:=Aside0.mk (pw_below_drewN HB.out m2)
     clear hbc HB
     go_wp2_with fail
     go_ret
     exact ⟨_,rfl,Kd.R_nil _ _ _ _ _,HB2.out⟩
    ·exact absurd HOk.out hn
  ·rw [if_neg (fun h=>hok h.1)] at h
   cases h
   have HOk:=Aside0.mk hok
   clear hok hS hT hr0 hc0
   go_enter Tryd.func19,Tryd.ntmps19
   go_wp2_with fail
   refine hcall.mono ?_
   rintro e w1 ⟨hb,(⟨hn,_⟩|⟨_,rfl⟩)⟩
   ·exact absurd hn HOk.out
   ·dsimp only
    have HB:=Aside0.mk hb
    clear hcall hb
    go_wp2_with fail
    go_ret
    exact ⟨_,rfl,Kd.R_nil _ _ _ _ _,HB.out⟩
 ·rw [if_neg hS] at h;cases h
end Go.Proofs.YtlakdfbfkbndiaaDoor.Q
namespace Go.Proofs.YtlakdfbfkbndiaaDoor.Q
open Go.RowKit Go.Proofs.YtlakdfbfkbndiaaDoorW.PrintWords Go.Proofs.YtlakdfbfkbndiaaDoorW.PrintLast Go.Proofs.YtlakdfbfkbndiaaDoorW.PrintMore
attribute [local go_sem] max2_int min2_int max_two min_two max_three min_three max_four min_four   -- for this text's walks alone
set_option linter.unusedVariables false
set_option linter.unusedSimpArgs false
mutual
def spec_l2pairs.j0 : Nat → Bool → Int → Bool → ByteArray → List Int → Option (Bool)
 | 0,_,_,_,_,_=>none
 | k + 1,x19,x127000,x127001,x127002,x127003=>if x19 = true then (some false) else (spec_l2pairs.l0 k 0 x127000 x127001 x127002 x127003)
def spec_l2pairs.l0 : Nat → Int → Int → Bool → ByteArray → List Int → Option (Bool)
 | 0,_,_,_,_,_=>none
 | k + 1,x3,x127000,x127001,x127002,x127003=>if (wrap64 (x3 + 1)) < (x127002.size : Int) then (if 0 ≤ (wrap64 (x3 + 1)) then (if 0 ≤ x3 then (if x3 < (x127002.size : Int) then (if (bt x127002 (wrap64 (x3 + 1))) < (bt x127002 x3) then (some false) else (spec_l2pairs.l0 k (wrap64 (x3 + 2)) x127000 x127001 x127002 x127003)) else (none)) else (none)) else (none)) else (some true)
end
def spec_l2pairs.f (k : Nat) (a0_0 : Int) (a0_1 : Bool) (a0_2 : ByteArray) (l0_3 : List Int) : Option (Bool):=if ((a0_2.size : Int) % 2) = 1 then (spec_l2pairs.j0 k true a0_0 a0_1 a0_2 l0_3) else (if (a0_2.size : Int) = 0 then (spec_l2pairs.j0 k (!a0_1) a0_0 a0_1 a0_2 l0_3) else (spec_l2pairs.j0 k false a0_0 a0_1 a0_2 l0_3))
theorem spec_l2pairs.mono_l : ∀ k,(∀ y0 y1 y2 y3 y4,LeO (spec_l2pairs.j0 k y0 y1 y2 y3 y4) (spec_l2pairs.j0 (k + 1) y0 y1 y2 y3 y4)) ∧ (∀ y0 y1 y2 y3 y4,LeO (spec_l2pairs.l0 k y0 y1 y2 y3 y4) (spec_l2pairs.l0 (k + 1) y0 y1 y2 y3 y4))
 | 0=>⟨fun _ _ _ _ _ r h=>by simp [spec_l2pairs.j0] at h,fun _ _ _ _ _ r h=>by simp [spec_l2pairs.l0] at h⟩
 | k + 1=>by
  obtain ⟨ih0,ih1⟩:=spec_l2pairs.mono_l k
  refine ⟨?_,?_⟩
  ·intro y0 y1 y2 y3 y4
   unfold spec_l2pairs.j0
   repeat' first
   | (with_reducible exact ih0 _ _ _ _ _)
   | (with_reducible exact ih1 _ _ _ _ _)
   | (with_reducible exact LeO.refl _)
   | (with_reducible exact LeO.none _)
   | (with_reducible refine LeO.ite ?_ ?_)
   | (with_reducible refine LeO.bind ?_ (fun _=>?_))
   | exact ih0 _ _ _ _ _
   | exact ih1 _ _ _ _ _
   | exact LeO.none _
   | refine LeO.ite ?_ ?_
   | refine LeO.bind ?_ (fun _=>?_)
  ·intro y0 y1 y2 y3 y4
   unfold spec_l2pairs.l0
   repeat' first
   | (with_reducible exact ih0 _ _ _ _ _)
   | (with_reducible exact ih1 _ _ _ _ _)
   | (with_reducible exact LeO.refl _)
   | (with_reducible exact LeO.none _)
   | (with_reducible refine LeO.ite ?_ ?_)
   | (with_reducible refine LeO.bind ?_ (fun _=>?_))
   | exact ih0 _ _ _ _ _
   | exact ih1 _ _ _ _ _
   | exact LeO.none _
   | refine LeO.ite ?_ ?_
   | refine LeO.bind ?_ (fun _=>?_)
theorem spec_l2pairs.mono : ∀ a0 a1 a2 a3 k,LeO (spec_l2pairs.f k a0 a1 a2 a3) (spec_l2pairs.f (k + 1) a0 a1 a2 a3):=by
 intro a0 a1 a2 a3 k
 obtain ⟨ih0,ih1⟩:=spec_l2pairs.mono_l k
 unfold spec_l2pairs.f
 repeat' first
   | (with_reducible exact ih0 _ _ _ _ _)
   | (with_reducible exact ih1 _ _ _ _ _)
   | (with_reducible exact LeO.refl _)
   | (with_reducible exact LeO.none _)
   | (with_reducible refine LeO.ite ?_ ?_)
   | (with_reducible refine LeO.bind ?_ (fun _=>?_))
   | exact ih0 _ _ _ _ _
   | exact ih1 _ _ _ _ _
   | exact LeO.none _
   | refine LeO.ite ?_ ?_
   | refine LeO.bind ?_ (fun _=>?_)
set_option maxHeartbeats 8000000 in
set_option maxRecDepth 100000 in
theorem spec_l2pairs.calls (k : Nat) (a0_0 : Int) (a0_1 : Bool) (a0_2 : ByteArray) (A0_3 : Option Addr) (c0_3 : Nat) (l0_3 : List Int) (r : Bool) (w : World) (hr0_3 : Kd.C (Kd.int .i64) w A0_3 l0_3.length l0_3) (hc0_3 : l0_3.length ≤ c0_3) (h : spec_l2pairs.f k a0_0 a0_1 a0_2 l0_3 = some r) :
  Calls Tryd.prog 70 #[.agg #[.int .i64 a0_0,.bool a0_1,.string a0_2,.slice A0_3 l0_3.length c0_3]] w fun e w'=>e = .returned (.bool r) ∧ Below w.heap.size w w':=by
 have hu49:=Tryd.underlying49
 have HR0_3:=Aside0.mk hr0_3
 have HC0_3:=Aside0.mk hc0_3
 clear hr0_3 hc0_3
 have HB:=Aside0.mk (Below.refl w.heap.size w)
 have H : (if ((a0_2.size : Int) % 2) = 1 then (spec_l2pairs.j0 k true a0_0 a0_1 a0_2 l0_3) else (if (a0_2.size : Int) = 0 then (spec_l2pairs.j0 k (!a0_1) a0_0 a0_1 a0_2 l0_3) else (spec_l2pairs.j0 k false a0_0 a0_1 a0_2 l0_3))) = some r:=h
 clear h
 have HC2:=Aside0.mk H
 clear H
 go_enter Tryd.func70,Tryd.ntmps70
 go_upto_region 1 with (first|((with_reducible refine gate_dst (N:=1) rfl ?_);(try (refine gate_guard (by rfl) ?_;dsimp only));refine box_event ?hg (N:=1) ?hd (cs:=#[.int .i64 a0_0,.bool a0_1,.string a0_2,.slice A0_3 l0_3.length c0_3]) (t:=49) ?hr ?_;(case hd=>rfl);(case hg=>rfl);(case hr=>first|(go_simp;done)|(go_simp;rfl));intro gb126 hg w3 hbox hb;have n0_:=Aside0.mk (below_step (by repeat (first|(with_reducible first|exact HB.out|apply below_alloc|apply pw_below_drewN|apply below_drew1)|exact HB.out)) hb);have n1_:=Aside0.mk (hbox);have n2_:=Aside0.mk ((by rw [hg];exact (below_size (by repeat (first|(with_reducible first|exact HB.out|apply below_alloc|apply pw_below_drewN|apply below_drew1)|exact HB.out))) : w.heap.size ≤ gb126));have n3_:=Aside0.mk ((by rw [hg];exact (below_size (by repeat (first|(with_reducible first|exact HB.out|apply below_alloc|apply pw_below_drewN|apply below_drew1)|exact HB.out))) : w.heap.size ≤ gb126));clear HB;have HB:=n0_;have BK126:=n1_;have GW126:=n2_;have GE126:=n3_;clear n0_ n1_ n2_ n3_;clear hb hbox hg))
 repeat (go_quiet (first|((with_reducible refine gate_dst (N:=1) rfl ?_);(try (refine gate_guard (by rfl) ?_;dsimp only));refine box_event ?hg (N:=1) ?hd (cs:=#[.int .i64 a0_0,.bool a0_1,.string a0_2,.slice A0_3 l0_3.length c0_3]) (t:=49) ?hr ?_;(case hd=>rfl);(case hg=>rfl);(case hr=>first|(go_simp;done)|(go_simp;rfl));intro gb126 hg w3 hbox hb;have n0_:=Aside0.mk (below_step (by repeat (first|(with_reducible first|exact HB.out|apply below_alloc|apply pw_below_drewN|apply below_drew1)|exact HB.out)) hb);have n1_:=Aside0.mk (hbox);have n2_:=Aside0.mk ((by rw [hg];exact (below_size (by repeat (first|(with_reducible first|exact HB.out|apply below_alloc|apply pw_below_drewN|apply below_drew1)|exact HB.out))) : w.heap.size ≤ gb126));have n3_:=Aside0.mk ((by rw [hg];exact (below_size (by repeat (first|(with_reducible first|exact HB.out|apply below_alloc|apply pw_below_drewN|apply below_drew1)|exact HB.out))) : w.heap.size ≤ gb126));clear HB;have HB:=n0_;have BK126:=n1_;have GW126:=n2_;have GE126:=n3_;clear n0_ n1_ n2_ n3_;clear hb hbox hg));go_upto_region 1 with (first|((with_reducible refine gate_dst (N:=1) rfl ?_);(try (refine gate_guard (by rfl) ?_;dsimp only));refine box_event ?hg (N:=1) ?hd (cs:=#[.int .i64 a0_0,.bool a0_1,.string a0_2,.slice A0_3 l0_3.length c0_3]) (t:=49) ?hr ?_;(case hd=>rfl);(case hg=>rfl);(case hr=>first|(go_simp;done)|(go_simp;rfl));intro gb126 hg w3 hbox hb;have n0_:=Aside0.mk (below_step (by repeat (first|(with_reducible first|exact HB.out|apply below_alloc|apply pw_below_drewN|apply below_drew1)|exact HB.out)) hb);have n1_:=Aside0.mk (hbox);have n2_:=Aside0.mk ((by rw [hg];exact (below_size (by repeat (first|(with_reducible first|exact HB.out|apply below_alloc|apply pw_below_drewN|apply below_drew1)|exact HB.out))) : w.heap.size ≤ gb126));have n3_:=Aside0.mk ((by rw [hg];exact (below_size (by repeat (first|(with_reducible first|exact HB.out|apply below_alloc|apply pw_below_drewN|apply below_drew1)|exact HB.out))) : w.heap.size ≤ gb126));clear HB;have HB:=n0_;have BK126:=n1_;have GW126:=n2_;have GE126:=n3_;clear n0_ n1_ n2_ n3_;clear hb hbox hg)))
 (try simp only [Act.put,List.setIfInBounds_toArray,List.set_cons_zero,List.set_cons_succ])
 go_cut [19] (fun v19 wc=>∃ (kq : Nat) (x19_1 : Bool),v19 = .bool x19_1 ∧ Aside0 (spec_l2pairs.j0 kq x19_1 a0_0 a0_1 a0_2 l0_3 = some r) ∧ Aside0 (kq ≤ k) ∧ Aside0 (wc.heap[gb126]? = some (.cells #[.int .i64 a0_0,.bool a0_1,.string a0_2,(.slice A0_3 l0_3.length c0_3)] 49 (0,0))) ∧ Aside0 (Below w.heap.size w wc))
 case first =>
  have H:=HC2.out
  clear HC2
  by_cases c4 : ((a0_2.size : Int) % 2) = 1
  ·rw [if_pos c4] at H
   have c4b0 : (((a0_2.size : Int) % 2) == 1) = true:=beq_iff_eq.mpr c4
   have c4b1 : (((a0_2.size : Int) % 2) != 1) = false:=bne_eq_false_iff_eq.mpr c4
   clear c4
   (first|rw [c4b0]|(simp only [i64_w,i32_w];rw [c4b0])|skip)
   have H':=Aside0.mk H
   clear H
   have hcz5_0 : w3.cell? ⟨gb126,0,none⟩ = some (.int .i64 a0_0):=(blk_cell BK126.out 0).trans rfl
   have hcz5_1 : w3.cell? ⟨gb126,1,none⟩ = some (.bool a0_1):=(blk_cell BK126.out 1).trans rfl
   have hcz5_2 : w3.cell? ⟨gb126,2,none⟩ = some (.string a0_2):=(blk_cell BK126.out 2).trans rfl
   have hcz5_3 : w3.cell? ⟨gb126,3,none⟩ = some (.slice A0_3 l0_3.length c0_3):=(blk_cell BK126.out 3).trans rfl
   have hfz5_0:=blk_frozen BK126.out 0
   have hfz5_1:=blk_frozen BK126.out 1
   have hfz5_2:=blk_frozen BK126.out 2
   have hfz5_3:=blk_frozen BK126.out 3
   go_wp2
   repeat (go_quiet (fail);try go_wp2)
   go_meet
   case rel=>exact ⟨_,(true),(by first|rfl|(simp;done)|(simp [*];done)),H',⟨by first|omega|exact Nat.le_refl _⟩,⟨by (with_reducible repeat (first|refine blk_drewN ?_ _|refine blk_drew ?_|refine blk_alloc ?_ _));exact BK126.out⟩,⟨by repeat (first|(with_reducible first|exact HB.out|apply below_alloc|apply pw_below_drewN|apply below_drew1|refine below_set ?_ GE126.out)|exact HB.out)⟩⟩
  ·rw [if_neg c4] at H
   have c4b0 : (((a0_2.size : Int) % 2) == 1) = false:=beq_eq_false_iff_ne.mpr c4
   have c4b1 : (((a0_2.size : Int) % 2) != 1) = true:=bne_iff_ne.mpr c4
   (first|rw [c4b0]|(simp only [i64_w,i32_w];rw [c4b0])|skip)
   by_cases c6 : (a0_2.size : Int) = 0
   ·rw [if_pos c6] at H
    have c6b0 : ((a0_2.size : Int) == 0) = true:=beq_iff_eq.mpr c6
    have c6b1 : ((a0_2.size : Int) != 0) = false:=bne_eq_false_iff_eq.mpr c6
    clear c6
    have H':=Aside0.mk H
    clear H
    have hcz7_0 : w3.cell? ⟨gb126,0,none⟩ = some (.int .i64 a0_0):=(blk_cell BK126.out 0).trans rfl
    have hcz7_1 : w3.cell? ⟨gb126,1,none⟩ = some (.bool a0_1):=(blk_cell BK126.out 1).trans rfl
    have hcz7_2 : w3.cell? ⟨gb126,2,none⟩ = some (.string a0_2):=(blk_cell BK126.out 2).trans rfl
    have hcz7_3 : w3.cell? ⟨gb126,3,none⟩ = some (.slice A0_3 l0_3.length c0_3):=(blk_cell BK126.out 3).trans rfl
    have hfz7_0:=blk_frozen BK126.out 0
    have hfz7_1:=blk_frozen BK126.out 1
    have hfz7_2:=blk_frozen BK126.out 2
    have hfz7_3:=blk_frozen BK126.out 3
    go_wp2
    repeat (go_quiet (fail);try go_wp2)
    go_meet
    case rel=>exact ⟨_,(!a0_1),(by first|rfl|(simp;done)|(simp [*];done)),H',⟨by first|omega|exact Nat.le_refl _⟩,⟨by (with_reducible repeat (first|refine blk_drewN ?_ _|refine blk_drew ?_|refine blk_alloc ?_ _));exact BK126.out⟩,⟨by repeat (first|(with_reducible first|exact HB.out|apply below_alloc|apply pw_below_drewN|apply below_drew1|refine below_set ?_ GE126.out)|exact HB.out)⟩⟩
   ·rw [if_neg c6] at H
    have c6b0 : ((a0_2.size : Int) == 0) = false:=beq_eq_false_iff_ne.mpr c6
    have c6b1 : ((a0_2.size : Int) != 0) = true:=bne_iff_ne.mpr c6
    have H':=Aside0.mk H
    clear H
    have hcz8_0 : w3.cell? ⟨gb126,0,none⟩ = some (.int .i64 a0_0):=(blk_cell BK126.out 0).trans rfl
    have hcz8_1 : w3.cell? ⟨gb126,1,none⟩ = some (.bool a0_1):=(blk_cell BK126.out 1).trans rfl
    have hcz8_2 : w3.cell? ⟨gb126,2,none⟩ = some (.string a0_2):=(blk_cell BK126.out 2).trans rfl
    have hcz8_3 : w3.cell? ⟨gb126,3,none⟩ = some (.slice A0_3 l0_3.length c0_3):=(blk_cell BK126.out 3).trans rfl
    have hfz8_0:=blk_frozen BK126.out 0
    have hfz8_1:=blk_frozen BK126.out 1
    have hfz8_2:=blk_frozen BK126.out 2
    have hfz8_3:=blk_frozen BK126.out 3
    go_wp2
    repeat (go_quiet (fail);try go_wp2)
    go_meet
    case rel=>exact ⟨_,(false),(by first|rfl|(simp;done)|(simp [*];done)),H',⟨by first|omega|exact Nat.le_refl _⟩,⟨by (with_reducible repeat (first|refine blk_drewN ?_ _|refine blk_drew ?_|refine blk_alloc ?_ _));exact BK126.out⟩,⟨by repeat (first|(with_reducible first|exact HB.out|apply below_alloc|apply pw_below_drewN|apply below_drew1|refine below_set ?_ GE126.out)|exact HB.out)⟩⟩
 case rest =>
  clear HC2
  try clear p2
  try clear c4
  try clear c4b0
  try clear c4b1
  try clear c6
  try clear c6b0
  try clear c6b1
  try clear c7
  try clear hcz5_0
  try clear hcz5_1
  try clear hcz5_2
  try clear hcz5_3
  try clear hcz7_0
  try clear hcz7_1
  try clear hcz7_2
  try clear hcz7_3
  try clear hcz8_0
  try clear hcz8_1
  try clear hcz8_2
  try clear hcz8_3
  try clear hfz5_0
  try clear hfz5_1
  try clear hfz5_2
  try clear hfz5_3
  try clear hfz7_0
  try clear hfz7_1
  try clear hfz7_2
  try clear hfz7_3
  try clear hfz8_0
  try clear hfz8_1
  try clear hfz8_2
  try clear hfz8_3
  obtain ⟨kq,x19_1,rfl,HA,HJ1,BK126,HB⟩:=hcut
  cases kq with
  | zero=>exact absurd HA.out (by simp [spec_l2pairs.j0])
  | succ kj1 =>
   have H:=HA.out
   clear HA
   simp only [spec_l2pairs.j0] at H
   by_cases c9 : x19_1 = true
   ·subst c9
    have H1 : (some false) = some r:=by rw [if_pos rfl] at H;exact H
    clear H
    have H:=H1
    clear H1
    obtain rfl:=Option.some.inj H
    go_wp2
    repeat (go_quiet (fail);try go_wp2)
    go_ret
    exact ⟨by first|rfl|(simp [errW_none,errW_some] <;> rfl)|(simp [*,errW_none,errW_some] <;> rfl),by repeat (first|(with_reducible first|exact HB.out|apply below_alloc|apply pw_below_drewN|apply below_drew1|refine below_set ?_ GE126.out)|exact HB.out)⟩
   ·replace c9:=Bool.eq_false_iff.mpr c9
    subst c9
    have H1 : (spec_l2pairs.l0 kj1 0 a0_0 a0_1 a0_2 l0_3) = some r:=by rw [if_neg (show ¬ (false = true) by decide)] at H;exact H
    clear H
    have H:=H1
    clear H1
    have H':=Aside0.mk H
    clear H
    go_wp2
    repeat (go_quiet (fail);try go_wp2)
    go_loopg [3] kj1 (fun kq v3 w'=>∃ (x3_2 : Int),v3 = .int .i64 x3_2 ∧ Aside0 (spec_l2pairs.l0 kq x3_2 a0_0 a0_1 a0_2 l0_3 = some r) ∧ Aside0 (kq ≤ kj1) ∧ Aside0 (w'.heap[gb126]? = some (.cells #[.int .i64 a0_0,.bool a0_1,.string a0_2,(.slice A0_3 l0_3.length c0_3)] 49 (0,0))) ∧ Aside0 (Below w.heap.size w w'))
    case atStart=>exact ⟨(0),(by first|rfl|(simp;done)|(simp [*];done)),H',⟨Nat.le_refl _⟩,⟨by (with_reducible repeat (first|refine blk_drewN ?_ _|refine blk_drew ?_|refine blk_alloc ?_ _));exact BK126.out⟩,⟨by repeat (first|(with_reducible first|exact HB.out|apply below_alloc|apply pw_below_drewN|apply below_drew1|refine below_set ?_ GE126.out)|exact HB.out)⟩⟩
    case round =>
     clear H'
     try clear p2
     try clear c4
     try clear c4b0
     try clear c4b1
     try clear c6
     try clear c6b0
     try clear c6b1
     try clear c7
     try clear c9
     try clear hcz5_0
     try clear hcz5_1
     try clear hcz5_2
     try clear hcz5_3
     try clear hcz7_0
     try clear hcz7_1
     try clear hcz7_2
     try clear hcz7_3
     try clear hcz8_0
     try clear hcz8_1
     try clear hcz8_2
     try clear hcz8_3
     try clear hfz5_0
     try clear hfz5_1
     try clear hfz5_2
     try clear hfz5_3
     try clear hfz7_0
     try clear hfz7_1
     try clear hfz7_2
     try clear hfz7_3
     try clear hfz8_0
     try clear hfz8_1
     try clear hfz8_2
     try clear hfz8_3
     try clear p2
     obtain ⟨x3_2,rfl,HA,HK2,BK126,HB⟩:=hrel
     cases gk with
     | zero=>exact absurd HA.out (by simp [spec_l2pairs.l0])
     | succ k2 =>
      have H:=HA.out
      clear HA
      simp only [spec_l2pairs.l0] at H
      by_cases c10 : (wrap64 (x3_2 + 1)) < (a0_2.size : Int)
      ·rw [if_pos c10] at H
       have c10b0 : decide ((wrap64 (x3_2 + 1)) < (a0_2.size : Int)) = true:=decide_eq_true c10
       clear c10
       obtain ⟨ji11,hji11⟩ : ∃ j_ : Int,(wrap64 (x3_2 + 1)) = j_:=⟨_,rfl⟩
       replace H : (if 0 ≤ (ji11) then (if 0 ≤ x3_2 then (if x3_2 < (a0_2.size : Int) then (if (bt a0_2 (ji11)) < (bt a0_2 x3_2) then (some false) else (spec_l2pairs.l0 k2 (wrap64 (x3_2 + 2)) a0_0 a0_1 a0_2 l0_3)) else (none)) else (none)) else (none)) = some r:=by first|(rw [hji11] at H;exact H)|(simp only [hji11] at H ⊢;exact H)
       (try rw [hji11] at c10b0)
       have hji11w : (IntKind.i64.wrap (x3_2 + 1)) = ji11:=(i64_w _).trans hji11
       by_cases c12 : 0 ≤ (ji11)
       ·rw [if_pos c12] at H
        have c12b0 : decide (0 ≤ (ji11)) = true:=decide_eq_true c12
        clear c12
        by_cases c14 : 0 ≤ x3_2
        ·rw [if_pos c14] at H
         have c14b0 : decide (0 ≤ x3_2) = true:=decide_eq_true c14
         clear c14
         by_cases c15 : x3_2 < (a0_2.size : Int)
         ·rw [if_pos c15] at H
          have c15b0 : decide (x3_2 < (a0_2.size : Int)) = true:=decide_eq_true c15
          clear c15
          by_cases c17 : (bt a0_2 (ji11)) < (bt a0_2 x3_2)
          ·rw [if_pos c17] at H
           have c17b0 : decide ((bt a0_2 (ji11)) < (bt a0_2 x3_2)) = true:=decide_eq_true c17
           clear c17
           obtain rfl:=Option.some.inj H
           have hcz18_0 : wr.cell? ⟨gb126,0,none⟩ = some (.int .i64 a0_0):=(blk_cell BK126.out 0).trans rfl
           have hcz18_1 : wr.cell? ⟨gb126,1,none⟩ = some (.bool a0_1):=(blk_cell BK126.out 1).trans rfl
           have hcz18_2 : wr.cell? ⟨gb126,2,none⟩ = some (.string a0_2):=(blk_cell BK126.out 2).trans rfl
           have hcz18_3 : wr.cell? ⟨gb126,3,none⟩ = some (.slice A0_3 l0_3.length c0_3):=(blk_cell BK126.out 3).trans rfl
           have hfz18_0:=blk_frozen BK126.out 0
           have hfz18_1:=blk_frozen BK126.out 1
           have hfz18_2:=blk_frozen BK126.out 2
           have hfz18_3:=blk_frozen BK126.out 3
           have p13 : 0 ≤ ((ji11) : Int):=of_decide_eq_true (by first|(with_reducible assumption)|assumption)
           have q13 : (ji11) < (a0_2.size : Int):=of_decide_eq_true (by first|(with_reducible assumption)|assumption)
           have hx13:=bt_at a0_2 (ji11)
           replace p13:=eq_true p13
           replace q13:=eq_true q13
           have p16 : 0 ≤ (x3_2 : Int):=of_decide_eq_true (by first|(with_reducible assumption)|assumption)
           have q16 : x3_2 < (a0_2.size : Int):=of_decide_eq_true (by first|(with_reducible assumption)|assumption)
           have hx16:=bt_at a0_2 x3_2
           replace p16:=eq_true p16
           replace q16:=eq_true q16
           go_wp2
           repeat (go_quiet (fail);try go_wp2)
           go_ret
           exact ⟨by first|rfl|(simp [errW_none,errW_some] <;> rfl)|(simp only [← hji11];first|rfl|(simp [errW_none,errW_some] <;> rfl))|(simp [*,errW_none,errW_some] <;> rfl),by repeat (first|(with_reducible first|exact HB.out|apply below_alloc|apply pw_below_drewN|apply below_drew1|refine below_set ?_ GE126.out)|exact HB.out)⟩
          ·rw [if_neg c17] at H
           have c17b0 : decide ((bt a0_2 (ji11)) < (bt a0_2 x3_2)) = false:=decide_eq_false c17
           clear c17
           have H':=Aside0.mk H
           clear H
           have hcz19_0 : wr.cell? ⟨gb126,0,none⟩ = some (.int .i64 a0_0):=(blk_cell BK126.out 0).trans rfl
           have hcz19_1 : wr.cell? ⟨gb126,1,none⟩ = some (.bool a0_1):=(blk_cell BK126.out 1).trans rfl
           have hcz19_2 : wr.cell? ⟨gb126,2,none⟩ = some (.string a0_2):=(blk_cell BK126.out 2).trans rfl
           have hcz19_3 : wr.cell? ⟨gb126,3,none⟩ = some (.slice A0_3 l0_3.length c0_3):=(blk_cell BK126.out 3).trans rfl
           have hfz19_0:=blk_frozen BK126.out 0
           have hfz19_1:=blk_frozen BK126.out 1
           have hfz19_2:=blk_frozen BK126.out 2
           have hfz19_3:=blk_frozen BK126.out 3
           have p13 : 0 ≤ ((ji11) : Int):=of_decide_eq_true (by first|(with_reducible assumption)|assumption)
           have q13 : (ji11) < (a0_2.size : Int):=of_decide_eq_true (by first|(with_reducible assumption)|assumption)
           have hx13:=bt_at a0_2 (ji11)
           replace p13:=eq_true p13
           replace q13:=eq_true q13
           have p16 : 0 ≤ (x3_2 : Int):=of_decide_eq_true (by first|(with_reducible assumption)|assumption)
           have q16 : x3_2 < (a0_2.size : Int):=of_decide_eq_true (by first|(with_reducible assumption)|assumption)
           have hx16:=bt_at a0_2 x3_2
           replace p16:=eq_true p16
           replace q16:=eq_true q16
           go_wp2
           repeat (go_quiet (fail);try go_wp2)
           go_roundg k2
           case measure=>have:=HJ1.out;have:=HK2.out;omega
           case rel=>exact ⟨(wrap64 (x3_2 + 2)),(by first|rfl|(simp;done)|(simp [*];done)),H',⟨by have:=HJ1.out;have:=HK2.out;omega⟩,⟨by (with_reducible repeat (first|refine blk_drewN ?_ _|refine blk_drew ?_|refine blk_alloc ?_ _));exact BK126.out⟩,⟨by repeat (first|(with_reducible first|exact HB.out|apply below_alloc|apply pw_below_drewN|apply below_drew1|refine below_set ?_ GE126.out)|exact HB.out)⟩⟩
         ·rw [if_neg c15] at H
          exact absurd H (by simp)
        ·rw [if_neg c14] at H
         exact absurd H (by simp)
       ·rw [if_neg c12] at H
        exact absurd H (by simp)
      ·rw [if_neg c10] at H
       have c10b0 : decide ((wrap64 (x3_2 + 1)) < (a0_2.size : Int)) = false:=decide_eq_false c10
       clear c10
       obtain rfl:=Option.some.inj H
       have hcz20_0 : wr.cell? ⟨gb126,0,none⟩ = some (.int .i64 a0_0):=(blk_cell BK126.out 0).trans rfl
       have hcz20_1 : wr.cell? ⟨gb126,1,none⟩ = some (.bool a0_1):=(blk_cell BK126.out 1).trans rfl
       have hcz20_2 : wr.cell? ⟨gb126,2,none⟩ = some (.string a0_2):=(blk_cell BK126.out 2).trans rfl
       have hcz20_3 : wr.cell? ⟨gb126,3,none⟩ = some (.slice A0_3 l0_3.length c0_3):=(blk_cell BK126.out 3).trans rfl
       have hfz20_0:=blk_frozen BK126.out 0
       have hfz20_1:=blk_frozen BK126.out 1
       have hfz20_2:=blk_frozen BK126.out 2
       have hfz20_3:=blk_frozen BK126.out 3
       go_wp2
       repeat (go_quiet (fail);try go_wp2)
       go_ret
       exact ⟨by first|rfl|(simp [errW_none,errW_some] <;> rfl)|(simp [*,errW_none,errW_some] <;> rfl),by repeat (first|(with_reducible first|exact HB.out|apply below_alloc|apply pw_below_drewN|apply below_drew1|refine below_set ?_ GE126.out)|exact HB.out)⟩
mutual
def spec_l2kidsOk.j0 : Nat → Int → Bool → Int → Bool → ByteArray → List Int → Option (Bool)
 | 0,_,_,_,_,_,_=>none
 | k + 1,x4,x15,x128000,x128001,x128002,x128003=>if x15 = true then (if (x128003.length : Int) = 0 then (if x128001 = true then (some false) else (some (x128002.toList == ([] : List UInt8)))) else (some false)) else (if x4 = 3 then (spec_l2kidsOk.j1 k x4 (x4 == 3) x128000 x128001 x128002 x128003) else (spec_l2kidsOk.j1 k x4 (x4 == 4) x128000 x128001 x128002 x128003))
def spec_l2kidsOk.j1 : Nat → Int → Bool → Int → Bool → ByteArray → List Int → Option (Bool)
 | 0,_,_,_,_,_,_=>none
 | k + 1,x4,x32,x128000,x128001,x128002,x128003=>if x32 = true then (if (x128003.length : Int) ≥ 2 then (if x128001 = true then (some false) else (some (x128002.toList == ([] : List UInt8)))) else (some false)) else (if x4 = 5 then (if (x128003.length : Int) = 1 then (if x128001 = true then (some false) else (some (x128002.toList == ([] : List UInt8)))) else (some false)) else (if x4 = 6 then (if (x128003.length : Int) = 1 then (if x128001 = true then (some false) else (some (x128002.toList == ([] : List UInt8)))) else (some false)) else (if x4 = 7 then (if (x128003.length : Int) = 1 then (if x128001 = true then (some false) else (some (x128002.toList == ([] : List UInt8)))) else (some false)) else (some false))))
end
def spec_l2kidsOk.f (k : Nat) (a0_0 : Int) (a0_1 : Bool) (a0_2 : ByteArray) (l0_3 : List Int) : Option (Bool):=if a0_0 = 0 then (if (l0_3.length : Int) = 0 then ((spec_l2pairs.f k a0_0 a0_1 a0_2 l0_3).bind fun t128=>(some t128)) else (some false)) else (if a0_0 = 1 then (spec_l2kidsOk.j0 k a0_0 (a0_0 == 1) a0_0 a0_1 a0_2 l0_3) else (spec_l2kidsOk.j0 k a0_0 (a0_0 == 2) a0_0 a0_1 a0_2 l0_3))
theorem spec_l2kidsOk.mono_l : ∀ k,(∀ y0 y1 y2 y3 y4 y5,LeO (spec_l2kidsOk.j0 k y0 y1 y2 y3 y4 y5) (spec_l2kidsOk.j0 (k + 1) y0 y1 y2 y3 y4 y5)) ∧ (∀ y0 y1 y2 y3 y4 y5,LeO (spec_l2kidsOk.j1 k y0 y1 y2 y3 y4 y5) (spec_l2kidsOk.j1 (k + 1) y0 y1 y2 y3 y4 y5))
 | 0=>⟨fun _ _ _ _ _ _ r h=>by simp [spec_l2kidsOk.j0] at h,fun _ _ _ _ _ _ r h=>by simp [spec_l2kidsOk.j1] at h⟩
 | k + 1=>by
  obtain ⟨ih0,ih1⟩:=spec_l2kidsOk.mono_l k
  refine ⟨?_,?_⟩
  ·intro y0 y1 y2 y3 y4 y5
   unfold spec_l2kidsOk.j0
   repeat' first
   | (with_reducible exact ih0 _ _ _ _ _ _)
   | (with_reducible exact ih1 _ _ _ _ _ _)
   | (with_reducible exact spec_l2pairs.mono _ _ _ _ _)
   | (with_reducible exact LeO.refl _)
   | (with_reducible exact LeO.none _)
   | (with_reducible refine LeO.ite ?_ ?_)
   | (with_reducible refine LeO.bind ?_ (fun _=>?_))
   | exact ih0 _ _ _ _ _ _
   | exact ih1 _ _ _ _ _ _
   | exact spec_l2pairs.mono _ _ _ _ _
   | exact LeO.none _
   | refine LeO.ite ?_ ?_
   | refine LeO.bind ?_ (fun _=>?_)
  ·intro y0 y1 y2 y3 y4 y5
   unfold spec_l2kidsOk.j1
   repeat' first
   | (with_reducible exact ih0 _ _ _ _ _ _)
   | (with_reducible exact ih1 _ _ _ _ _ _)
   | (with_reducible exact spec_l2pairs.mono _ _ _ _ _)
   | (with_reducible exact LeO.refl _)
   | (with_reducible exact LeO.none _)
   | (with_reducible refine LeO.ite ?_ ?_)
   | (with_reducible refine LeO.bind ?_ (fun _=>?_))
   | exact ih0 _ _ _ _ _ _
   | exact ih1 _ _ _ _ _ _
   | exact spec_l2pairs.mono _ _ _ _ _
   | exact LeO.none _
   | refine LeO.ite ?_ ?_
   | refine LeO.bind ?_ (fun _=>?_)
theorem spec_l2kidsOk.mono : ∀ a0 a1 a2 a3 k,LeO (spec_l2kidsOk.f k a0 a1 a2 a3) (spec_l2kidsOk.f (k + 1) a0 a1 a2 a3):=by
 intro a0 a1 a2 a3 k
 obtain ⟨ih0,ih1⟩:=spec_l2kidsOk.mono_l k
 unfold spec_l2kidsOk.f
 repeat' first
   | (with_reducible exact ih0 _ _ _ _ _ _)
   | (with_reducible exact ih1 _ _ _ _ _ _)
   | (with_reducible exact spec_l2pairs.mono _ _ _ _ _)
   | (with_reducible exact LeO.refl _)
   | (with_reducible exact LeO.none _)
   | (with_reducible refine LeO.ite ?_ ?_)
   | (with_reducible refine LeO.bind ?_ (fun _=>?_))
   | exact ih0 _ _ _ _ _ _
   | exact ih1 _ _ _ _ _ _
   | exact spec_l2pairs.mono _ _ _ _ _
   | exact LeO.none _
   | refine LeO.ite ?_ ?_
   | refine LeO.bind ?_ (fun _=>?_)
set_option maxHeartbeats 8000000 in
set_option maxRecDepth 100000 in
theorem spec_l2kidsOk.calls (k : Nat) (a0_0 : Int) (a0_1 : Bool) (a0_2 : ByteArray) (A0_3 : Option Addr) (c0_3 : Nat) (l0_3 : List Int) (r : Bool) (w : World) (hr0_3 : Kd.C (Kd.int .i64) w A0_3 l0_3.length l0_3) (hc0_3 : l0_3.length ≤ c0_3) (h : spec_l2kidsOk.f k a0_0 a0_1 a0_2 l0_3 = some r) :
  Calls Tryd.prog 52 #[.agg #[.int .i64 a0_0,.bool a0_1,.string a0_2,.slice A0_3 l0_3.length c0_3]] w fun e w'=>e = .returned (.bool r) ∧ Below w.heap.size w w':=by
 have hu49:=Tryd.underlying49
 have HR0_3:=Aside0.mk hr0_3
 have HC0_3:=Aside0.mk hc0_3
 clear hr0_3 hc0_3
 have HB:=Aside0.mk (Below.refl w.heap.size w)
 have H : (if a0_0 = 0 then (if (l0_3.length : Int) = 0 then ((spec_l2pairs.f k a0_0 a0_1 a0_2 l0_3).bind fun t128=>(some t128)) else (some false)) else (if a0_0 = 1 then (spec_l2kidsOk.j0 k a0_0 (a0_0 == 1) a0_0 a0_1 a0_2 l0_3) else (spec_l2kidsOk.j0 k a0_0 (a0_0 == 2) a0_0 a0_1 a0_2 l0_3))) = some r:=h
 clear h
 by_cases c2 : a0_0 = 0
 ·rw [if_pos c2] at H
  have c2b0 : (a0_0 == 0) = true:=beq_iff_eq.mpr c2
  have c2b1 : (a0_0 != 0) = false:=bne_eq_false_iff_eq.mpr c2
  clear c2
  by_cases c3 : (l0_3.length : Int) = 0
  ·rw [if_pos c3] at H
   have c3b0 : ((l0_3.length : Int) == 0) = true:=beq_iff_eq.mpr c3
   have c3b1 : ((l0_3.length : Int) != 0) = false:=bne_eq_false_iff_eq.mpr c3
   clear c3
   replace H:=Option.bind_eq_some_iff.mp H
   obtain ⟨t128,A40,H⟩:=H
   replace H : (some t128) = some r:=H
   have A4:=Aside0.mk A40
   clear A40
   obtain rfl:=Option.some.inj H
   go_enter Tryd.func52,Tryd.ntmps52
   go_wp2_with (first|((with_reducible refine gate_dst (N:=1) rfl ?_);refine box_event ?hg (N:=1) ?hd (cs:=#[.int .i64 a0_0,.bool a0_1,.string a0_2,.slice A0_3 l0_3.length c0_3]) (t:=49) ?hr ?_;(case hd=>rfl);(case hg=>rfl);(case hr=>first|(go_simp;done)|(go_simp;rfl));intro gb127 hg w5 hbox hb;have n0_:=Aside0.mk (below_step (by repeat (first|(with_reducible first|exact HB.out|apply below_alloc|apply pw_below_drewN|apply below_drew1)|exact HB.out)) hb);have n1_:=Aside0.mk (hbox);have n2_:=Aside0.mk ((by rw [hg];exact (below_size (by repeat (first|(with_reducible first|exact HB.out|apply below_alloc|apply pw_below_drewN|apply below_drew1)|exact HB.out))) : w.heap.size ≤ gb127));have n3_:=Aside0.mk ((by rw [hg];exact (below_size (by repeat (first|(with_reducible first|exact HB.out|apply below_alloc|apply pw_below_drewN|apply below_drew1)|exact HB.out))) : w.heap.size ≤ gb127));clear HB;have HB:=n0_;have BK127:=n1_;have GW127:=n2_;have GE127:=n3_;clear n0_ n1_ n2_ n3_;clear hb hbox hg;have hcz6_0 : w5.cell? ⟨gb127,0,none⟩ = some (.int .i64 a0_0):=(blk_cell BK127.out 0).trans rfl;have hcz6_1 : w5.cell? ⟨gb127,1,none⟩ = some (.bool a0_1):=(blk_cell BK127.out 1).trans rfl;have hcz6_2 : w5.cell? ⟨gb127,2,none⟩ = some (.string a0_2):=(blk_cell BK127.out 2).trans rfl;have hcz6_3 : w5.cell? ⟨gb127,3,none⟩ = some (.slice A0_3 l0_3.length c0_3):=(blk_cell BK127.out 3).trans rfl;have hfz6_0:=blk_frozen BK127.out 0;have hfz6_1:=blk_frozen BK127.out 1;have hfz6_2:=blk_frozen BK127.out 2;have hfz6_3:=blk_frozen BK127.out 3)|(go_at_call 70;(with_reducible refine (spec_l2pairs.calls k a0_0 a0_1 a0_2 _ _ l0_3 t128 _ ?side1 ?side2 A4.out).mono ?_);(case side1=>repeat (first|exact (Kd.C_below HR0_3.out HB.out)|(with_reducible refine Kd.C_alloc ?_ _)|(with_reducible refine Kd.C_drewN ?_ _)|(with_reducible refine Kd.C_drew ?_)));(case side2=>exact HC0_3.out);rintro e w7 ⟨rfl,hb⟩;have n0_:=Aside0.mk (blk_below (g:=gb127) (o:=.cells #[.int .i64 a0_0,.bool a0_1,.string a0_2,.slice A0_3 l0_3.length c0_3] 49 (0,0)) (by (with_reducible repeat (first|refine blk_drewN ?_ _|refine blk_drew ?_|refine blk_alloc ?_ _));exact BK127.out) hb);have n1_:=Aside0.mk (below_step (by repeat (first|(with_reducible first|exact HB.out|apply below_alloc|apply pw_below_drewN|apply below_drew1|refine below_set ?_ GE127.out)|exact HB.out)) hb);clear BK127;clear HB;have BK127:=n0_;have HB:=n1_;clear n0_ n1_;(try clear hb);(try clear hb2);(try clear hk);(try clear hi)))
   go_ret
   exact ⟨by first|rfl|(simp [errW_none,errW_some] <;> rfl)|(simp [*,errW_none,errW_some] <;> rfl),by repeat (first|(with_reducible first|exact HB.out|apply below_alloc|apply pw_below_drewN|apply below_drew1|refine below_set ?_ GE127.out)|exact HB.out)⟩
  ·rw [if_neg c3] at H
   have c3b0 : ((l0_3.length : Int) == 0) = false:=beq_eq_false_iff_ne.mpr c3
   have c3b1 : ((l0_3.length : Int) != 0) = true:=bne_iff_ne.mpr c3
   have c3b2 : ¬ (l0_3 = []):=fun h_=>c3 (by rw [h_];rfl)
   obtain rfl:=Option.some.inj H
   go_enter Tryd.func52,Tryd.ntmps52
   go_wp2_with (first|((with_reducible refine gate_dst (N:=1) rfl ?_);refine box_event ?hg (N:=1) ?hd (cs:=#[.int .i64 a0_0,.bool a0_1,.string a0_2,.slice A0_3 l0_3.length c0_3]) (t:=49) ?hr ?_;(case hd=>rfl);(case hg=>rfl);(case hr=>first|(go_simp;done)|(go_simp;rfl));intro gb127 hg w8 hbox hb;have n0_:=Aside0.mk (below_step (by repeat (first|(with_reducible first|exact HB.out|apply below_alloc|apply pw_below_drewN|apply below_drew1)|exact HB.out)) hb);have n1_:=Aside0.mk (hbox);have n2_:=Aside0.mk ((by rw [hg];exact (below_size (by repeat (first|(with_reducible first|exact HB.out|apply below_alloc|apply pw_below_drewN|apply below_drew1)|exact HB.out))) : w.heap.size ≤ gb127));have n3_:=Aside0.mk ((by rw [hg];exact (below_size (by repeat (first|(with_reducible first|exact HB.out|apply below_alloc|apply pw_below_drewN|apply below_drew1)|exact HB.out))) : w.heap.size ≤ gb127));clear HB;have HB:=n0_;have BK127:=n1_;have GW127:=n2_;have GE127:=n3_;clear n0_ n1_ n2_ n3_;clear hb hbox hg;have hcz9_0 : w8.cell? ⟨gb127,0,none⟩ = some (.int .i64 a0_0):=(blk_cell BK127.out 0).trans rfl;have hcz9_1 : w8.cell? ⟨gb127,1,none⟩ = some (.bool a0_1):=(blk_cell BK127.out 1).trans rfl;have hcz9_2 : w8.cell? ⟨gb127,2,none⟩ = some (.string a0_2):=(blk_cell BK127.out 2).trans rfl;have hcz9_3 : w8.cell? ⟨gb127,3,none⟩ = some (.slice A0_3 l0_3.length c0_3):=(blk_cell BK127.out 3).trans rfl;have hfz9_0:=blk_frozen BK127.out 0;have hfz9_1:=blk_frozen BK127.out 1;have hfz9_2:=blk_frozen BK127.out 2;have hfz9_3:=blk_frozen BK127.out 3))
   go_ret
   exact ⟨by first|rfl|(simp [errW_none,errW_some] <;> rfl)|(simp [*,errW_none,errW_some] <;> rfl),by repeat (first|(with_reducible first|exact HB.out|apply below_alloc|apply pw_below_drewN|apply below_drew1|refine below_set ?_ GE127.out)|exact HB.out)⟩
 ·rw [if_neg c2] at H
  have c2b0 : (a0_0 == 0) = false:=beq_eq_false_iff_ne.mpr c2
  have c2b1 : (a0_0 != 0) = true:=bne_iff_ne.mpr c2
  have HC10:=Aside0.mk H
  clear H
  go_enter Tryd.func52,Tryd.ntmps52
  go_upto_if 15 with (first|((with_reducible refine gate_dst (N:=1) rfl ?_);refine box_event ?hg (N:=1) ?hd (cs:=#[.int .i64 a0_0,.bool a0_1,.string a0_2,.slice A0_3 l0_3.length c0_3]) (t:=49) ?hr ?_;(case hd=>rfl);(case hg=>rfl);(case hr=>first|(go_simp;done)|(go_simp;rfl));intro gb127 hg w11 hbox hb;have n0_:=Aside0.mk (below_step (by repeat (first|(with_reducible first|exact HB.out|apply below_alloc|apply pw_below_drewN|apply below_drew1)|exact HB.out)) hb);have n1_:=Aside0.mk (hbox);have n2_:=Aside0.mk ((by rw [hg];exact (below_size (by repeat (first|(with_reducible first|exact HB.out|apply below_alloc|apply pw_below_drewN|apply below_drew1)|exact HB.out))) : w.heap.size ≤ gb127));have n3_:=Aside0.mk ((by rw [hg];exact (below_size (by repeat (first|(with_reducible first|exact HB.out|apply below_alloc|apply pw_below_drewN|apply below_drew1)|exact HB.out))) : w.heap.size ≤ gb127));clear HB;have HB:=n0_;have BK127:=n1_;have GW127:=n2_;have GE127:=n3_;clear n0_ n1_ n2_ n3_;clear hb hbox hg;have hcz12_0 : w11.cell? ⟨gb127,0,none⟩ = some (.int .i64 a0_0):=(blk_cell BK127.out 0).trans rfl;have hcz12_1 : w11.cell? ⟨gb127,1,none⟩ = some (.bool a0_1):=(blk_cell BK127.out 1).trans rfl;have hcz12_2 : w11.cell? ⟨gb127,2,none⟩ = some (.string a0_2):=(blk_cell BK127.out 2).trans rfl;have hcz12_3 : w11.cell? ⟨gb127,3,none⟩ = some (.slice A0_3 l0_3.length c0_3):=(blk_cell BK127.out 3).trans rfl;have hfz12_0:=blk_frozen BK127.out 0;have hfz12_1:=blk_frozen BK127.out 1;have hfz12_2:=blk_frozen BK127.out 2;have hfz12_3:=blk_frozen BK127.out 3))
  (try simp only [Act.put,List.setIfInBounds_toArray,List.set_cons_zero,List.set_cons_succ])
  go_cut [15] (fun v15 wc=>∃ (kq : Nat) (x15_9 : Bool),v15 = .bool x15_9 ∧ Aside0 (spec_l2kidsOk.j0 kq a0_0 x15_9 a0_0 a0_1 a0_2 l0_3 = some r) ∧ Aside0 (kq ≤ k) ∧ Aside0 (wc.heap[gb127]? = some (.cells #[.int .i64 a0_0,.bool a0_1,.string a0_2,(.slice A0_3 l0_3.length c0_3)] 49 (0,0))) ∧ Aside0 (Below w.heap.size w wc))
  case first =>
   have H:=HC10.out
   clear HC10
   by_cases c13 : a0_0 = 1
   ·rw [if_pos c13] at H
    have c13b0 : (a0_0 == 1) = true:=beq_iff_eq.mpr c13
    have c13b1 : (a0_0 != 1) = false:=bne_eq_false_iff_eq.mpr c13
    clear c13
    (first|rw [c13b0]|(simp only [i64_w,i32_w];rw [c13b0])|skip)
    have H':=Aside0.mk H
    clear H
    go_wp2
    go_meet
    case rel=>exact ⟨_,((a0_0 == 1)),(by first|rfl|(simp;done)|(simp [*];done)),H',⟨by first|omega|exact Nat.le_refl _⟩,⟨by (with_reducible repeat (first|refine blk_drewN ?_ _|refine blk_drew ?_|refine blk_alloc ?_ _));exact BK127.out⟩,⟨by repeat (first|(with_reducible first|exact HB.out|apply below_alloc|apply pw_below_drewN|apply below_drew1|refine below_set ?_ GE127.out)|exact HB.out)⟩⟩
   ·rw [if_neg c13] at H
    have c13b0 : (a0_0 == 1) = false:=beq_eq_false_iff_ne.mpr c13
    have c13b1 : (a0_0 != 1) = true:=bne_iff_ne.mpr c13
    (first|rw [c13b0]|(simp only [i64_w,i32_w];rw [c13b0])|skip)
    have H':=Aside0.mk H
    clear H
    go_wp2
    go_meet
    case rel=>exact ⟨_,((a0_0 == 2)),(by first|rfl|(simp;done)|(simp [*];done)),H',⟨by first|omega|exact Nat.le_refl _⟩,⟨by (with_reducible repeat (first|refine blk_drewN ?_ _|refine blk_drew ?_|refine blk_alloc ?_ _));exact BK127.out⟩,⟨by repeat (first|(with_reducible first|exact HB.out|apply below_alloc|apply pw_below_drewN|apply below_drew1|refine below_set ?_ GE127.out)|exact HB.out)⟩⟩
  case rest =>
   clear HC10
   try clear c1
   try clear c2
   try clear c2b0
   try clear c2b1
   try clear p2
   try clear c3
   try clear c3b0
   try clear c3b1
   try clear c3b2
   try clear c5
   try clear c13
   try clear c13b0
   try clear c13b1
   try clear hcz12_0
   try clear hcz12_1
   try clear hcz12_2
   try clear hcz12_3
   try clear hcz6_0
   try clear hcz6_1
   try clear hcz6_2
   try clear hcz6_3
   try clear hcz9_0
   try clear hcz9_1
   try clear hcz9_2
   try clear hcz9_3
   try clear hfz12_0
   try clear hfz12_1
   try clear hfz12_2
   try clear hfz12_3
   try clear hfz6_0
   try clear hfz6_1
   try clear hfz6_2
   try clear hfz6_3
   try clear hfz9_0
   try clear hfz9_1
   try clear hfz9_2
   try clear hfz9_3
   obtain ⟨kq,x15_9,rfl,HA,HJ9,BK127,HB⟩:=hcut
   cases kq with
   | zero=>exact absurd HA.out (by simp [spec_l2kidsOk.j0])
   | succ kj9 =>
    have H:=HA.out
    clear HA
    simp only [spec_l2kidsOk.j0] at H
    by_cases c14 : x15_9 = true
    ·subst c14
     have H1 : (if (l0_3.length : Int) = 0 then (if a0_1 = true then (some false) else (some (a0_2.toList == ([] : List UInt8)))) else (some false)) = some r:=by rw [if_pos rfl] at H;exact H
     clear H
     have H:=H1
     clear H1
     by_cases c15 : (l0_3.length : Int) = 0
     ·rw [if_pos c15] at H
      have c15b0 : ((l0_3.length : Int) == 0) = true:=beq_iff_eq.mpr c15
      have c15b1 : ((l0_3.length : Int) != 0) = false:=bne_eq_false_iff_eq.mpr c15
      clear c15
      by_cases c16 : a0_1 = true
      ·subst c16
       have H1 : (some false) = some r:=by rw [if_pos rfl] at H;exact H
       clear H
       have H:=H1
       clear H1
       obtain rfl:=Option.some.inj H
       have hcz17_0 : wc.cell? ⟨gb127,0,none⟩ = some (.int .i64 a0_0):=(blk_cell BK127.out 0).trans rfl
       have hcz17_1 : wc.cell? ⟨gb127,1,none⟩ = some (.bool true):=(blk_cell BK127.out 1).trans rfl
       have hcz17_2 : wc.cell? ⟨gb127,2,none⟩ = some (.string a0_2):=(blk_cell BK127.out 2).trans rfl
       have hcz17_3 : wc.cell? ⟨gb127,3,none⟩ = some (.slice A0_3 l0_3.length c0_3):=(blk_cell BK127.out 3).trans rfl
       have hfz17_0:=blk_frozen BK127.out 0
       have hfz17_1:=blk_frozen BK127.out 1
       have hfz17_2:=blk_frozen BK127.out 2
       have hfz17_3:=blk_frozen BK127.out 3
       go_wp2
       go_ret
       exact ⟨by first|rfl|(simp [errW_none,errW_some] <;> rfl)|(simp [*,errW_none,errW_some] <;> rfl),by repeat (first|(with_reducible first|exact HB.out|apply below_alloc|apply pw_below_drewN|apply below_drew1|refine below_set ?_ GE127.out)|exact HB.out)⟩
      ·replace c16:=Bool.eq_false_iff.mpr c16
       subst c16
       have H1 : (some (a0_2.toList == ([] : List UInt8))) = some r:=by rw [if_neg (show ¬ (false = true) by decide)] at H;exact H
       clear H
       have H:=H1
       clear H1
       obtain rfl:=Option.some.inj H
       have hcz18_0 : wc.cell? ⟨gb127,0,none⟩ = some (.int .i64 a0_0):=(blk_cell BK127.out 0).trans rfl
       have hcz18_1 : wc.cell? ⟨gb127,1,none⟩ = some (.bool false):=(blk_cell BK127.out 1).trans rfl
       have hcz18_2 : wc.cell? ⟨gb127,2,none⟩ = some (.string a0_2):=(blk_cell BK127.out 2).trans rfl
       have hcz18_3 : wc.cell? ⟨gb127,3,none⟩ = some (.slice A0_3 l0_3.length c0_3):=(blk_cell BK127.out 3).trans rfl
       have hfz18_0:=blk_frozen BK127.out 0
       have hfz18_1:=blk_frozen BK127.out 1
       have hfz18_2:=blk_frozen BK127.out 2
       have hfz18_3:=blk_frozen BK127.out 3
       go_wp2
       go_ret
       exact ⟨by first|rfl|(simp [errW_none,errW_some] <;> rfl)|(simp [*,errW_none,errW_some] <;> rfl),by repeat (first|(with_reducible first|exact HB.out|apply below_alloc|apply pw_below_drewN|apply below_drew1|refine below_set ?_ GE127.out)|exact HB.out)⟩
     ·rw [if_neg c15] at H
      have c15b0 : ((l0_3.length : Int) == 0) = false:=beq_eq_false_iff_ne.mpr c15
      have c15b1 : ((l0_3.length : Int) != 0) = true:=bne_iff_ne.mpr c15
      have c15b2 : ¬ (l0_3 = []):=fun h_=>c15 (by rw [h_];rfl)
      obtain rfl:=Option.some.inj H
      have hcz19_0 : wc.cell? ⟨gb127,0,none⟩ = some (.int .i64 a0_0):=(blk_cell BK127.out 0).trans rfl
      have hcz19_1 : wc.cell? ⟨gb127,1,none⟩ = some (.bool a0_1):=(blk_cell BK127.out 1).trans rfl
      have hcz19_2 : wc.cell? ⟨gb127,2,none⟩ = some (.string a0_2):=(blk_cell BK127.out 2).trans rfl
      have hcz19_3 : wc.cell? ⟨gb127,3,none⟩ = some (.slice A0_3 l0_3.length c0_3):=(blk_cell BK127.out 3).trans rfl
      have hfz19_0:=blk_frozen BK127.out 0
      have hfz19_1:=blk_frozen BK127.out 1
      have hfz19_2:=blk_frozen BK127.out 2
      have hfz19_3:=blk_frozen BK127.out 3
      go_wp2
      go_ret
      exact ⟨by first|rfl|(simp [errW_none,errW_some] <;> rfl)|(simp [*,errW_none,errW_some] <;> rfl),by repeat (first|(with_reducible first|exact HB.out|apply below_alloc|apply pw_below_drewN|apply below_drew1|refine below_set ?_ GE127.out)|exact HB.out)⟩
    ·replace c14:=Bool.eq_false_iff.mpr c14
     subst c14
     have H1 : (if a0_0 = 3 then (spec_l2kidsOk.j1 kj9 a0_0 (a0_0 == 3) a0_0 a0_1 a0_2 l0_3) else (spec_l2kidsOk.j1 kj9 a0_0 (a0_0 == 4) a0_0 a0_1 a0_2 l0_3)) = some r:=by rw [if_neg (show ¬ (false = true) by decide)] at H;exact H
     clear H
     have H:=H1
     clear H1
     have HC20:=Aside0.mk H
     clear H
     go_upto_if 32 with (fail)
     go_cut [32] (fun v32 wc=>∃ (kq : Nat) (x32_19 : Bool),v32 = .bool x32_19 ∧ Aside0 (spec_l2kidsOk.j1 kq a0_0 x32_19 a0_0 a0_1 a0_2 l0_3 = some r) ∧ Aside0 (kq ≤ kj9) ∧ Aside0 (wc.heap[gb127]? = some (.cells #[.int .i64 a0_0,.bool a0_1,.string a0_2,(.slice A0_3 l0_3.length c0_3)] 49 (0,0))) ∧ Aside0 (Below w.heap.size w wc))
     case first =>
      have H:=HC20.out
      clear HC20
      by_cases c21 : a0_0 = 3
      ·rw [if_pos c21] at H
       have c21b0 : (a0_0 == 3) = true:=beq_iff_eq.mpr c21
       have c21b1 : (a0_0 != 3) = false:=bne_eq_false_iff_eq.mpr c21
       clear c21
       (first|rw [c21b0]|(simp only [i64_w,i32_w];rw [c21b0])|skip)
       have H':=Aside0.mk H
       clear H
       go_wp2
       go_meet
       case rel=>exact ⟨_,((a0_0 == 3)),(by first|rfl|(simp;done)|(simp [*];done)),H',⟨by have:=HJ9.out;first|omega|exact Nat.le_refl _⟩,⟨by (with_reducible repeat (first|refine blk_drewN ?_ _|refine blk_drew ?_|refine blk_alloc ?_ _));exact BK127.out⟩,⟨by repeat (first|(with_reducible first|exact HB.out|apply below_alloc|apply pw_below_drewN|apply below_drew1|refine below_set ?_ GE127.out)|exact HB.out)⟩⟩
      ·rw [if_neg c21] at H
       have c21b0 : (a0_0 == 3) = false:=beq_eq_false_iff_ne.mpr c21
       have c21b1 : (a0_0 != 3) = true:=bne_iff_ne.mpr c21
       (first|rw [c21b0]|(simp only [i64_w,i32_w];rw [c21b0])|skip)
       have H':=Aside0.mk H
       clear H
       go_wp2
       go_meet
       case rel=>exact ⟨_,((a0_0 == 4)),(by first|rfl|(simp;done)|(simp [*];done)),H',⟨by have:=HJ9.out;first|omega|exact Nat.le_refl _⟩,⟨by (with_reducible repeat (first|refine blk_drewN ?_ _|refine blk_drew ?_|refine blk_alloc ?_ _));exact BK127.out⟩,⟨by repeat (first|(with_reducible first|exact HB.out|apply below_alloc|apply pw_below_drewN|apply below_drew1|refine below_set ?_ GE127.out)|exact HB.out)⟩⟩
     case rest =>
      clear HC20
      try clear c1
      try clear c2
      try clear c2b0
      try clear c2b1
      try clear p2
      try clear c3
      try clear c3b0
      try clear c3b1
      try clear c3b2
      try clear c5
      try clear c13
      try clear c13b0
      try clear c13b1
      try clear c14
      try clear c15
      try clear c15b0
      try clear c15b1
      try clear c15b2
      try clear c16
      try clear c21
      try clear c21b0
      try clear c21b1
      try clear hcz12_0
      try clear hcz12_1
      try clear hcz12_2
      try clear hcz12_3
      try clear hcz17_0
      try clear hcz17_1
      try clear hcz17_2
      try clear hcz17_3
      try clear hcz18_0
      try clear hcz18_1
      try clear hcz18_2
      try clear hcz18_3
      try clear hcz19_0
      try clear hcz19_1
      try clear hcz19_2
      try clear hcz19_3
      try clear hcz6_0
      try clear hcz6_1
      try clear hcz6_2
      try clear hcz6_3
      try clear hcz9_0
      try clear hcz9_1
      try clear hcz9_2
      try clear hcz9_3
      try clear hfz12_0
      try clear hfz12_1
      try clear hfz12_2
      try clear hfz12_3
      try clear hfz17_0
      try clear hfz17_1
      try clear hfz17_2
      try clear hfz17_3
      try clear hfz18_0
      try clear hfz18_1
      try clear hfz18_2
      try clear hfz18_3
      try clear hfz19_0
      try clear hfz19_1
      try clear hfz19_2
      try clear hfz19_3
      try clear hfz6_0
      try clear hfz6_1
      try clear hfz6_2
      try clear hfz6_3
      try clear hfz9_0
      try clear hfz9_1
      try clear hfz9_2
      try clear hfz9_3
      try clear p2
      obtain ⟨kq,x32_19,rfl,HA,HJ19,BK127,HB⟩:=hcut
      cases kq with
      | zero=>exact absurd HA.out (by simp [spec_l2kidsOk.j1])
      | succ kj19 =>
       have H:=HA.out
       clear HA
       simp only [spec_l2kidsOk.j1] at H
       by_cases c22 : x32_19 = true
       ·subst c22
        have H1 : (if (l0_3.length : Int) ≥ 2 then (if a0_1 = true then (some false) else (some (a0_2.toList == ([] : List UInt8)))) else (some false)) = some r:=by rw [if_pos rfl] at H;exact H
        clear H
        have H:=H1
        clear H1
        by_cases c23 : (l0_3.length : Int) ≥ 2
        ·rw [if_pos c23] at H
         have c23b0 : decide (2 ≤ (l0_3.length : Int)) = true:=decide_eq_true c23
         have c23b1 : decide (2 ≤ l0_3.length) = true:=decide_eq_true (by omega)
         clear c23
         by_cases c24 : a0_1 = true
         ·subst c24
          have H1 : (some false) = some r:=by rw [if_pos rfl] at H;exact H
          clear H
          have H:=H1
          clear H1
          obtain rfl:=Option.some.inj H
          have hcz25_0 : wc.cell? ⟨gb127,0,none⟩ = some (.int .i64 a0_0):=(blk_cell BK127.out 0).trans rfl
          have hcz25_1 : wc.cell? ⟨gb127,1,none⟩ = some (.bool true):=(blk_cell BK127.out 1).trans rfl
          have hcz25_2 : wc.cell? ⟨gb127,2,none⟩ = some (.string a0_2):=(blk_cell BK127.out 2).trans rfl
          have hcz25_3 : wc.cell? ⟨gb127,3,none⟩ = some (.slice A0_3 l0_3.length c0_3):=(blk_cell BK127.out 3).trans rfl
          have hfz25_0:=blk_frozen BK127.out 0
          have hfz25_1:=blk_frozen BK127.out 1
          have hfz25_2:=blk_frozen BK127.out 2
          have hfz25_3:=blk_frozen BK127.out 3
          go_wp2
          go_ret
          exact ⟨by first|rfl|(simp [errW_none,errW_some] <;> rfl)|(simp [*,errW_none,errW_some] <;> rfl),by repeat (first|(with_reducible first|exact HB.out|apply below_alloc|apply pw_below_drewN|apply below_drew1|refine below_set ?_ GE127.out)|exact HB.out)⟩
         ·replace c24:=Bool.eq_false_iff.mpr c24
          subst c24
          have H1 : (some (a0_2.toList == ([] : List UInt8))) = some r:=by rw [if_neg (show ¬ (false = true) by decide)] at H;exact H
          clear H
          have H:=H1
          clear H1
          obtain rfl:=Option.some.inj H
          have hcz26_0 : wc.cell? ⟨gb127,0,none⟩ = some (.int .i64 a0_0):=(blk_cell BK127.out 0).trans rfl
          have hcz26_1 : wc.cell? ⟨gb127,1,none⟩ = some (.bool false):=(blk_cell BK127.out 1).trans rfl
          have hcz26_2 : wc.cell? ⟨gb127,2,none⟩ = some (.string a0_2):=(blk_cell BK127.out 2).trans rfl
          have hcz26_3 : wc.cell? ⟨gb127,3,none⟩ = some (.slice A0_3 l0_3.length c0_3):=(blk_cell BK127.out 3).trans rfl
          have hfz26_0:=blk_frozen BK127.out 0
          have hfz26_1:=blk_frozen BK127.out 1
          have hfz26_2:=blk_frozen BK127.out 2
          have hfz26_3:=blk_frozen BK127.out 3
          go_wp2
          go_ret
          exact ⟨by first|rfl|(simp [errW_none,errW_some] <;> rfl)|(simp [*,errW_none,errW_some] <;> rfl),by repeat (first|(with_reducible first|exact HB.out|apply below_alloc|apply pw_below_drewN|apply below_drew1|refine below_set ?_ GE127.out)|exact HB.out)⟩
        ·rw [if_neg c23] at H
         have c23b0 : decide (2 ≤ (l0_3.length : Int)) = false:=decide_eq_false c23
         have c23b1 : decide (2 ≤ l0_3.length) = false:=decide_eq_false (by omega)
         clear c23
         obtain rfl:=Option.some.inj H
         have hcz27_0 : wc.cell? ⟨gb127,0,none⟩ = some (.int .i64 a0_0):=(blk_cell BK127.out 0).trans rfl
         have hcz27_1 : wc.cell? ⟨gb127,1,none⟩ = some (.bool a0_1):=(blk_cell BK127.out 1).trans rfl
         have hcz27_2 : wc.cell? ⟨gb127,2,none⟩ = some (.string a0_2):=(blk_cell BK127.out 2).trans rfl
         have hcz27_3 : wc.cell? ⟨gb127,3,none⟩ = some (.slice A0_3 l0_3.length c0_3):=(blk_cell BK127.out 3).trans rfl
         have hfz27_0:=blk_frozen BK127.out 0
         have hfz27_1:=blk_frozen BK127.out 1
         have hfz27_2:=blk_frozen BK127.out 2
         have hfz27_3:=blk_frozen BK127.out 3
         go_wp2
         go_ret
         exact ⟨by first|rfl|(simp [errW_none,errW_some] <;> rfl)|(simp [*,errW_none,errW_some] <;> rfl),by repeat (first|(with_reducible first|exact HB.out|apply below_alloc|apply pw_below_drewN|apply below_drew1|refine below_set ?_ GE127.out)|exact HB.out)⟩
       ·replace c22:=Bool.eq_false_iff.mpr c22
        subst c22
        have H1 : (if a0_0 = 5 then (if (l0_3.length : Int) = 1 then (if a0_1 = true then (some false) else (some (a0_2.toList == ([] : List UInt8)))) else (some false)) else (if a0_0 = 6 then (if (l0_3.length : Int) = 1 then (if a0_1 = true then (some false) else (some (a0_2.toList == ([] : List UInt8)))) else (some false)) else (if a0_0 = 7 then (if (l0_3.length : Int) = 1 then (if a0_1 = true then (some false) else (some (a0_2.toList == ([] : List UInt8)))) else (some false)) else (some false)))) = some r:=by rw [if_neg (show ¬ (false = true) by decide)] at H;exact H
        clear H
        have H:=H1
        clear H1
        by_cases c28 : a0_0 = 5
        ·rw [if_pos c28] at H
         have c28b0 : (a0_0 == 5) = true:=beq_iff_eq.mpr c28
         have c28b1 : (a0_0 != 5) = false:=bne_eq_false_iff_eq.mpr c28
         clear c28
         by_cases c29 : (l0_3.length : Int) = 1
         ·rw [if_pos c29] at H
          have c29b0 : ((l0_3.length : Int) == 1) = true:=beq_iff_eq.mpr c29
          have c29b1 : ((l0_3.length : Int) != 1) = false:=bne_eq_false_iff_eq.mpr c29
          clear c29
          by_cases c30 : a0_1 = true
          ·subst c30
           have H1 : (some false) = some r:=by rw [if_pos rfl] at H;exact H
           clear H
           have H:=H1
           clear H1
           obtain rfl:=Option.some.inj H
           have hcz31_0 : wc.cell? ⟨gb127,0,none⟩ = some (.int .i64 a0_0):=(blk_cell BK127.out 0).trans rfl
           have hcz31_1 : wc.cell? ⟨gb127,1,none⟩ = some (.bool true):=(blk_cell BK127.out 1).trans rfl
           have hcz31_2 : wc.cell? ⟨gb127,2,none⟩ = some (.string a0_2):=(blk_cell BK127.out 2).trans rfl
           have hcz31_3 : wc.cell? ⟨gb127,3,none⟩ = some (.slice A0_3 l0_3.length c0_3):=(blk_cell BK127.out 3).trans rfl
           have hfz31_0:=blk_frozen BK127.out 0
           have hfz31_1:=blk_frozen BK127.out 1
           have hfz31_2:=blk_frozen BK127.out 2
           have hfz31_3:=blk_frozen BK127.out 3
           go_wp2
           go_ret
           exact ⟨by first|rfl|(simp [errW_none,errW_some] <;> rfl)|(simp [*,errW_none,errW_some] <;> rfl),by repeat (first|(with_reducible first|exact HB.out|apply below_alloc|apply pw_below_drewN|apply below_drew1|refine below_set ?_ GE127.out)|exact HB.out)⟩
          ·replace c30:=Bool.eq_false_iff.mpr c30
           subst c30
           have H1 : (some (a0_2.toList == ([] : List UInt8))) = some r:=by rw [if_neg (show ¬ (false = true) by decide)] at H;exact H
           clear H
           have H:=H1
           clear H1
           obtain rfl:=Option.some.inj H
           have hcz32_0 : wc.cell? ⟨gb127,0,none⟩ = some (.int .i64 a0_0):=(blk_cell BK127.out 0).trans rfl
           have hcz32_1 : wc.cell? ⟨gb127,1,none⟩ = some (.bool false):=(blk_cell BK127.out 1).trans rfl
           have hcz32_2 : wc.cell? ⟨gb127,2,none⟩ = some (.string a0_2):=(blk_cell BK127.out 2).trans rfl
           have hcz32_3 : wc.cell? ⟨gb127,3,none⟩ = some (.slice A0_3 l0_3.length c0_3):=(blk_cell BK127.out 3).trans rfl
           have hfz32_0:=blk_frozen BK127.out 0
           have hfz32_1:=blk_frozen BK127.out 1
           have hfz32_2:=blk_frozen BK127.out 2
           have hfz32_3:=blk_frozen BK127.out 3
           go_wp2
           go_ret
           exact ⟨by first|rfl|(simp [errW_none,errW_some] <;> rfl)|(simp [*,errW_none,errW_some] <;> rfl),by repeat (first|(with_reducible first|exact HB.out|apply below_alloc|apply pw_below_drewN|apply below_drew1|refine below_set ?_ GE127.out)|exact HB.out)⟩
         ·rw [if_neg c29] at H
          have c29b0 : ((l0_3.length : Int) == 1) = false:=beq_eq_false_iff_ne.mpr c29
          have c29b1 : ((l0_3.length : Int) != 1) = true:=bne_iff_ne.mpr c29
          obtain rfl:=Option.some.inj H
          have hcz33_0 : wc.cell? ⟨gb127,0,none⟩ = some (.int .i64 a0_0):=(blk_cell BK127.out 0).trans rfl
          have hcz33_1 : wc.cell? ⟨gb127,1,none⟩ = some (.bool a0_1):=(blk_cell BK127.out 1).trans rfl
          have hcz33_2 : wc.cell? ⟨gb127,2,none⟩ = some (.string a0_2):=(blk_cell BK127.out 2).trans rfl
          have hcz33_3 : wc.cell? ⟨gb127,3,none⟩ = some (.slice A0_3 l0_3.length c0_3):=(blk_cell BK127.out 3).trans rfl
          have hfz33_0:=blk_frozen BK127.out 0
          have hfz33_1:=blk_frozen BK127.out 1
          have hfz33_2:=blk_frozen BK127.out 2
          have hfz33_3:=blk_frozen BK127.out 3
          go_wp2
          go_ret
          exact ⟨by first|rfl|(simp [errW_none,errW_some] <;> rfl)|(simp [*,errW_none,errW_some] <;> rfl),by repeat (first|(with_reducible first|exact HB.out|apply below_alloc|apply pw_below_drewN|apply below_drew1|refine below_set ?_ GE127.out)|exact HB.out)⟩
        ·rw [if_neg c28] at H
         have c28b0 : (a0_0 == 5) = false:=beq_eq_false_iff_ne.mpr c28
         have c28b1 : (a0_0 != 5) = true:=bne_iff_ne.mpr c28
         by_cases c34 : a0_0 = 6
         ·rw [if_pos c34] at H
          have c34b0 : (a0_0 == 6) = true:=beq_iff_eq.mpr c34
          have c34b1 : (a0_0 != 6) = false:=bne_eq_false_iff_eq.mpr c34
          clear c34
          by_cases c35 : (l0_3.length : Int) = 1
          ·rw [if_pos c35] at H
           have c35b0 : ((l0_3.length : Int) == 1) = true:=beq_iff_eq.mpr c35
           have c35b1 : ((l0_3.length : Int) != 1) = false:=bne_eq_false_iff_eq.mpr c35
           clear c35
           by_cases c36 : a0_1 = true
           ·subst c36
            have H1 : (some false) = some r:=by rw [if_pos rfl] at H;exact H
            clear H
            have H:=H1
            clear H1
            obtain rfl:=Option.some.inj H
            have hcz37_0 : wc.cell? ⟨gb127,0,none⟩ = some (.int .i64 a0_0):=(blk_cell BK127.out 0).trans rfl
            have hcz37_1 : wc.cell? ⟨gb127,1,none⟩ = some (.bool true):=(blk_cell BK127.out 1).trans rfl
            have hcz37_2 : wc.cell? ⟨gb127,2,none⟩ = some (.string a0_2):=(blk_cell BK127.out 2).trans rfl
            have hcz37_3 : wc.cell? ⟨gb127,3,none⟩ = some (.slice A0_3 l0_3.length c0_3):=(blk_cell BK127.out 3).trans rfl
            have hfz37_0:=blk_frozen BK127.out 0
            have hfz37_1:=blk_frozen BK127.out 1
            have hfz37_2:=blk_frozen BK127.out 2
            have hfz37_3:=blk_frozen BK127.out 3
            go_wp2
            go_ret
            exact ⟨by first|rfl|(simp [errW_none,errW_some] <;> rfl)|(simp [*,errW_none,errW_some] <;> rfl),by repeat (first|(with_reducible first|exact HB.out|apply below_alloc|apply pw_below_drewN|apply below_drew1|refine below_set ?_ GE127.out)|exact HB.out)⟩
           ·replace c36:=Bool.eq_false_iff.mpr c36
            subst c36
            have H1 : (some (a0_2.toList == ([] : List UInt8))) = some r:=by rw [if_neg (show ¬ (false = true) by decide)] at H;exact H
            clear H
            have H:=H1
            clear H1
            obtain rfl:=Option.some.inj H
            have hcz38_0 : wc.cell? ⟨gb127,0,none⟩ = some (.int .i64 a0_0):=(blk_cell BK127.out 0).trans rfl
            have hcz38_1 : wc.cell? ⟨gb127,1,none⟩ = some (.bool false):=(blk_cell BK127.out 1).trans rfl
            have hcz38_2 : wc.cell? ⟨gb127,2,none⟩ = some (.string a0_2):=(blk_cell BK127.out 2).trans rfl
            have hcz38_3 : wc.cell? ⟨gb127,3,none⟩ = some (.slice A0_3 l0_3.length c0_3):=(blk_cell BK127.out 3).trans rfl
            have hfz38_0:=blk_frozen BK127.out 0
            have hfz38_1:=blk_frozen BK127.out 1
            have hfz38_2:=blk_frozen BK127.out 2
            have hfz38_3:=blk_frozen BK127.out 3
            go_wp2
            go_ret
            exact ⟨by first|rfl|(simp [errW_none,errW_some] <;> rfl)|(simp [*,errW_none,errW_some] <;> rfl),by repeat (first|(with_reducible first|exact HB.out|apply below_alloc|apply pw_below_drewN|apply below_drew1|refine below_set ?_ GE127.out)|exact HB.out)⟩
          ·rw [if_neg c35] at H
           have c35b0 : ((l0_3.length : Int) == 1) = false:=beq_eq_false_iff_ne.mpr c35
           have c35b1 : ((l0_3.length : Int) != 1) = true:=bne_iff_ne.mpr c35
           obtain rfl:=Option.some.inj H
           have hcz39_0 : wc.cell? ⟨gb127,0,none⟩ = some (.int .i64 a0_0):=(blk_cell BK127.out 0).trans rfl
           have hcz39_1 : wc.cell? ⟨gb127,1,none⟩ = some (.bool a0_1):=(blk_cell BK127.out 1).trans rfl
           have hcz39_2 : wc.cell? ⟨gb127,2,none⟩ = some (.string a0_2):=(blk_cell BK127.out 2).trans rfl
           have hcz39_3 : wc.cell? ⟨gb127,3,none⟩ = some (.slice A0_3 l0_3.length c0_3):=(blk_cell BK127.out 3).trans rfl
           have hfz39_0:=blk_frozen BK127.out 0
           have hfz39_1:=blk_frozen BK127.out 1
           have hfz39_2:=blk_frozen BK127.out 2
           have hfz39_3:=blk_frozen BK127.out 3
           go_wp2
           go_ret
           exact ⟨by first|rfl|(simp [errW_none,errW_some] <;> rfl)|(simp [*,errW_none,errW_some] <;> rfl),by repeat (first|(with_reducible first|exact HB.out|apply below_alloc|apply pw_below_drewN|apply below_drew1|refine below_set ?_ GE127.out)|exact HB.out)⟩
         ·rw [if_neg c34] at H
          have c34b0 : (a0_0 == 6) = false:=beq_eq_false_iff_ne.mpr c34
          have c34b1 : (a0_0 != 6) = true:=bne_iff_ne.mpr c34
          by_cases c40 : a0_0 = 7
          ·rw [if_pos c40] at H
           have c40b0 : (a0_0 == 7) = true:=beq_iff_eq.mpr c40
           have c40b1 : (a0_0 != 7) = false:=bne_eq_false_iff_eq.mpr c40
           clear c40
           by_cases c41 : (l0_3.length : Int) = 1
           ·rw [if_pos c41] at H
            have c41b0 : ((l0_3.length : Int) == 1) = true:=beq_iff_eq.mpr c41
            have c41b1 : ((l0_3.length : Int) != 1) = false:=bne_eq_false_iff_eq.mpr c41
            clear c41
            by_cases c42 : a0_1 = true
            ·subst c42
             have H1 : (some false) = some r:=by rw [if_pos rfl] at H;exact H
             clear H
             have H:=H1
             clear H1
             obtain rfl:=Option.some.inj H
             have hcz43_0 : wc.cell? ⟨gb127,0,none⟩ = some (.int .i64 a0_0):=(blk_cell BK127.out 0).trans rfl
             have hcz43_1 : wc.cell? ⟨gb127,1,none⟩ = some (.bool true):=(blk_cell BK127.out 1).trans rfl
             have hcz43_2 : wc.cell? ⟨gb127,2,none⟩ = some (.string a0_2):=(blk_cell BK127.out 2).trans rfl
             have hcz43_3 : wc.cell? ⟨gb127,3,none⟩ = some (.slice A0_3 l0_3.length c0_3):=(blk_cell BK127.out 3).trans rfl
             have hfz43_0:=blk_frozen BK127.out 0
             have hfz43_1:=blk_frozen BK127.out 1
             have hfz43_2:=blk_frozen BK127.out 2
             have hfz43_3:=blk_frozen BK127.out 3
             go_wp2
             go_ret
             exact ⟨by first|rfl|(simp [errW_none,errW_some] <;> rfl)|(simp [*,errW_none,errW_some] <;> rfl),by repeat (first|(with_reducible first|exact HB.out|apply below_alloc|apply pw_below_drewN|apply below_drew1|refine below_set ?_ GE127.out)|exact HB.out)⟩
            ·replace c42:=Bool.eq_false_iff.mpr c42
             subst c42
             have H1 : (some (a0_2.toList == ([] : List UInt8))) = some r:=by rw [if_neg (show ¬ (false = true) by decide)] at H;exact H
             clear H
             have H:=H1
             clear H1
             obtain rfl:=Option.some.inj H
             have hcz44_0 : wc.cell? ⟨gb127,0,none⟩ = some (.int .i64 a0_0):=(blk_cell BK127.out 0).trans rfl
             have hcz44_1 : wc.cell? ⟨gb127,1,none⟩ = some (.bool false):=(blk_cell BK127.out 1).trans rfl
             have hcz44_2 : wc.cell? ⟨gb127,2,none⟩ = some (.string a0_2):=(blk_cell BK127.out 2).trans rfl
             have hcz44_3 : wc.cell? ⟨gb127,3,none⟩ = some (.slice A0_3 l0_3.length c0_3):=(blk_cell BK127.out 3).trans rfl
             have hfz44_0:=blk_frozen BK127.out 0
             have hfz44_1:=blk_frozen BK127.out 1
             have hfz44_2:=blk_frozen BK127.out 2
             have hfz44_3:=blk_frozen BK127.out 3
             go_wp2
             go_ret
             exact ⟨by first|rfl|(simp [errW_none,errW_some] <;> rfl)|(simp [*,errW_none,errW_some] <;> rfl),by repeat (first|(with_reducible first|exact HB.out|apply below_alloc|apply pw_below_drewN|apply below_drew1|refine below_set ?_ GE127.out)|exact HB.out)⟩
           ·rw [if_neg c41] at H
            have c41b0 : ((l0_3.length : Int) == 1) = false:=beq_eq_false_iff_ne.mpr c41
            have c41b1 : ((l0_3.length : Int) != 1) = true:=bne_iff_ne.mpr c41
            obtain rfl:=Option.some.inj H
            have hcz45_0 : wc.cell? ⟨gb127,0,none⟩ = some (.int .i64 a0_0):=(blk_cell BK127.out 0).trans rfl
            have hcz45_1 : wc.cell? ⟨gb127,1,none⟩ = some (.bool a0_1):=(blk_cell BK127.out 1).trans rfl
            have hcz45_2 : wc.cell? ⟨gb127,2,none⟩ = some (.string a0_2):=(blk_cell BK127.out 2).trans rfl
            have hcz45_3 : wc.cell? ⟨gb127,3,none⟩ = some (.slice A0_3 l0_3.length c0_3):=(blk_cell BK127.out 3).trans rfl
            have hfz45_0:=blk_frozen BK127.out 0
            have hfz45_1:=blk_frozen BK127.out 1
            have hfz45_2:=blk_frozen BK127.out 2
            have hfz45_3:=blk_frozen BK127.out 3
            go_wp2
            go_ret
            exact ⟨by first|rfl|(simp [errW_none,errW_some] <;> rfl)|(simp [*,errW_none,errW_some] <;> rfl),by repeat (first|(with_reducible first|exact HB.out|apply below_alloc|apply pw_below_drewN|apply below_drew1|refine below_set ?_ GE127.out)|exact HB.out)⟩
          ·rw [if_neg c40] at H
           have c40b0 : (a0_0 == 7) = false:=beq_eq_false_iff_ne.mpr c40
           have c40b1 : (a0_0 != 7) = true:=bne_iff_ne.mpr c40
           obtain rfl:=Option.some.inj H
           go_wp2
           go_ret
           exact ⟨by first|rfl|(simp [errW_none,errW_some] <;> rfl)|(simp [*,errW_none,errW_some] <;> rfl),by repeat (first|(with_reducible first|exact HB.out|apply below_alloc|apply pw_below_drewN|apply below_drew1|refine below_set ?_ GE127.out)|exact HB.out)⟩
mutual
def spec_ReOk.j0 : Nat → List (S49) → Bool → Option (Bool)
 | 0,_,_=>none
 | k + 1,x0,x15=>if x15 = true then (some false) else (if 0 ≤ (x0.length : Int) then (if ((x0.length : Int) : Int).toNat ≤ 35184372088832 then (spec_ReOk.l0 k x0 (List.replicate ((x0.length : Int) : Int).toNat 0) 0) else (none)) else (none))
def spec_ReOk.l0 : Nat → List (S49) → List Int → Int → Option (Bool)
 | 0,_,_,_=>none
 | k + 1,x0,x3,x4=>if x4 < (x0.length : Int) then (if 0 ≤ x4 then ((spec_l2kidsOk.f k ((rd_T49 x0 x4).f0) ((rd_T49 x0 x4).f1) ((rd_T49 x0 x4).f2) ((rd_T49 x0 x4).f3)).bind fun t133=>(if t133 = true then (spec_ReOk.l1 k x0 x3 x4 0) else (some false))) else (none)) else (spec_ReOk.l2 k x0 x3 0)
def spec_ReOk.l1 : Nat → List (S49) → List Int → Int → Int → Option (Bool)
 | 0,_,_,_,_=>none
 | k + 1,x0,x3,x4,x5=>if 0 ≤ x4 then (if x4 < (x0.length : Int) then (if x5 < (((rd_T49 x0 x4).f3).length : Int) then (if 0 ≤ x5 then (if (rd ((rd_T49 x0 x4).f3) x5) < 0 then (some false) else (if (rd ((rd_T49 x0 x4).f3) x5) ≥ x4 then (some false) else (if 0 ≤ (rd ((rd_T49 x0 x4).f3) x5) then (if (rd ((rd_T49 x0 x4).f3) x5) < (x3.length : Int) then (if (rd x3 (rd ((rd_T49 x0 x4).f3) x5)) > 0 then (some false) else (spec_ReOk.l1 k x0 (x3.set ((rd ((rd_T49 x0 x4).f3) x5) : Int).toNat (wrap64 ((rd x3 (rd ((rd_T49 x0 x4).f3) x5)) + 1))) x4 (wrap64 (x5 + 1)))) else (none)) else (none)))) else (none)) else (spec_ReOk.l0 k x0 x3 (wrap64 (x4 + 1)))) else (none)) else (none)
def spec_ReOk.l2 : Nat → List (S49) → List Int → Int → Option (Bool)
 | 0,_,_,_=>none
 | k + 1,x0,x3,x7=>if (wrap64 (x7 + 1)) < (x0.length : Int) then (if 0 ≤ x7 then (if x7 < (x3.length : Int) then (if (rd x3 x7) = 1 then (spec_ReOk.l2 k x0 x3 (wrap64 (x7 + 1))) else (some false)) else (none)) else (none)) else (some true)
end
def spec_ReOk.f (k : Nat) (l0 : List (S49)) : Option (Bool):=if (l0.length : Int) < 1 then (spec_ReOk.j0 k l0 true) else (spec_ReOk.j0 k l0 (decide ((l0.length : Int) > 200)))
theorem spec_ReOk.mono_l : ∀ k,(∀ y0 y1,LeO (spec_ReOk.j0 k y0 y1) (spec_ReOk.j0 (k + 1) y0 y1)) ∧ (∀ y0 y1 y2,LeO (spec_ReOk.l0 k y0 y1 y2) (spec_ReOk.l0 (k + 1) y0 y1 y2)) ∧ (∀ y0 y1 y2 y3,LeO (spec_ReOk.l1 k y0 y1 y2 y3) (spec_ReOk.l1 (k + 1) y0 y1 y2 y3)) ∧ (∀ y0 y1 y2,LeO (spec_ReOk.l2 k y0 y1 y2) (spec_ReOk.l2 (k + 1) y0 y1 y2))
 | 0=>⟨fun _ _ r h=>by simp [spec_ReOk.j0] at h,fun _ _ _ r h=>by simp [spec_ReOk.l0] at h,fun _ _ _ _ r h=>by simp [spec_ReOk.l1] at h,fun _ _ _ r h=>by simp [spec_ReOk.l2] at h⟩
 | k + 1=>by
  obtain ⟨ih0,ih1,ih2,ih3⟩:=spec_ReOk.mono_l k
  refine ⟨?_,?_,?_,?_⟩
  ·intro y0 y1
   unfold spec_ReOk.j0
   repeat' first
   | (with_reducible exact ih0 _ _)
   | (with_reducible exact ih1 _ _ _)
   | (with_reducible exact ih2 _ _ _ _)
   | (with_reducible exact ih3 _ _ _)
   | (with_reducible exact spec_l2kidsOk.mono _ _ _ _ _)
   | (with_reducible exact LeO.refl _)
   | (with_reducible exact LeO.none _)
   | (with_reducible refine LeO.ite ?_ ?_)
   | (with_reducible refine LeO.bind ?_ (fun _=>?_))
   | exact ih0 _ _
   | exact ih1 _ _ _
   | exact ih2 _ _ _ _
   | exact ih3 _ _ _
   | exact spec_l2kidsOk.mono _ _ _ _ _
   | exact LeO.none _
   | refine LeO.ite ?_ ?_
   | refine LeO.bind ?_ (fun _=>?_)
  ·intro y0 y1 y2
   unfold spec_ReOk.l0
   repeat' first
   | (with_reducible exact ih0 _ _)
   | (with_reducible exact ih1 _ _ _)
   | (with_reducible exact ih2 _ _ _ _)
   | (with_reducible exact ih3 _ _ _)
   | (with_reducible exact spec_l2kidsOk.mono _ _ _ _ _)
   | (with_reducible exact LeO.refl _)
   | (with_reducible exact LeO.none _)
   | (with_reducible refine LeO.ite ?_ ?_)
   | (with_reducible refine LeO.bind ?_ (fun _=>?_))
   | exact ih0 _ _
   | exact ih1 _ _ _
   | exact ih2 _ _ _ _
   | exact ih3 _ _ _
   | exact spec_l2kidsOk.mono _ _ _ _ _
   | exact LeO.none _
   | refine LeO.ite ?_ ?_
   | refine LeO.bind ?_ (fun _=>?_)
  ·intro y0 y1 y2 y3
   unfold spec_ReOk.l1
   repeat' first
   | (with_reducible exact ih0 _ _)
   | (with_reducible exact ih1 _ _ _)
   | (with_reducible exact ih2 _ _ _ _)
   | (with_reducible exact ih3 _ _ _)
   | (with_reducible exact spec_l2kidsOk.mono _ _ _ _ _)
   | (with_reducible exact LeO.refl _)
   | (with_reducible exact LeO.none _)
   | (with_reducible refine LeO.ite ?_ ?_)
   | (with_reducible refine LeO.bind ?_ (fun _=>?_))
   | exact ih0 _ _
   | exact ih1 _ _ _
   | exact ih2 _ _ _ _
   | exact ih3 _ _ _
   | exact spec_l2kidsOk.mono _ _ _ _ _
   | exact LeO.none _
   | refine LeO.ite ?_ ?_
   | refine LeO.bind ?_ (fun _=>?_)
  ·intro y0 y1 y2
   unfold spec_ReOk.l2
   repeat' first
   | (with_reducible exact ih0 _ _)
   | (with_reducible exact ih1 _ _ _)
   | (with_reducible exact ih2 _ _ _ _)
   | (with_reducible exact ih3 _ _ _)
   | (with_reducible exact spec_l2kidsOk.mono _ _ _ _ _)
   | (with_reducible exact LeO.refl _)
   | (with_reducible exact LeO.none _)
   | (with_reducible refine LeO.ite ?_ ?_)
   | (with_reducible refine LeO.bind ?_ (fun _=>?_))
   | exact ih0 _ _
   | exact ih1 _ _ _
   | exact ih2 _ _ _ _
   | exact ih3 _ _ _
   | exact spec_l2kidsOk.mono _ _ _ _ _
   | exact LeO.none _
   | refine LeO.ite ?_ ?_
   | refine LeO.bind ?_ (fun _=>?_)
theorem spec_ReOk.mono : ∀ a0 k,LeO (spec_ReOk.f k a0) (spec_ReOk.f (k + 1) a0):=by
 intro a0 k
 obtain ⟨ih0,ih1,ih2,ih3⟩:=spec_ReOk.mono_l k
 unfold spec_ReOk.f
 repeat' first
   | (with_reducible exact ih0 _ _)
   | (with_reducible exact ih1 _ _ _)
   | (with_reducible exact ih2 _ _ _ _)
   | (with_reducible exact ih3 _ _ _)
   | (with_reducible exact spec_l2kidsOk.mono _ _ _ _ _)
   | (with_reducible exact LeO.refl _)
   | (with_reducible exact LeO.none _)
   | (with_reducible refine LeO.ite ?_ ?_)
   | (with_reducible refine LeO.bind ?_ (fun _=>?_))
   | exact ih0 _ _
   | exact ih1 _ _ _
   | exact ih2 _ _ _ _
   | exact ih3 _ _ _
   | exact spec_l2kidsOk.mono _ _ _ _ _
   | exact LeO.none _
   | refine LeO.ite ?_ ?_
   | refine LeO.bind ?_ (fun _=>?_)
set_option maxHeartbeats 8000000 in
set_option maxRecDepth 100000 in
theorem spec_ReOk.calls (k : Nat) (A0 : Option Addr) (c0 : Nat) (l0 : List (S49)) (r : Bool) (w : World) (hr0 : Kd.C k49 w A0 l0.length l0) (hc0 : l0.length ≤ c0) (h : spec_ReOk.f k l0 = some r) :
  Calls Tryd.prog 29 #[.slice A0 l0.length c0] w fun e w'=>e = .returned (.bool r) ∧ Below w.heap.size w w':=by
 have hu49:=Tryd.underlying49
 have HR0:=Aside0.mk hr0
 have HC0:=Aside0.mk hc0
 clear hr0 hc0
 have HB:=Aside0.mk (Below.refl w.heap.size w)
 have H : (if (l0.length : Int) < 1 then (spec_ReOk.j0 k l0 true) else (spec_ReOk.j0 k l0 (decide ((l0.length : Int) > 200)))) = some r:=h
 clear h
 have HC2:=Aside0.mk H
 clear H
 go_enter Tryd.func29,Tryd.ntmps29
 go_upto_region 1 with (fail)
 go_cut [15] (fun v15 wc=>∃ (kq : Nat) (x15_1 : Bool),v15 = .bool x15_1 ∧ Aside0 (spec_ReOk.j0 kq l0 x15_1 = some r) ∧ Aside0 (kq ≤ k) ∧ Aside0 (Below w.heap.size w wc))
 case first =>
  have H:=HC2.out
  clear HC2
  by_cases c3 : (l0.length : Int) < 1
  ·rw [if_pos c3] at H
   have c3b0 : decide ((l0.length : Int) < 1) = true:=decide_eq_true c3
   have c3b1 : decide (l0.length < 1) = true:=decide_eq_true (by omega)
   clear c3
   (first|rw [c3b0]|(simp only [i64_w,i32_w];rw [c3b0])|skip)
   have H':=Aside0.mk H
   clear H
   go_wp2
   go_meet
   case rel=>exact ⟨_,(true),(by first|rfl|(simp;done)|(simp [*];done)),H',⟨by first|omega|exact Nat.le_refl _⟩,⟨by repeat (first|(with_reducible first|exact HB.out|apply below_alloc|apply pw_below_drewN|apply below_drew1)|exact HB.out)⟩⟩
  ·rw [if_neg c3] at H
   have c3b0 : decide ((l0.length : Int) < 1) = false:=decide_eq_false c3
   have c3b1 : decide (l0.length < 1) = false:=decide_eq_false (by omega)
   clear c3
   (first|rw [c3b0]|(simp only [i64_w,i32_w];rw [c3b0])|skip)
   have H':=Aside0.mk H
   clear H
   go_wp2
   go_meet
   case rel=>exact ⟨_,(decide ((l0.length : Int) > 200)),(by first|rfl|(simp;done)|(simp [*];done)),H',⟨by first|omega|exact Nat.le_refl _⟩,⟨by repeat (first|(with_reducible first|exact HB.out|apply below_alloc|apply pw_below_drewN|apply below_drew1)|exact HB.out)⟩⟩
 case rest =>
  clear HC2
  try clear c2
  try clear p2
  try clear c3
  try clear c3b0
  try clear c3b1
  obtain ⟨kq,x15_1,rfl,HA,HJ1,HB⟩:=hcut
  cases kq with
  | zero=>exact absurd HA.out (by simp [spec_ReOk.j0])
  | succ kj1 =>
   have H:=HA.out
   clear HA
   simp only [spec_ReOk.j0] at H
   by_cases c4 : x15_1 = true
   ·subst c4
    have H1 : (some false) = some r:=by rw [if_pos rfl] at H;exact H
    clear H
    have H:=H1
    clear H1
    obtain rfl:=Option.some.inj H
    go_wp2
    go_ret
    exact ⟨by first|rfl|(simp [errW_none,errW_some] <;> rfl)|(simp [*,errW_none,errW_some] <;> rfl),by repeat (first|(with_reducible first|exact HB.out|apply below_alloc|apply pw_below_drewN|apply below_drew1)|exact HB.out)⟩
   ·replace c4:=Bool.eq_false_iff.mpr c4
    subst c4
    have H1 : (if 0 ≤ (l0.length : Int) then (if ((l0.length : Int) : Int).toNat ≤ 35184372088832 then (spec_ReOk.l0 kj1 l0 (List.replicate ((l0.length : Int) : Int).toNat 0) 0) else (none)) else (none)) = some r:=by rw [if_neg (show ¬ (false = true) by decide)] at H;exact H
    clear H
    have H:=H1
    clear H1
    by_cases c5 : 0 ≤ (l0.length : Int)
    ·rw [if_pos c5] at H
     have c5b0:=eq_true c5
     have c5b1 : decide (0 ≤ (l0.length : Int)) = true:=decide_eq_true c5
     clear c5
     by_cases c6 : ((l0.length : Int) : Int).toNat ≤ 35184372088832
     ·rw [if_pos c6] at H
      have c6b0:=eq_true c6
      have c6b1 : decide (((l0.length : Int) : Int).toNat ≤ 35184372088832) = true:=decide_eq_true c6
      clear c6
      obtain ⟨y129,hy129⟩ : ∃ y_ : List Int,y_ = (List.replicate ((l0.length : Int) : Int).toNat 0):=⟨_,rfl⟩
      replace H : (spec_ReOk.l0 kj1 l0 y129 0) = some r:=by first|(rw [hy129];with_reducible exact H)|(have H2_:=(Option.bind_some _ _).symm.trans H;rw [hy129];with_reducible exact H2_)|(have H2_:=(Option.bind_some _ _).symm.trans H;with_reducible exact H2_)|with_reducible exact H|(rw [hy129];exact H)|exact H
      have Ny129:=Aside0.mk hy129
      clear hy129
      have H':=Aside0.mk H
      clear H
      go_wp2_with (first|((with_reducible refine gate_dst (N:=18) rfl ?_);(try (refine gate_guard (by rfl) ?_;dsimp only));refine Kd.R_make (Kd.int .i64) _ 3 rfl (N:=18) rfl 31 _ _ rfl (l0.length : Int) rfl rfl Tryd.underlying31 (.int .i64 0) 8 info3 rfl (by decide) (by omega) 0 (ok:=fun _=>True) (okp:=fun _=>True) rfl (fun _ hk=>hk) trivial (of_decide_eq_true (by first|(with_reducible assumption)|assumption)) (Nat.le_trans (Nat.mul_le_mul_right _ (of_decide_eq_true (by first|(with_reducible assumption)|assumption) : (l0.length : Int).toNat ≤ 35184372088832)) (by omega)) (Below.refl _ _) (Nat.le_refl _) ?_;intro v130 w7 ho8 hb hg_ hnew_;clear hg_ hnew_;(first|rw [← Ny129.out] at ho8|(simp only [Int.reduceToNat] at ho8;rw [← Ny129.out] at ho8));have n0_:=Aside0.mk (Kd.R_lower ho8 (below_size (by repeat (first|(with_reducible first|exact HB.out|apply below_alloc|apply pw_below_drewN|apply below_drew1)|exact HB.out))));have n1_:=Aside0.mk (below_step (by repeat (first|(with_reducible first|exact HB.out|apply below_alloc|apply pw_below_drewN|apply below_drew1)|exact HB.out)) hb);clear HB;have HO131:=n0_;have HB:=n1_;clear n0_ n1_;clear hb ho8))
      go_loopg [4] kj1 (fun kq v4 w'=>∃ (x3_2 : List Int) (x4_2 : Int),v4 = .int .i64 x4_2 ∧ Aside0 (spec_ReOk.l0 kq l0 x3_2 x4_2 = some r) ∧ Aside0 (kq ≤ kj1) ∧ Aside0 (Kd.R (Kd.int .i64) 3 w' w.heap.size (fun _=>True) v130 x3_2) ∧ Aside0 (Below w.heap.size w w'))
      case atStart=>exact ⟨(y129),(0),(by first|rfl|(simp;done)|(simp [*];done)),H',⟨Nat.le_refl _⟩,⟨by (with_reducible repeat (first|apply Kd.R_alloc|apply Kd.R_drewN|apply Kd.R_drew));exact HO131.out⟩,⟨by repeat (first|(with_reducible first|exact HB.out|apply below_alloc|apply pw_below_drewN|apply below_drew1)|exact HB.out)⟩⟩
      case round =>
       clear H'
       try clear c2
       try clear p2
       try clear c3
       try clear c3b0
       try clear c3b1
       try clear c4
       try clear c5
       try clear c5b0
       try clear c5b1
       try clear c6
       try clear c6b0
       try clear c6b1
       try clear p2
       obtain ⟨x3_2,x4_2,rfl,HA,HK2,HO_3,HB⟩:=hrel
       cases gk with
       | zero=>exact absurd HA.out (by simp [spec_ReOk.l0])
       | succ k2 =>
        have H:=HA.out
        clear HA
        simp only [spec_ReOk.l0] at H
        by_cases c9 : x4_2 < (l0.length : Int)
        ·rw [if_pos c9] at H
         have c9b0 : decide (x4_2 < (l0.length : Int)) = true:=decide_eq_true c9
         clear c9
         by_cases c10 : 0 ≤ x4_2
         ·rw [if_pos c10] at H
          have c10b0 : decide (0 ≤ x4_2) = true:=decide_eq_true c10
          clear c10
          replace H:=Option.bind_eq_some_iff.mp H
          obtain ⟨t133,A110,H⟩:=H
          replace H : (if t133 = true then (spec_ReOk.l1 k2 l0 x3_2 x4_2 0) else (some false)) = some r:=H
          have A11:=Aside0.mk A110
          clear A110
          by_cases c12 : t133 = true
          ·subst c12
           have H1 : (spec_ReOk.l1 k2 l0 x3_2 x4_2 0) = some r:=by rw [if_pos rfl] at H;exact H
           clear H
           have H:=H1
           clear H1
           have H':=Aside0.mk H
           clear H
           have p132 : 0 ≤ (x4_2 : Int):=of_decide_eq_true (by first|(with_reducible assumption)|assumption)
           have q132 : x4_2 < (l0.length : Int):=of_decide_eq_true (by first|(with_reducible assumption)|assumption)
           obtain ⟨ad132,A132_3,c132_3,e132,hx132_0,hx132_1,hx132_2,hx132_3,hl132_3,hi132_3⟩:=at_T49 HR0.out x4_2 p132 q132
           cases e132
           replace hx132_0:=(HB.out.cell (World.block_lt_of_cell? w _ hx132_0)).trans hx132_0
           replace hx132_1:=(HB.out.cell (World.block_lt_of_cell? w _ hx132_1)).trans hx132_1
           replace hx132_2:=(HB.out.cell (World.block_lt_of_cell? w _ hx132_2)).trans hx132_2
           replace hx132_3:=(HB.out.cell (World.block_lt_of_cell? w _ hx132_3)).trans hx132_3
           have HR132_3:=Aside0.mk hi132_3
           have HC132_3:=Aside0.mk hl132_3
           clear hi132_3 hl132_3
           replace p132:=eq_true p132
           replace q132:=eq_true q132
           go_wp2_with (first|((with_reducible refine gate_callee (f:=52) rfl ?_);refine goesL_ (some 29) rfl rfl Tryd.func52 (by kernel_rfl) rfl #[.agg #[.int .i64 ((rd_T49 l0 x4_2).f0),.bool ((rd_T49 l0 x4_2).f1),.string ((rd_T49 l0 x4_2).f2),.slice A132_3 ((rd_T49 l0 x4_2).f3).length c132_3]] rfl (by (try simp only [List.map_toArray,List.map_cons,List.map_nil]);first|done|rfl|(simp only [List.length_drop,List.length_take];rfl)) ?_;(with_reducible refine (spec_l2kidsOk.calls k2 ((rd_T49 l0 x4_2).f0) ((rd_T49 l0 x4_2).f1) ((rd_T49 l0 x4_2).f2) _ _ ((rd_T49 l0 x4_2).f3) true _ ?side1 ?side2 A11.out).mono ?_);(case side1=>repeat (first|exact (Kd.C_below HR132_3.out HB.out)|(with_reducible refine Kd.C_alloc ?_ _)|(with_reducible refine Kd.C_drewN ?_ _)|(with_reducible refine Kd.C_drew ?_)));(case side2=>exact HC132_3.out);rintro e w13 ⟨rfl,hb⟩;refine ⟨_,rfl,?_⟩;have n0_:=Aside0.mk (Kd.R_below (by (with_reducible repeat (first|apply Kd.R_alloc|apply Kd.R_drewN|apply Kd.R_drew));exact HO_3.out) hb);have n1_:=Aside0.mk (below_step (by repeat (first|(with_reducible first|exact HB.out|apply below_alloc|apply pw_below_drewN|apply below_drew1)|exact HB.out)) hb);clear HO_3;clear HB;have HO_3:=n0_;have HB:=n1_;clear n0_ n1_;(try clear hb);(try clear hb2);(try clear hk);(try clear hi)))
           go_loopg [5] k2 (fun kq v5 w'=>∃ (x3_3 : List Int) (x5_3 : Int),v5 = .int .i64 x5_3 ∧ Aside0 (spec_ReOk.l1 kq l0 x3_3 x4_2 x5_3 = some r) ∧ Aside0 (kq ≤ k2) ∧ Aside0 (Kd.R (Kd.int .i64) 3 w' w.heap.size (fun _=>True) v130 x3_3) ∧ Aside0 (Below w.heap.size w w'))
           case atStart=>exact ⟨(x3_2),(0),(by first|rfl|(simp;done)|(simp [*];done)),H',⟨Nat.le_refl _⟩,⟨by (with_reducible repeat (first|apply Kd.R_alloc|apply Kd.R_drewN|apply Kd.R_drew));exact HO_3.out⟩,⟨by repeat (first|(with_reducible first|exact HB.out|apply below_alloc|apply pw_below_drewN|apply below_drew1)|exact HB.out)⟩⟩
           case round =>
            clear H'
            try clear c1
            try clear p1
            try clear q1
            try clear hx1
            try clear c2
            try clear p2
            try clear c3
            try clear c3b0
            try clear c3b1
            try clear c4
            try clear c5
            try clear c5b0
            try clear c5b1
            try clear c6
            try clear c6b0
            try clear c6b1
            try clear c9
            try clear c9b0
            try clear c10
            try clear c10b0
            try clear c12
            try clear c13
            try clear p13
            try clear q13
            try clear hx13
            try clear hx132_0
            try clear hx132_1
            try clear hx132_2
            try clear hx132_3
            try clear p132
            try clear p2
            try clear q132
            obtain ⟨x3_3,x5_3,rfl,HA,HK3,HO_3,HB⟩:=hrel
            cases gk with
            | zero=>exact absurd HA.out (by simp [spec_ReOk.l1])
            | succ k3 =>
             have H:=HA.out
             clear HA
             simp only [spec_ReOk.l1] at H
             by_cases c14 : 0 ≤ x4_2
             ·rw [if_pos c14] at H
              have c14b0 : decide (0 ≤ x4_2) = true:=decide_eq_true c14
              clear c14
              by_cases c15 : x4_2 < (l0.length : Int)
              ·rw [if_pos c15] at H
               have c15b0 : decide (x4_2 < (l0.length : Int)) = true:=decide_eq_true c15
               clear c15
               by_cases c16 : x5_3 < (((rd_T49 l0 x4_2).f3).length : Int)
               ·rw [if_pos c16] at H
                have c16b0 : decide (x5_3 < (((rd_T49 l0 x4_2).f3).length : Int)) = true:=decide_eq_true c16
                clear c16
                by_cases c17 : 0 ≤ x5_3
                ·rw [if_pos c17] at H
                 have c17b0 : decide (0 ≤ x5_3) = true:=decide_eq_true c17
                 clear c17
                 by_cases c18 : (rd ((rd_T49 l0 x4_2).f3) x5_3) < 0
                 ·rw [if_pos c18] at H
                  have c18b0 : decide ((rd ((rd_T49 l0 x4_2).f3) x5_3) < 0) = true:=decide_eq_true c18
                  clear c18
                  obtain rfl:=Option.some.inj H
                  have p134 : 0 ≤ (x4_2 : Int):=of_decide_eq_true (by first|(with_reducible assumption)|assumption)
                  have q134 : x4_2 < (l0.length : Int):=of_decide_eq_true (by first|(with_reducible assumption)|assumption)
                  obtain ⟨ad134,A134_3,c134_3,e134,hx134_0,hx134_1,hx134_2,hx134_3,hl134_3,hi134_3⟩:=at_T49 HR0.out x4_2 p134 q134
                  obtain rfl : ad132 = ad134:=(by injection e134)
                  replace hx134_0:=(HB.out.cell (World.block_lt_of_cell? w _ hx134_0)).trans hx134_0
                  replace hx134_1:=(HB.out.cell (World.block_lt_of_cell? w _ hx134_1)).trans hx134_1
                  replace hx134_2:=(HB.out.cell (World.block_lt_of_cell? w _ hx134_2)).trans hx134_2
                  replace hx134_3:=(HB.out.cell (World.block_lt_of_cell? w _ hx134_3)).trans hx134_3
                  have HR134_3:=Aside0.mk hi134_3
                  have HC134_3:=Aside0.mk hl134_3
                  clear hi134_3 hl134_3
                  replace p134:=eq_true p134
                  replace q134:=eq_true q134
                  have p135 : 0 ≤ (x4_2 : Int):=of_decide_eq_true (by first|(with_reducible assumption)|assumption)
                  have q135 : x4_2 < (l0.length : Int):=of_decide_eq_true (by first|(with_reducible assumption)|assumption)
                  obtain ⟨ad135,A135_3,c135_3,e135,hx135_0,hx135_1,hx135_2,hx135_3,hl135_3,hi135_3⟩:=at_T49 HR0.out x4_2 p135 q135
                  obtain rfl : ad132 = ad135:=(by injection e135)
                  replace hx135_0:=(HB.out.cell (World.block_lt_of_cell? w _ hx135_0)).trans hx135_0
                  replace hx135_1:=(HB.out.cell (World.block_lt_of_cell? w _ hx135_1)).trans hx135_1
                  replace hx135_2:=(HB.out.cell (World.block_lt_of_cell? w _ hx135_2)).trans hx135_2
                  replace hx135_3:=(HB.out.cell (World.block_lt_of_cell? w _ hx135_3)).trans hx135_3
                  have HR135_3:=Aside0.mk hi135_3
                  have HC135_3:=Aside0.mk hl135_3
                  clear hi135_3 hl135_3
                  replace p135:=eq_true p135
                  replace q135:=eq_true q135
                  have ea_:=Option.some.inj (hx134_3.symm.trans hx135_3)
                  injection ea_ with ea_ en_ ec_
                  subst ea_
                  subst ec_
                  clear en_
                  have p136 : 0 ≤ (x5_3 : Int):=of_decide_eq_true (by first|(with_reducible assumption)|assumption)
                  have q136 : x5_3 < (((rd_T49 l0 x4_2).f3).length : Int):=of_decide_eq_true (by first|(with_reducible assumption)|assumption)
                  obtain ⟨ad136,e136,hx136_0⟩:=Kd.at_int HR135_3.out x5_3 p136 q136
                  cases e136
                  replace hx136_0:=(HB.out.cell (World.block_lt_of_cell? w _ hx136_0)).trans hx136_0
                  replace p136:=eq_true p136
                  replace q136:=eq_true q136
                  go_wp2
                  go_ret
                  exact ⟨by first|rfl|(simp [errW_none,errW_some] <;> rfl)|(simp [*,errW_none,errW_some] <;> rfl),by repeat (first|(with_reducible first|exact HB.out|apply below_alloc|apply pw_below_drewN|apply below_drew1)|exact HB.out)⟩
                 ·rw [if_neg c18] at H
                  have c18b0 : decide ((rd ((rd_T49 l0 x4_2).f3) x5_3) < 0) = false:=decide_eq_false c18
                  clear c18
                  by_cases c19 : (rd ((rd_T49 l0 x4_2).f3) x5_3) ≥ x4_2
                  ·rw [if_pos c19] at H
                   have c19b0 : decide (x4_2 ≤ (rd ((rd_T49 l0 x4_2).f3) x5_3)) = true:=decide_eq_true c19
                   clear c19
                   obtain rfl:=Option.some.inj H
                   have p134 : 0 ≤ (x4_2 : Int):=of_decide_eq_true (by first|(with_reducible assumption)|assumption)
                   have q134 : x4_2 < (l0.length : Int):=of_decide_eq_true (by first|(with_reducible assumption)|assumption)
                   obtain ⟨ad134,A134_3,c134_3,e134,hx134_0,hx134_1,hx134_2,hx134_3,hl134_3,hi134_3⟩:=at_T49 HR0.out x4_2 p134 q134
                   obtain rfl : ad132 = ad134:=(by injection e134)
                   replace hx134_0:=(HB.out.cell (World.block_lt_of_cell? w _ hx134_0)).trans hx134_0
                   replace hx134_1:=(HB.out.cell (World.block_lt_of_cell? w _ hx134_1)).trans hx134_1
                   replace hx134_2:=(HB.out.cell (World.block_lt_of_cell? w _ hx134_2)).trans hx134_2
                   replace hx134_3:=(HB.out.cell (World.block_lt_of_cell? w _ hx134_3)).trans hx134_3
                   have HR134_3:=Aside0.mk hi134_3
                   have HC134_3:=Aside0.mk hl134_3
                   clear hi134_3 hl134_3
                   replace p134:=eq_true p134
                   replace q134:=eq_true q134
                   have p135 : 0 ≤ (x4_2 : Int):=of_decide_eq_true (by first|(with_reducible assumption)|assumption)
                   have q135 : x4_2 < (l0.length : Int):=of_decide_eq_true (by first|(with_reducible assumption)|assumption)
                   obtain ⟨ad135,A135_3,c135_3,e135,hx135_0,hx135_1,hx135_2,hx135_3,hl135_3,hi135_3⟩:=at_T49 HR0.out x4_2 p135 q135
                   obtain rfl : ad132 = ad135:=(by injection e135)
                   replace hx135_0:=(HB.out.cell (World.block_lt_of_cell? w _ hx135_0)).trans hx135_0
                   replace hx135_1:=(HB.out.cell (World.block_lt_of_cell? w _ hx135_1)).trans hx135_1
                   replace hx135_2:=(HB.out.cell (World.block_lt_of_cell? w _ hx135_2)).trans hx135_2
                   replace hx135_3:=(HB.out.cell (World.block_lt_of_cell? w _ hx135_3)).trans hx135_3
                   have HR135_3:=Aside0.mk hi135_3
                   have HC135_3:=Aside0.mk hl135_3
                   clear hi135_3 hl135_3
                   replace p135:=eq_true p135
                   replace q135:=eq_true q135
                   have ea_:=Option.some.inj (hx134_3.symm.trans hx135_3)
                   injection ea_ with ea_ en_ ec_
                   subst ea_
                   subst ec_
                   clear en_
                   have p136 : 0 ≤ (x5_3 : Int):=of_decide_eq_true (by first|(with_reducible assumption)|assumption)
                   have q136 : x5_3 < (((rd_T49 l0 x4_2).f3).length : Int):=of_decide_eq_true (by first|(with_reducible assumption)|assumption)
                   obtain ⟨ad136,e136,hx136_0⟩:=Kd.at_int HR135_3.out x5_3 p136 q136
                   cases e136
                   replace hx136_0:=(HB.out.cell (World.block_lt_of_cell? w _ hx136_0)).trans hx136_0
                   replace p136:=eq_true p136
                   replace q136:=eq_true q136
                   go_wp2
                   go_ret
                   exact ⟨by first|rfl|(simp [errW_none,errW_some] <;> rfl)|(simp [*,errW_none,errW_some] <;> rfl),by repeat (first|(with_reducible first|exact HB.out|apply below_alloc|apply pw_below_drewN|apply below_drew1)|exact HB.out)⟩
                  ·rw [if_neg c19] at H
                   have c19b0 : decide (x4_2 ≤ (rd ((rd_T49 l0 x4_2).f3) x5_3)) = false:=decide_eq_false c19
                   clear c19
                   by_cases c20 : 0 ≤ (rd ((rd_T49 l0 x4_2).f3) x5_3)
                   ·rw [if_pos c20] at H
                    have c20b0 : decide (0 ≤ (rd ((rd_T49 l0 x4_2).f3) x5_3)) = true:=decide_eq_true c20
                    clear c20
                    by_cases c21 : (rd ((rd_T49 l0 x4_2).f3) x5_3) < (x3_3.length : Int)
                    ·rw [if_pos c21] at H
                     have c21b0 : decide ((rd ((rd_T49 l0 x4_2).f3) x5_3) < (x3_3.length : Int)) = true:=decide_eq_true c21
                     clear c21
                     by_cases c22 : (rd x3_3 (rd ((rd_T49 l0 x4_2).f3) x5_3)) > 0
                     ·rw [if_pos c22] at H
                      have c22b0 : decide (0 < (rd x3_3 (rd ((rd_T49 l0 x4_2).f3) x5_3))) = true:=decide_eq_true c22
                      clear c22
                      obtain rfl:=Option.some.inj H
                      have p134 : 0 ≤ (x4_2 : Int):=of_decide_eq_true (by first|(with_reducible assumption)|assumption)
                      have q134 : x4_2 < (l0.length : Int):=of_decide_eq_true (by first|(with_reducible assumption)|assumption)
                      obtain ⟨ad134,A134_3,c134_3,e134,hx134_0,hx134_1,hx134_2,hx134_3,hl134_3,hi134_3⟩:=at_T49 HR0.out x4_2 p134 q134
                      obtain rfl : ad132 = ad134:=(by injection e134)
                      replace hx134_0:=(HB.out.cell (World.block_lt_of_cell? w _ hx134_0)).trans hx134_0
                      replace hx134_1:=(HB.out.cell (World.block_lt_of_cell? w _ hx134_1)).trans hx134_1
                      replace hx134_2:=(HB.out.cell (World.block_lt_of_cell? w _ hx134_2)).trans hx134_2
                      replace hx134_3:=(HB.out.cell (World.block_lt_of_cell? w _ hx134_3)).trans hx134_3
                      have HR134_3:=Aside0.mk hi134_3
                      have HC134_3:=Aside0.mk hl134_3
                      clear hi134_3 hl134_3
                      replace p134:=eq_true p134
                      replace q134:=eq_true q134
                      have p135 : 0 ≤ (x4_2 : Int):=of_decide_eq_true (by first|(with_reducible assumption)|assumption)
                      have q135 : x4_2 < (l0.length : Int):=of_decide_eq_true (by first|(with_reducible assumption)|assumption)
                      obtain ⟨ad135,A135_3,c135_3,e135,hx135_0,hx135_1,hx135_2,hx135_3,hl135_3,hi135_3⟩:=at_T49 HR0.out x4_2 p135 q135
                      obtain rfl : ad132 = ad135:=(by injection e135)
                      replace hx135_0:=(HB.out.cell (World.block_lt_of_cell? w _ hx135_0)).trans hx135_0
                      replace hx135_1:=(HB.out.cell (World.block_lt_of_cell? w _ hx135_1)).trans hx135_1
                      replace hx135_2:=(HB.out.cell (World.block_lt_of_cell? w _ hx135_2)).trans hx135_2
                      replace hx135_3:=(HB.out.cell (World.block_lt_of_cell? w _ hx135_3)).trans hx135_3
                      have HR135_3:=Aside0.mk hi135_3
                      have HC135_3:=Aside0.mk hl135_3
                      clear hi135_3 hl135_3
                      replace p135:=eq_true p135
                      replace q135:=eq_true q135
                      have ea_:=Option.some.inj (hx134_3.symm.trans hx135_3)
                      injection ea_ with ea_ en_ ec_
                      subst ea_
                      subst ec_
                      clear en_
                      have p136 : 0 ≤ (x5_3 : Int):=of_decide_eq_true (by first|(with_reducible assumption)|assumption)
                      have q136 : x5_3 < (((rd_T49 l0 x4_2).f3).length : Int):=of_decide_eq_true (by first|(with_reducible assumption)|assumption)
                      obtain ⟨ad136,e136,hx136_0⟩:=Kd.at_int HR135_3.out x5_3 p136 q136
                      cases e136
                      replace hx136_0:=(HB.out.cell (World.block_lt_of_cell? w _ hx136_0)).trans hx136_0
                      replace p136:=eq_true p136
                      replace q136:=eq_true q136
                      obtain ⟨Ao23,co23,eo23⟩:=Kd.R_slice HO_3.out
                      subst eo23
                      have p137 : 0 ≤ ((rd ((rd_T49 l0 x4_2).f3) x5_3) : Int):=of_decide_eq_true (by first|(with_reducible assumption)|assumption)
                      have q137 : (rd ((rd_T49 l0 x4_2).f3) x5_3) < (x3_3.length : Int):=of_decide_eq_true (by first|(with_reducible assumption)|assumption)
                      obtain ⟨ad137,e137,hx137_0⟩:=Kd.at_int (Kd.R_reads' HO_3.out).2.2 (rd ((rd_T49 l0 x4_2).f3) x5_3) p137 q137
                      cases e137
                      replace p137:=eq_true p137
                      replace q137:=eq_true q137
                      go_wp2
                      go_ret
                      exact ⟨by first|rfl|(simp [errW_none,errW_some] <;> rfl)|(simp [*,errW_none,errW_some] <;> rfl),by repeat (first|(with_reducible first|exact HB.out|apply below_alloc|apply pw_below_drewN|apply below_drew1)|exact HB.out)⟩
                     ·rw [if_neg c22] at H
                      have c22b0 : decide (0 < (rd x3_3 (rd ((rd_T49 l0 x4_2).f3) x5_3))) = false:=decide_eq_false c22
                      clear c22
                      obtain ⟨y139,hy139⟩ : ∃ y_ : List Int,y_ = (x3_3.set ((rd ((rd_T49 l0 x4_2).f3) x5_3) : Int).toNat (wrap64 ((rd x3_3 (rd ((rd_T49 l0 x4_2).f3) x5_3)) + 1))):=⟨_,rfl⟩
                      replace H : (spec_ReOk.l1 k3 l0 y139 x4_2 (wrap64 (x5_3 + 1))) = some r:=by first|(rw [hy139];with_reducible exact H)|(have H2_:=(Option.bind_some _ _).symm.trans H;rw [hy139];with_reducible exact H2_)|(have H2_:=(Option.bind_some _ _).symm.trans H;with_reducible exact H2_)|with_reducible exact H|(rw [hy139];exact H)|exact H
                      have Ny139:=Aside0.mk hy139
                      clear hy139
                      have H':=Aside0.mk H
                      clear H
                      have p134 : 0 ≤ (x4_2 : Int):=of_decide_eq_true (by first|(with_reducible assumption)|assumption)
                      have q134 : x4_2 < (l0.length : Int):=of_decide_eq_true (by first|(with_reducible assumption)|assumption)
                      obtain ⟨ad134,A134_3,c134_3,e134,hx134_0,hx134_1,hx134_2,hx134_3,hl134_3,hi134_3⟩:=at_T49 HR0.out x4_2 p134 q134
                      obtain rfl : ad132 = ad134:=(by injection e134)
                      replace hx134_0:=(HB.out.cell (World.block_lt_of_cell? w _ hx134_0)).trans hx134_0
                      replace hx134_1:=(HB.out.cell (World.block_lt_of_cell? w _ hx134_1)).trans hx134_1
                      replace hx134_2:=(HB.out.cell (World.block_lt_of_cell? w _ hx134_2)).trans hx134_2
                      replace hx134_3:=(HB.out.cell (World.block_lt_of_cell? w _ hx134_3)).trans hx134_3
                      have HR134_3:=Aside0.mk hi134_3
                      have HC134_3:=Aside0.mk hl134_3
                      clear hi134_3 hl134_3
                      replace p134:=eq_true p134
                      replace q134:=eq_true q134
                      have p135 : 0 ≤ (x4_2 : Int):=of_decide_eq_true (by first|(with_reducible assumption)|assumption)
                      have q135 : x4_2 < (l0.length : Int):=of_decide_eq_true (by first|(with_reducible assumption)|assumption)
                      obtain ⟨ad135,A135_3,c135_3,e135,hx135_0,hx135_1,hx135_2,hx135_3,hl135_3,hi135_3⟩:=at_T49 HR0.out x4_2 p135 q135
                      obtain rfl : ad132 = ad135:=(by injection e135)
                      replace hx135_0:=(HB.out.cell (World.block_lt_of_cell? w _ hx135_0)).trans hx135_0
                      replace hx135_1:=(HB.out.cell (World.block_lt_of_cell? w _ hx135_1)).trans hx135_1
                      replace hx135_2:=(HB.out.cell (World.block_lt_of_cell? w _ hx135_2)).trans hx135_2
                      replace hx135_3:=(HB.out.cell (World.block_lt_of_cell? w _ hx135_3)).trans hx135_3
                      have HR135_3:=Aside0.mk hi135_3
                      have HC135_3:=Aside0.mk hl135_3
                      clear hi135_3 hl135_3
                      replace p135:=eq_true p135
                      replace q135:=eq_true q135
                      have ea_:=Option.some.inj (hx134_3.symm.trans hx135_3)
                      injection ea_ with ea_ en_ ec_
                      subst ea_
                      subst ec_
                      clear en_
                      have p136 : 0 ≤ (x5_3 : Int):=of_decide_eq_true (by first|(with_reducible assumption)|assumption)
                      have q136 : x5_3 < (((rd_T49 l0 x4_2).f3).length : Int):=of_decide_eq_true (by first|(with_reducible assumption)|assumption)
                      obtain ⟨ad136,e136,hx136_0⟩:=Kd.at_int HR135_3.out x5_3 p136 q136
                      cases e136
                      replace hx136_0:=(HB.out.cell (World.block_lt_of_cell? w _ hx136_0)).trans hx136_0
                      replace p136:=eq_true p136
                      replace q136:=eq_true q136
                      obtain ⟨Ao25,co25,eo25⟩:=Kd.R_slice HO_3.out
                      subst eo25
                      have p137 : 0 ≤ ((rd ((rd_T49 l0 x4_2).f3) x5_3) : Int):=of_decide_eq_true (by first|(with_reducible assumption)|assumption)
                      have q137 : (rd ((rd_T49 l0 x4_2).f3) x5_3) < (x3_3.length : Int):=of_decide_eq_true (by first|(with_reducible assumption)|assumption)
                      obtain ⟨ad137,e137,hx137_0⟩:=Kd.at_int (Kd.R_reads' HO_3.out).2.2 (rd ((rd_T49 l0 x4_2).f3) x5_3) p137 q137
                      cases e137
                      replace p137:=eq_true p137
                      replace q137:=eq_true q137
                      have p138 : 0 ≤ ((rd ((rd_T49 l0 x4_2).f3) x5_3) : Int):=of_decide_eq_true (by first|(with_reducible assumption)|assumption)
                      have q138 : (rd ((rd_T49 l0 x4_2).f3) x5_3) < (x3_3.length : Int):=of_decide_eq_true (by first|(with_reducible assumption)|assumption)
                      obtain ⟨ad138,e138,hx138_0⟩:=Kd.at_int (Kd.R_reads' HO_3.out).2.2 (rd ((rd_T49 l0 x4_2).f3) x5_3) p138 q138
                      obtain rfl : ad137 = ad138:=(by injection e138)
                      replace p138:=eq_true p138
                      replace q138:=eq_true q138
                      have p24 : 0 ≤ ((rd ((rd_T49 l0 x4_2).f3) x5_3) : Int):=of_decide_eq_true (by first|(with_reducible assumption)|assumption)
                      have q24 : ((rd ((rd_T49 l0 x4_2).f3) x5_3) : Int) < ((x3_3.length : Int) : Int):=of_decide_eq_true (by first|(with_reducible assumption)|assumption)
                      obtain ⟨go24,co24,eo24,gb24,gl24,cl24,HG24⟩:=Kd.R_form HO_3.out (by omega)
                      (first|cases eo24|(injection eo24 with ea_ en_ ec_;(first|subst ea_|(injection ea_ with ea_;subst ea_));subst ec_;clear en_))
                      have GB24:=Aside0.mk gb24
                      have GG24:=Aside0.mk HG24
                      clear gb24 gl24 HG24
                      (first|simp only [add_plain] at hx137_0|skip)
                      (first|simp only [add_plain] at hx138_0|skip)
                      obtain ⟨hx24_0,hf24_0⟩:=Kd.R_celln 0 HO_3.out ((rd ((rd_T49 l0 x4_2).f3) x5_3) : Int) p24 q24
                      replace p24:=eq_true p24
                      replace q24:=eq_true q24
                      have HP26:=Kd.R_putg HO_3.out ((rd ((rd_T49 l0 x4_2).f3) x5_3) : Int) (wrap64 ((rd x3_3 (rd ((rd_T49 l0 x4_2).f3) x5_3)) + 1))
                      go_wp2_with (first|((with_reducible refine gate_store (t:=3) (p:=68) rfl ?_);refine store_event (t:=3) (p:=68) (v:=?vo_w27) (w1:=(wr.setCell ⟨go24,((rd ((rd_T49 l0 x4_2).f3) x5_3) : Int).toNat,none⟩ (.int .i64 (wrap64 ((rd x3_3 (rd ((rd_T49 l0 x4_2).f3) x5_3)) + 1))))) ?hg ?ho ?hn ?hr ?_;(case ho=>rfl);(case hg=>rfl);(case hn=>rfl);(case hr=>first|(go_simp;done)|(go_simp;rfl));intro w27 hw;have hg : wr.grownBy w27 (some go24):=(by rw [hw];exact HP26.2);have hp_ : Kd.R (Kd.int .i64) 3 w27 w.heap.size (fun _=>True) (.slice (some ⟨go24,0,none⟩) x3_3.length co25) y139:=(by rw [hw,Ny139.out];exact HP26.1);clear HP26;have n0_:=Aside0.mk (hp_);have n1_:=Aside0.mk ((by rw [hw];exact below_set (HB.out) GB24.out : Below w.heap.size w w27));clear HO_3;clear HB;have HO_3:=n0_;have HB:=n1_;clear n0_ n1_;clear hg hw hp_))
                      go_roundg k3
                      case measure=>have:=HJ1.out;have:=HK2.out;have:=HK3.out;omega
                      case rel=>exact ⟨(y139),(wrap64 (x5_3 + 1)),(by first|rfl|(simp;done)|(simp [*];done)),H',⟨by have:=HJ1.out;have:=HK2.out;have:=HK3.out;omega⟩,⟨by (with_reducible repeat (first|apply Kd.R_alloc|apply Kd.R_drewN|apply Kd.R_drew));exact HO_3.out⟩,⟨by repeat (first|(with_reducible first|exact HB.out|apply below_alloc|apply pw_below_drewN|apply below_drew1)|exact HB.out)⟩⟩
                    ·rw [if_neg c21] at H
                     exact absurd H (by simp)
                   ·rw [if_neg c20] at H
                    exact absurd H (by simp)
                ·rw [if_neg c17] at H
                 exact absurd H (by simp)
               ·rw [if_neg c16] at H
                have c16b0 : decide (x5_3 < (((rd_T49 l0 x4_2).f3).length : Int)) = false:=decide_eq_false c16
                clear c16
                have H':=Aside0.mk H
                clear H
                have p134 : 0 ≤ (x4_2 : Int):=of_decide_eq_true (by first|(with_reducible assumption)|assumption)
                have q134 : x4_2 < (l0.length : Int):=of_decide_eq_true (by first|(with_reducible assumption)|assumption)
                obtain ⟨ad134,A134_3,c134_3,e134,hx134_0,hx134_1,hx134_2,hx134_3,hl134_3,hi134_3⟩:=at_T49 HR0.out x4_2 p134 q134
                obtain rfl : ad132 = ad134:=(by injection e134)
                replace hx134_0:=(HB.out.cell (World.block_lt_of_cell? w _ hx134_0)).trans hx134_0
                replace hx134_1:=(HB.out.cell (World.block_lt_of_cell? w _ hx134_1)).trans hx134_1
                replace hx134_2:=(HB.out.cell (World.block_lt_of_cell? w _ hx134_2)).trans hx134_2
                replace hx134_3:=(HB.out.cell (World.block_lt_of_cell? w _ hx134_3)).trans hx134_3
                have HR134_3:=Aside0.mk hi134_3
                have HC134_3:=Aside0.mk hl134_3
                clear hi134_3 hl134_3
                replace p134:=eq_true p134
                replace q134:=eq_true q134
                go_wp2
                go_roundg k3
                case measure=>have:=HJ1.out;have:=HK2.out;have:=HK3.out;omega
                case rel=>exact ⟨(x3_3),(wrap64 (x4_2 + 1)),(by first|rfl|(simp;done)|(simp [*];done)),H',⟨by have:=HJ1.out;have:=HK2.out;have:=HK3.out;omega⟩,⟨by (with_reducible repeat (first|apply Kd.R_alloc|apply Kd.R_drewN|apply Kd.R_drew));exact HO_3.out⟩,⟨by repeat (first|(with_reducible first|exact HB.out|apply below_alloc|apply pw_below_drewN|apply below_drew1)|exact HB.out)⟩⟩
              ·rw [if_neg c15] at H
               exact absurd H (by simp)
             ·rw [if_neg c14] at H
              exact absurd H (by simp)
          ·replace c12:=Bool.eq_false_iff.mpr c12
           subst c12
           have H1 : (some false) = some r:=by rw [if_neg (show ¬ (false = true) by decide)] at H;exact H
           clear H
           have H:=H1
           clear H1
           obtain rfl:=Option.some.inj H
           have p132 : 0 ≤ (x4_2 : Int):=of_decide_eq_true (by first|(with_reducible assumption)|assumption)
           have q132 : x4_2 < (l0.length : Int):=of_decide_eq_true (by first|(with_reducible assumption)|assumption)
           obtain ⟨ad132,A132_3,c132_3,e132,hx132_0,hx132_1,hx132_2,hx132_3,hl132_3,hi132_3⟩:=at_T49 HR0.out x4_2 p132 q132
           cases e132
           replace hx132_0:=(HB.out.cell (World.block_lt_of_cell? w _ hx132_0)).trans hx132_0
           replace hx132_1:=(HB.out.cell (World.block_lt_of_cell? w _ hx132_1)).trans hx132_1
           replace hx132_2:=(HB.out.cell (World.block_lt_of_cell? w _ hx132_2)).trans hx132_2
           replace hx132_3:=(HB.out.cell (World.block_lt_of_cell? w _ hx132_3)).trans hx132_3
           have HR132_3:=Aside0.mk hi132_3
           have HC132_3:=Aside0.mk hl132_3
           clear hi132_3 hl132_3
           replace p132:=eq_true p132
           replace q132:=eq_true q132
           go_wp2_with (first|((with_reducible refine gate_callee (f:=52) rfl ?_);refine goesL_ (some 29) rfl rfl Tryd.func52 (by kernel_rfl) rfl #[.agg #[.int .i64 ((rd_T49 l0 x4_2).f0),.bool ((rd_T49 l0 x4_2).f1),.string ((rd_T49 l0 x4_2).f2),.slice A132_3 ((rd_T49 l0 x4_2).f3).length c132_3]] rfl (by (try simp only [List.map_toArray,List.map_cons,List.map_nil]);first|done|rfl|(simp only [List.length_drop,List.length_take];rfl)) ?_;(with_reducible refine (spec_l2kidsOk.calls k2 ((rd_T49 l0 x4_2).f0) ((rd_T49 l0 x4_2).f1) ((rd_T49 l0 x4_2).f2) _ _ ((rd_T49 l0 x4_2).f3) false _ ?side1 ?side2 A11.out).mono ?_);(case side1=>repeat (first|exact (Kd.C_below HR132_3.out HB.out)|(with_reducible refine Kd.C_alloc ?_ _)|(with_reducible refine Kd.C_drewN ?_ _)|(with_reducible refine Kd.C_drew ?_)));(case side2=>exact HC132_3.out);rintro e w28 ⟨rfl,hb⟩;refine ⟨_,rfl,?_⟩;have n0_:=Aside0.mk (Kd.R_below (by (with_reducible repeat (first|apply Kd.R_alloc|apply Kd.R_drewN|apply Kd.R_drew));exact HO_3.out) hb);have n1_:=Aside0.mk (below_step (by repeat (first|(with_reducible first|exact HB.out|apply below_alloc|apply pw_below_drewN|apply below_drew1)|exact HB.out)) hb);clear HO_3;clear HB;have HO_3:=n0_;have HB:=n1_;clear n0_ n1_;(try clear hb);(try clear hb2);(try clear hk);(try clear hi)))
           go_ret
           exact ⟨by first|rfl|(simp [errW_none,errW_some] <;> rfl)|(simp [*,errW_none,errW_some] <;> rfl),by repeat (first|(with_reducible first|exact HB.out|apply below_alloc|apply pw_below_drewN|apply below_drew1)|exact HB.out)⟩
         ·rw [if_neg c10] at H
          exact absurd H (by simp)
        ·rw [if_neg c9] at H
         have c9b0 : decide (x4_2 < (l0.length : Int)) = false:=decide_eq_false c9
         clear c9
         have H':=Aside0.mk H
         clear H
         go_wp2
         go_loopg [7] k2 (fun kq v7 w'=>∃ (x7_3 : Int),v7 = .int .i64 x7_3 ∧ Aside0 (spec_ReOk.l2 kq l0 x3_2 x7_3 = some r) ∧ Aside0 (kq ≤ k2) ∧ Aside0 (Kd.R (Kd.int .i64) 3 w' w.heap.size (fun _=>True) v130 x3_2) ∧ Aside0 (Below w.heap.size w w'))
         case atStart=>exact ⟨(0),(by first|rfl|(simp;done)|(simp [*];done)),H',⟨Nat.le_refl _⟩,⟨by (with_reducible repeat (first|apply Kd.R_alloc|apply Kd.R_drewN|apply Kd.R_drew));exact HO_3.out⟩,⟨by repeat (first|(with_reducible first|exact HB.out|apply below_alloc|apply pw_below_drewN|apply below_drew1)|exact HB.out)⟩⟩
         case round =>
          clear H'
          try clear c1
          try clear p1
          try clear q1
          try clear hx1
          try clear c2
          try clear p2
          try clear q2
          try clear hx2
          try clear hf2
          try clear c3
          try clear c3b0
          try clear c3b1
          try clear c4
          try clear c5
          try clear c5b0
          try clear c5b1
          try clear c6
          try clear c6b0
          try clear c6b1
          try clear p6
          try clear c9
          try clear c9b0
          try clear c10
          try clear c10b0
          try clear c12
          try clear c13
          try clear p13
          try clear q13
          try clear hx13
          try clear c14
          try clear c14b0
          try clear c15
          try clear c15b0
          try clear c16
          try clear c16b0
          try clear c17
          try clear c17b0
          try clear c18
          try clear c18b0
          try clear c19
          try clear c19b0
          try clear c20
          try clear c20b0
          try clear c21
          try clear c21b0
          try clear c22
          try clear c22b0
          try clear p24
          try clear q24
          try clear hx24
          try clear hf24
          try clear hx132_0
          try clear hx132_1
          try clear hx132_2
          try clear hx132_3
          try clear hx134_0
          try clear hx134_1
          try clear hx134_2
          try clear hx134_3
          try clear hx135_0
          try clear hx135_1
          try clear hx135_2
          try clear hx135_3
          try clear hx136_0
          try clear hx137_0
          try clear hx138_0
          try clear hx24_0
          try clear p1
          try clear p13
          try clear p132
          try clear p134
          try clear p135
          try clear p136
          try clear p137
          try clear p138
          try clear p2
          try clear p24
          try clear q1
          try clear q13
          try clear q132
          try clear q134
          try clear q135
          try clear q136
          try clear q137
          try clear q138
          try clear q24
          obtain ⟨x7_3,rfl,HA,HK3,HO_3,HB⟩:=hrel
          cases gk with
          | zero=>exact absurd HA.out (by simp [spec_ReOk.l2])
          | succ k3 =>
           have H:=HA.out
           clear HA
           simp only [spec_ReOk.l2] at H
           by_cases c29 : (wrap64 (x7_3 + 1)) < (l0.length : Int)
           ·rw [if_pos c29] at H
            have c29b0 : decide ((wrap64 (x7_3 + 1)) < (l0.length : Int)) = true:=decide_eq_true c29
            clear c29
            by_cases c30 : 0 ≤ x7_3
            ·rw [if_pos c30] at H
             have c30b0 : decide (0 ≤ x7_3) = true:=decide_eq_true c30
             clear c30
             by_cases c31 : x7_3 < (x3_2.length : Int)
             ·rw [if_pos c31] at H
              have c31b0 : decide (x7_3 < (x3_2.length : Int)) = true:=decide_eq_true c31
              clear c31
              by_cases c32 : (rd x3_2 x7_3) = 1
              ·rw [if_pos c32] at H
               have c32b0 : ((rd x3_2 x7_3) == 1) = true:=beq_iff_eq.mpr c32
               have c32b1 : ((rd x3_2 x7_3) != 1) = false:=bne_eq_false_iff_eq.mpr c32
               clear c32
               have H':=Aside0.mk H
               clear H
               obtain ⟨Ao33,co33,eo33⟩:=Kd.R_slice HO_3.out
               subst eo33
               have p140 : 0 ≤ (x7_3 : Int):=of_decide_eq_true (by first|(with_reducible assumption)|assumption)
               have q140 : x7_3 < (x3_2.length : Int):=of_decide_eq_true (by first|(with_reducible assumption)|assumption)
               obtain ⟨ad140,e140,hx140_0⟩:=Kd.at_int (Kd.R_reads' HO_3.out).2.2 x7_3 p140 q140
               cases e140
               replace p140:=eq_true p140
               replace q140:=eq_true q140
               go_wp2
               go_roundg k3
               case measure=>have:=HJ1.out;have:=HK2.out;have:=HK3.out;omega
               case rel=>exact ⟨(wrap64 (x7_3 + 1)),(by first|rfl|(simp;done)|(simp [*];done)),H',⟨by have:=HJ1.out;have:=HK2.out;have:=HK3.out;omega⟩,⟨by (with_reducible repeat (first|apply Kd.R_alloc|apply Kd.R_drewN|apply Kd.R_drew));exact HO_3.out⟩,⟨by repeat (first|(with_reducible first|exact HB.out|apply below_alloc|apply pw_below_drewN|apply below_drew1)|exact HB.out)⟩⟩
              ·rw [if_neg c32] at H
               have c32b0 : ((rd x3_2 x7_3) == 1) = false:=beq_eq_false_iff_ne.mpr c32
               have c32b1 : ((rd x3_2 x7_3) != 1) = true:=bne_iff_ne.mpr c32
               obtain rfl:=Option.some.inj H
               obtain ⟨Ao34,co34,eo34⟩:=Kd.R_slice HO_3.out
               subst eo34
               have p140 : 0 ≤ (x7_3 : Int):=of_decide_eq_true (by first|(with_reducible assumption)|assumption)
               have q140 : x7_3 < (x3_2.length : Int):=of_decide_eq_true (by first|(with_reducible assumption)|assumption)
               obtain ⟨ad140,e140,hx140_0⟩:=Kd.at_int (Kd.R_reads' HO_3.out).2.2 x7_3 p140 q140
               cases e140
               replace p140:=eq_true p140
               replace q140:=eq_true q140
               go_wp2
               go_ret
               exact ⟨by first|rfl|(simp [errW_none,errW_some] <;> rfl)|(simp [*,errW_none,errW_some] <;> rfl),by repeat (first|(with_reducible first|exact HB.out|apply below_alloc|apply pw_below_drewN|apply below_drew1)|exact HB.out)⟩
             ·rw [if_neg c31] at H
              exact absurd H (by simp)
            ·rw [if_neg c30] at H
             exact absurd H (by simp)
           ·rw [if_neg c29] at H
            have c29b0 : decide ((wrap64 (x7_3 + 1)) < (l0.length : Int)) = false:=decide_eq_false c29
            clear c29
            obtain rfl:=Option.some.inj H
            go_wp2
            go_ret
            exact ⟨by first|rfl|(simp [errW_none,errW_some] <;> rfl)|(simp [*,errW_none,errW_some] <;> rfl),by repeat (first|(with_reducible first|exact HB.out|apply below_alloc|apply pw_below_drewN|apply below_drew1)|exact HB.out)⟩
     ·rw [if_neg c6] at H
      exact absurd H (by simp)
    ·rw [if_neg c5] at H
     exact absurd H (by simp)
end Go.Proofs.YtlakdfbfkbndiaaDoor.Q
set_option linter.unusedVariables false
namespace Go.Proofs.YtlakdfbfkbndiaaDoor.Ev.Pr
open Go
section
variable {ρ : Type}
abbrev ReN : Type:=Int × Bool × ByteArray × List Int
def toS (x : ReN) : Q.S49:=⟨x.1,x.2.1,x.2.2.1,x.2.2.2⟩
def ofO {α : Type} (x : Option α) (κ : α → Option ρ) : Option ρ:=match x with|some a=>κ a|none=>none
noncomputable def X_impl_ReFind (x0 : List ReN) (x1 : ByteArray) (κ : Int → Int → Option ρ) : Option ρ:=ofO (Q.impl_ReFind.f (x0.map toS) x1) fun r=>κ r.1 r.2
noncomputable def X_impl_ReTest (x0 : List ReN) (x1 : ByteArray) (κ : Bool → Option ρ) : Option ρ:=ofO (Q.impl_ReTest.f (x0.map toS) x1) κ
noncomputable def X_impl_ReEnds (x0 : List ReN) (x1 : ByteArray) (x2 : Int) (κ : List Int → Option ρ) : Option ρ:=ofO (Q.impl_ReEnds.f (x0.map toS) x1 x2) κ
noncomputable def X_impl_ReCount (x0 : List ReN) (x1 : ByteArray) (κ : Int → Option ρ) : Option ρ:=ofO (Q.impl_ReCount.f (x0.map toS) x1) κ
open Classical in
/-- With rounds enough. -/
noncomputable def specOk (l : List Q.S49) : Option Bool:=if h : ∃ b k,Q.spec_ReOk.f k l = some b then some h.choose else none
noncomputable def X_spec_ReOk (x0 : List ReN) (κ : Bool → Option ρ) : Option ρ:=ofO (specOk (x0.map toS)) κ
def X_laws_put (x0 : List Bool) (x1 : Int) : List Bool × Bool:=if 0 ≤ x1 ∧ x1 < (x0.length : Int) then (x0.set x1.toNat true,true) else (x0,false)
def X_strings_IndexByte (x0 : ByteArray) (x1 : Int) (κ : Int → Option ρ) : Option ρ:=κ (Lib.indexByte x0.data.toList x1.toNat.toUInt8)
end
end Go.Proofs.YtlakdfbfkbndiaaDoor.Ev.Pr
set_option linter.unusedVariables false
set_option maxRecDepth 100000
namespace Go.Proofs.YtlakdfbfkbndiaaDoor.Ev.Pr
open Go Go.RowKit Go.Proofs.YtlakdfbfkbndiaaDoorW.PrintWords Go.Proofs.YtlakdfbfkbndiaaDoorW.PrintMore Kd Go.Proofs.YtlakdfbfkbndiaaDoor.Ev
abbrev ys3 : Ty:=.sl 3 (.int .i64)
abbrev yt49r2 : Ty:=.pr .str ys3
abbrev Tt49r2 : Type:=ByteArray × (List Int)
abbrev yt49r1 : Ty:=.pr .bool yt49r2
abbrev Tt49r1 : Type:=Bool × Tt49r2
abbrev yt49 : Ty:=.pr (.int .i64) yt49r1
abbrev Tt49 : Type:=Int × Tt49r1
abbrev elt49 (xs : List Tt49) (i : Int) : Tt49:=elem yt49 xs i
structure Tb (ρ : Type) where
 laws_FnStars : (List Int) → (Bool → Option ρ) → Option ρ
 laws_FnStars_s12 : ByteArray → Int → Int → (List Tt49) → (List Tt49) → (List Tt49) → (List Bool) → (List Bool) → (List Int) → (Bool → Option ρ) → Option ρ
 laws_FnStars_s18 : ByteArray → Int → Int → Int → (List Tt49) → (List Tt49) → (List Tt49) → (List Bool) → (List Bool) → (List Int) → (List Int) → (Bool → Option ρ) → Option ρ
 impl_ReFind : (List Tt49) → ByteArray → (Int → Int → Option ρ) → Option ρ
 impl_ReTest : (List Tt49) → ByteArray → (Bool → Option ρ) → Option ρ
 impl_ReEnds : (List Tt49) → ByteArray → Int → (List Int → Option ρ) → Option ρ
 impl_ReCount : (List Tt49) → ByteArray → (Int → Option ρ) → Option ρ
 spec_DrawReFind : (List Int) → (List Tt49 → ByteArray → Option ρ) → Option ρ
 spec_ReOk : (List Tt49) → (Bool → Option ρ) → Option ρ
 laws_shapes : (Bool → Option ρ) → Option ρ
 laws_shift : (List Tt49) → Int → (List Tt49 → Option ρ) → Option ρ
 laws_shift_s3 : (List Tt49) → Int → Int → (List Tt49) → (List Tt49 → Option ρ) → Option ρ
 laws_shift_s7 : (List Tt49) → Int → Int → Int → (List Tt49) → Int → Bool → ByteArray → (List Int) → (List Tt49 → Option ρ) → Option ρ
 laws_at : (List Int) → Int → (Int → Option ρ) → Option ρ
 laws_sameInts : (List Int) → (List Int) → (Bool → Option ρ) → Option ρ
 laws_sameInts_s4 : (List Int) → (List Int) → Int → (Bool → Option ρ) → Option ρ
 laws_list : (List Bool) → (List Int → Option ρ) → Option ρ
 laws_list_s3 : (List Bool) → Int → (List Int) → (List Int → Option ρ) → Option ρ
 impl_between : Int → Int → Int → (Bool → Option ρ) → Option ρ
 spec_l1New : (List Int) → (List Int → Int → Int → Option ρ) → Option ρ
 spec_l1New_s3 : (List Int) → Int → Int → (List Int → Int → Int → Option ρ) → Option ρ
 spec_l2tree : (List Int) → Int → Int → (List Tt49 → Int → Int → Option ρ) → Option ρ
 spec_l2tree_s13 : (List Tt49) → (List Int) → Int → Int → (List Tt49 → Int → Int → Option ρ) → Option ρ
 spec_l2subject : (List Int) → Int → Int → (ByteArray → Int → Int → Option ρ) → Option ρ
 impl_ReParse : ByteArray → (List Tt49 → Bool → Option ρ) → Option ρ
 impl_ReText : (List Tt49) → (ByteArray → Option ρ) → Option ρ
 impl_ReOk : (List Tt49) → (Bool → Option ρ) → Option ρ
 impl_ReOk_s5 : (List Tt49) → (List Tt49) → Int → Int → (List Int) → (Bool → Option ρ) → Option ρ
 impl_ReOk_s10 : (List Tt49) → Int → (List Tt49) → Int → Int → (List Int) → Int → Int → (List Int) → (Bool → Option ρ) → Option ρ
 spec_ReParse : ByteArray → (List Tt49 → Bool → Option ρ) → Option ρ
 spec_l2pattern : (List Int) → Int → Int → (ByteArray → Int → Int → Option ρ) → Option ρ
 spec_l2byte : Int → (Int → Bool → ByteArray → List Int → Option ρ) → Option ρ
 spec_l1Below : Int → (List Int) → Int → Int → (Int → Int → Int → Option ρ) → Option ρ
 spec_l1text : (List ByteArray) → (List Int) → Int → Int → (ByteArray → Int → Int → Option ρ) → Option ρ
 spec_l1Once : Int → (List Int) → Int → Int → (Bool → Int → Int → Option ρ) → Option ρ
 spec_l1of : Int → ByteArray → (List Int) → Int → Int → (ByteArray → Int → Int → Option ρ) → Option ρ
 spec_l1of_s3 : Int → ByteArray → Int → (List Int) → (List Int) → Int → Int → (ByteArray → Int → Int → Option ρ) → Option ρ
 impl_reParser_whole : ByteArray → Int → Int → (List Tt49) → Bool → (Int → Int → Int → List Tt49 → Bool → Option ρ) → Option ρ
 impl_reParser_whole_s2 : (List Int) → ByteArray → Int → Int → (List Tt49) → Bool → (Int → Int → Int → List Tt49 → Bool → Option ρ) → Option ρ
 impl_reText : (List Tt49) → Int → (ByteArray → Int → Bool → Option ρ) → Option ρ
 impl_reText_s10 : (List Tt49) → ByteArray → Int → (List Int) → Int → Int → Int → Bool → ByteArray → (List Int) → (ByteArray → Int → Bool → Option ρ) → Option ρ
 impl_reText_s17 : (List Tt49) → ByteArray → Int → Int → ByteArray → Int → Bool → (List Int) → Int → Int → Int → Bool → ByteArray → (List Int) → (ByteArray → Int → Bool → Option ρ) → Option ρ
 impl_reText_s19 : (List Tt49) → ByteArray → Int → ByteArray → Int → Bool → (List Int) → Int → Int → Int → Bool → ByteArray → (List Int) → (ByteArray → Int → Bool → Option ρ) → Option ρ
 impl_reText_s22 : (ByteArray → Int → Bool → Option ρ) → Option ρ
 impl_isReNode : Int → Bool → ByteArray → (List Int) → (Bool → Option ρ) → Option ρ
 impl_isReNode_s10 : Int → Bool → ByteArray → (List Int) → (Bool → Option ρ) → Option ρ
 impl_isReNode_s11 : Int → Int → Bool → ByteArray → (List Int) → (Bool → Option ρ) → Option ρ
 impl_isReNode_s14 : Int → Bool → ByteArray → (List Int) → (Bool → Option ρ) → Option ρ
 impl_isReNode_s15 : (Bool → Option ρ) → Option ρ
 impl_isReNode_s19 : Int → Int → Bool → ByteArray → (List Int) → (Bool → Option ρ) → Option ρ
 slices_ContainsFuncintint : (List Int) → (Bool → Option ρ) → Option ρ
 impl_ReOk_1 : Int → (Bool → Option ρ) → Option ρ
 spec_l2alt : Int → ByteArray → Int → (List Tt49) → Bool → (Int → Int → List Tt49 → Bool → Option ρ) → Option ρ
 spec_l2alt_s2 : Int → (List Int) → ByteArray → Int → (List Tt49) → Bool → (Int → Int → List Tt49 → Bool → Option ρ) → Option ρ
 spec_l2draw : Int → (List Int) → Int → Int → (ByteArray → Int → Int → Option ρ) → Option ρ
 spec_l2draw_s18 : (List Int) → Int → Int → (ByteArray → Int → Int → Option ρ) → Option ρ
 spec_l1bend : ByteArray → (List Int) → Int → Int → (ByteArray → Int → Int → Option ρ) → Option ρ
 spec_l1Byte : (List Int) → Int → Int → (Int → Int → Int → Option ρ) → Option ρ
 impl_reParser_part : ByteArray → Int → Int → (List Tt49) → Bool → (Int → Int → Int → List Tt49 → Bool → Option ρ) → Option ρ
 impl_reParser_part_s2 : (List Int) → ByteArray → Int → Int → (List Tt49) → Bool → (Int → Int → Int → List Tt49 → Bool → Option ρ) → Option ρ
 impl_reParser_sees : ByteArray → ByteArray → Int → (Bool → Option ρ) → Option ρ
 impl_reParser_joined : Int → (List Int) → (List Tt49) → Bool → (Int → List Tt49 → Bool → Option ρ) → Option ρ
 impl_setText : Int → Bool → ByteArray → (List Int) → (ByteArray → Option ρ) → Option ρ
 impl_setText_s5 : Int → Bool → ByteArray → (List Int) → (ByteArray → Option ρ) → Option ρ
 impl_setText_s8 : ByteArray → Int → Bool → ByteArray → (List Int) → (ByteArray → Option ρ) → Option ρ
 impl_setText_s9 : ByteArray → Int → Int → Bool → ByteArray → (List Int) → (ByteArray → Option ρ) → Option ρ
 slices_IndexFuncintint : (List Int) → (Int → Option ρ) → Option ρ
 slices_IndexFuncintint_s2 : (List Int) → Int → Int → (Int → Option ρ) → Option ρ
 spec_l2seq : Int → ByteArray → Int → (List Tt49) → Bool → (Int → Int → List Tt49 → Bool → Option ρ) → Option ρ
 spec_l2seq_s2 : Int → (List Int) → ByteArray → Int → (List Tt49) → Bool → (Int → Int → List Tt49 → Bool → Option ρ) → Option ρ
 spec_l2seq_s4 : (List Int) → ByteArray → Int → (List Tt49) → Bool → (Int → Int → List Tt49 → Bool → Option ρ) → Option ρ
 spec_l2more : ByteArray → Int → (Bool → Option ρ) → Option ρ
 spec_l2peek : ByteArray → Int → (Int → Option ρ) → Option ρ
 spec_l2node : Int → Bool → ByteArray → (List Int) → (List Tt49) → (Int → List Tt49 → Option ρ) → Option ρ
 spec_l2node_1 : Int → Bool → ByteArray → (List Tt49) → (Int → List Tt49 → Option ρ) → Option ρ
 impl_reParser_repeated : ByteArray → Int → Int → (List Tt49) → Bool → (Int → Int → Int → List Tt49 → Bool → Option ρ) → Option ρ
 impl_reParser_repeated_s2 : Int → ByteArray → Int → Int → (List Tt49) → Bool → (Int → Int → Int → List Tt49 → Bool → Option ρ) → Option ρ
 strings_IndexByte : ByteArray → Int → (Int → Option ρ) → Option ρ
 impl_reParser_add : Int → Bool → ByteArray → (List Tt49) → Bool → (Int → List Tt49 → Bool → Option ρ) → Option ρ
 impl_reParser_add_1 : Int → Bool → ByteArray → (List Int) → (List Tt49) → Bool → (Int → List Tt49 → Bool → Option ρ) → Option ρ
 impl_masked : Int → ByteArray → (ByteArray → Option ρ) → Option ρ
 spec_l2rep : Int → ByteArray → Int → (List Tt49) → Bool → (Int → Int → List Tt49 → Bool → Option ρ) → Option ρ
 spec_l2rep_s2 : Int → ByteArray → Int → (List Tt49) → Bool → (Int → Int → List Tt49 → Bool → Option ρ) → Option ρ
 impl_reParser_atom : ByteArray → Int → Int → (List Tt49) → Bool → (Int → Int → Int → List Tt49 → Bool → Option ρ) → Option ρ
 impl_reParser_atom_s3 : Int → ByteArray → Int → Int → (List Tt49) → Bool → (Int → Int → Int → List Tt49 → Bool → Option ρ) → Option ρ
 impl_reParser_atom_s30 : ByteArray → Int → Int → (List Tt49) → Bool → (Int → Int → Int → List Tt49 → Bool → Option ρ) → Option ρ
 impl_reParser_next : ByteArray → Int → Bool → (Int → Int → Bool → Option ρ) → Option ρ
 spec_l2atom : Int → ByteArray → Int → (List Tt49) → Bool → (Int → Int → List Tt49 → Bool → Option ρ) → Option ρ
 spec_l2has : ByteArray → Int → (Bool → Option ρ) → Option ρ
 spec_l2has_s2 : ByteArray → Int → Int → (Bool → Option ρ) → Option ρ
 impl_reParser_class : ByteArray → Int → (List Tt49) → Bool → (Int → Int → List Tt49 → Bool → Option ρ) → Option ρ
 impl_reParser_class_s5 : (List Int) → ByteArray → Int → (List Tt49) → Bool → Int → Bool → ByteArray → (List Int) → (Int → Int → List Tt49 → Bool → Option ρ) → Option ρ
 impl_reParser_class_s11 : Int → Int → Int → Bool → Bool → Bool → (List Int) → ByteArray → Int → (List Tt49) → Bool → Int → Bool → ByteArray → (List Int) → (Int → Int → List Tt49 → Bool → Option ρ) → Option ρ
 impl_reParser_class_s12 : Int → Int → Int → Bool → Bool → Bool → (List Int) → ByteArray → Int → (List Tt49) → Bool → Int → Bool → ByteArray → (List Int) → (Int → Int → List Tt49 → Bool → Option ρ) → Option ρ
 impl_reParser_single : Int → (List Tt49) → Bool → (Int → List Tt49 → Bool → Option ρ) → Option ρ
 spec_l2set : ByteArray → Int → (List Tt49) → Bool → (Int → Int → List Tt49 → Bool → Option ρ) → Option ρ
 spec_l2set_s8 : Bool → (List Int) → ByteArray → Int → (List Tt49) → Bool → Int → Bool → ByteArray → (List Int) → (Int → Int → List Tt49 → Bool → Option ρ) → Option ρ
 spec_l2set_s15 : Int → Int → Bool → Bool → Bool → (List Int) → ByteArray → Int → (List Tt49) → Bool → Int → Bool → ByteArray → (List Int) → (Int → Int → List Tt49 → Bool → Option ρ) → Option ρ
 spec_l2set_s17 : Int → Int → Bool → Bool → Bool → (List Int) → ByteArray → Int → (List Tt49) → Bool → Int → Bool → ByteArray → (List Int) → (Int → Int → List Tt49 → Bool → Option ρ) → Option ρ
 spec_l2set_s19 : ByteArray → Int → (List Tt49) → Bool → (Int → Int → List Tt49 → Bool → Option ρ) → Option ρ
 impl_reParser_item : ByteArray → Int → Bool → (Int → Int → Bool → Option ρ) → Option ρ
 spec_l2item : ByteArray → Int → Bool → (Int → Int → Bool → Option ρ) → Option ρ
end Go.Proofs.YtlakdfbfkbndiaaDoor.Ev.Pr
set_option linter.unusedVariables false
set_option maxRecDepth 100000
namespace Go.Proofs.YtlakdfbfkbndiaaDoor.Ev.Pr
open Go Go.RowKit Go.Proofs.YtlakdfbfkbndiaaDoorW.PrintWords Go.Proofs.YtlakdfbfkbndiaaDoorW.PrintMore Kd Go.Proofs.YtlakdfbfkbndiaaDoor.Ev
section
variable {ρ : Type}
def B_laws_FnStars (t : Tb ρ) (x0 : List Int) (κ : Bool → Option ρ) : Option ρ:=t.spec_DrawReFind x0 (fun (v1 : List Tt49) (v2 : ByteArray)=>t.spec_ReOk v1 (fun (v3 : Bool)=>bif !v3 then (t.laws_shapes  (fun (v4 : Bool)=>κ v4)) else (bif decide ((v1.length : Int) ≥ 200) then (t.laws_shapes  (fun (v5 : Bool)=>κ v5)) else (bif decide ((v2.size : Int) > 60) then (t.laws_shapes  (fun (v6 : Bool)=>κ v6)) else (t.laws_shift v1 0 (fun (v7 : List Tt49)=>if (v7.length + 1) * 56 ≤ 140737488355328 then t.laws_shift v1 0 (fun (v8 : List Tt49)=>if (v8.length + 1) * 56 ≤ 140737488355328 then t.laws_shift v1 0 (fun (v9 : List Tt49)=>if (v9.length + 1) * 56 ≤ 140737488355328 then t.laws_at x0 1 (fun (v10 : Int)=>if (w ((v2.size : Int) + 1)) = 0 then none else if (0 : Int) ≤ (w ((v2.size : Int) + 1)) then if (w ((v2.size : Int) + 1)) ≤ (w ((v2.size : Int) + 1)) then if (w ((v2.size : Int) + 1)).toNat * 1 ≤ 281474976710656 then if (0 : Int) ≤ (w ((v2.size : Int) + 1)) then if (w ((v2.size : Int) + 1)) ≤ (w ((v2.size : Int) + 1)) then if (w ((v2.size : Int) + 1)).toNat * 1 ≤ 281474976710656 then t.impl_ReEnds v1 v2 (v10.tmod (w ((v2.size : Int) + 1))) (fun (v11 : List Int)=>t.laws_FnStars_s12 v2 (v10.tmod (w ((v2.size : Int) + 1))) 0 (v7 ++ [(5,false,bs [],[w ((v1.length : Int) - 1)])]) (v8 ++ [(6,false,bs [],[w ((v1.length : Int) - 1)])]) (v9 ++ [(7,false,bs [],[w ((v1.length : Int) - 1)])]) (List.replicate (w ((v2.size : Int) + 1)).toNat false) (List.replicate (w ((v2.size : Int) + 1)).toNat false) v11 κ) else none else none else none else none else none else none) else none) else none) else none))))))
def B_laws_FnStars_s12 (t : Tb ρ) (x12 : ByteArray) (x13 : Int) (x14 : Int) (x15 : List Tt49) (x16 : List Tt49) (x17 : List Tt49) (x18 : List Bool) (x19 : List Bool) (x20 : List Int) (κ : Bool → Option ρ) : Option ρ:=bif decide (x14 < (x20.length : Int)) then (if (0 : Int) ≤ x14 then if x14 < (x20.length : Int) then callW2 (X_laws_put x19 (elI .i64 x20 x14)) fun m21 m22=>bif !m22 then (κ false) else (if (0 : Int) ≤ x14 then if x14 < (x20.length : Int) then t.impl_ReEnds x15 x12 (elI .i64 x20 x14) (fun (v23 : List Int)=>t.laws_FnStars_s18 x12 x13 x14 0 x15 x16 x17 x18 m21 x20 v23 κ) else none else none) else none else none) else (t.impl_ReEnds x16 x12 x13 (fun (v24 : List Int)=>t.laws_list x18 (fun (v25 : List Int)=>t.laws_sameInts v24 v25 (fun (v26 : Bool)=>bif !v26 then (κ false) else (if (0 : Int) ≤ x13 then if x13 < (x18.length : Int) then if (0 : Int) ≤ x13 then if x13 < (x19.length : Int) then t.impl_ReEnds x15 x12 x13 (fun (v27 : List Int)=>t.laws_list (x18.set x13.toNat true) (fun (v28 : List Int)=>t.laws_sameInts v27 v28 (fun (v29 : Bool)=>bif v29 then (t.impl_ReEnds x17 x12 x13 (fun (v30 : List Int)=>t.laws_list (x19.set x13.toNat true) (fun (v31 : List Int)=>t.laws_sameInts v30 v31 (fun (v32 : Bool)=>bif v32 then (t.laws_shapes  (fun (v33 : Bool)=>κ v33)) else (κ false))))) else (κ false)))) else none else none else none else none)))))
def B_laws_FnStars_s18 (t : Tb ρ) (x34 : ByteArray) (x35 : Int) (x36 : Int) (x37 : Int) (x38 : List Tt49) (x39 : List Tt49) (x40 : List Tt49) (x41 : List Bool) (x42 : List Bool) (x43 : List Int) (x44 : List Int) (κ : Bool → Option ρ) : Option ρ:=bif decide (x37 < (x44.length : Int)) then (if (0 : Int) ≤ x37 then if x37 < (x44.length : Int) then callW2 (X_laws_put x41 (elI .i64 x44 x37)) fun m45 m46=>bif !m46 then (κ false) else (t.laws_FnStars_s18 x34 x35 x36 (w (x37 + 1)) x38 x39 x40 m45 x42 x43 x44 κ) else none else none) else (t.laws_FnStars_s12 x34 x35 (w (x36 + 1)) x38 x39 x40 x41 x42 x43 κ)
def B_spec_DrawReFind (t : Tb ρ) (x0 : List Int) (κ : List Tt49 → ByteArray → Option ρ) : Option ρ:=t.spec_l1New x0 (fun (v1 : List Int) (v2 : Int) (v3 : Int)=>t.spec_l2tree v1 v2 v3 (fun (v4 : List Tt49) (v5 : Int) (v6 : Int)=>t.spec_l2subject v1 v5 v6 (fun (v7 : ByteArray) (v8 : Int) (v9 : Int)=>κ v4 v7)))
def B_laws_shapes (t : Tb ρ) (κ : Bool → Option ρ) : Option ρ:=t.impl_ReParse (bs [97,43,98,124,99]) (fun (v0 : List Tt49) (v1 : Bool)=>t.impl_ReFind v0 (bs [120,97,97,98]) (fun (v2 : Int) (v3 : Int)=>bif v1 then (bif v2 == 1 then (bif v3 == 3 then (t.impl_ReText v0 (fun (v4 : ByteArray)=>bif v4.toList == (bs [97,43,98,124,99]).toList then (t.impl_ReCount v0 (bs [99,97,98,99]) (fun (v5 : Int)=>bif v5 == 3 then (t.impl_ReTest v0 (bs [120,97]) (fun (v6 : Bool)=>κ (!v6))) else (κ false))) else (κ false))) else (κ false)) else (κ false)) else (κ false)))
def B_laws_shift (t : Tb ρ) (x0 : List Tt49) (x1 : Int) (κ : List Tt49 → Option ρ) : Option ρ:=t.laws_shift_s3 x0 x1 0 [] κ
def B_laws_shift_s3 (t : Tb ρ) (x2 : List Tt49) (x3 : Int) (x4 : Int) (x5 : List Tt49) (κ : List Tt49 → Option ρ) : Option ρ:=bif decide (x4 < (x2.length : Int)) then (if (0 : Int) ≤ x4 then if x4 < (x2.length : Int) then if (0 : Int) ≤ x4 then if x4 < (x2.length : Int) then if (0 : Int) ≤ x4 then if x4 < (x2.length : Int) then t.laws_shift_s7 x2 x3 x4 0 x5 (elt49 x2 x4).1 (elt49 x2 x4).2.1 (elt49 x2 x4).2.2.1 [] κ else none else none else none else none else none else none) else (κ x5)
def B_laws_shift_s7 (t : Tb ρ) (x6 : List Tt49) (x7 : Int) (x8 : Int) (x9 : Int) (x10 : List Tt49) (x11 : Int) (x12 : Bool) (x13 : ByteArray) (x14 : List Int) (κ : List Tt49 → Option ρ) : Option ρ:=if (0 : Int) ≤ x8 then if x8 < (x6.length : Int) then bif decide (x9 < ((elt49 x6 x8).2.2.2.length : Int)) then (if (0 : Int) ≤ x8 then if x8 < (x6.length : Int) then if (0 : Int) ≤ x9 then if x9 < ((elt49 x6 x8).2.2.2.length : Int) then if (x14.length + 1) * 8 ≤ 140737488355328 then t.laws_shift_s7 x6 x7 x8 (w (x9 + 1)) x10 x11 x12 x13 (x14 ++ [w ((elI .i64 (elt49 x6 x8).2.2.2 x9) + x7)]) κ else none else none else none else none else none) else (if (x10.length + 1) * 56 ≤ 140737488355328 then t.laws_shift_s3 x6 x7 (w (x8 + 1)) (x10 ++ [(x11,x12,x13,x14)]) κ else none) else none else none
def B_laws_at (t : Tb ρ) (x0 : List Int) (x1 : Int) (κ : Int → Option ρ) : Option ρ:=bif (x0.length : Int) == 0 then (κ 0) else (if (x0.length : Int) = 0 then none else if (0 : Int) ≤ (x1.tmod (x0.length : Int)) then if (x1.tmod (x0.length : Int)) < (x0.length : Int) then κ (w (elI .u8 x0 (x1.tmod (x0.length : Int)))) else none else none)
def B_laws_sameInts (t : Tb ρ) (x0 : List Int) (x1 : List Int) (κ : Bool → Option ρ) : Option ρ:=bif (x0.length : Int) != (x1.length : Int) then (κ false) else (t.laws_sameInts_s4 x0 x1 0 κ)
def B_laws_sameInts_s4 (t : Tb ρ) (x2 : List Int) (x3 : List Int) (x4 : Int) (κ : Bool → Option ρ) : Option ρ:=bif decide (x4 < (x2.length : Int)) then (if (0 : Int) ≤ x4 then if x4 < (x2.length : Int) then if (0 : Int) ≤ x4 then if x4 < (x3.length : Int) then bif (elI .i64 x2 x4) != (elI .i64 x3 x4) then (κ false) else (t.laws_sameInts_s4 x2 x3 (w (x4 + 1)) κ) else none else none else none else none) else (κ true)
def B_laws_list (t : Tb ρ) (x0 : List Bool) (κ : List Int → Option ρ) : Option ρ:=t.laws_list_s3 x0 0 [] κ
def B_laws_list_s3 (t : Tb ρ) (x1 : List Bool) (x2 : Int) (x3 : List Int) (κ : List Int → Option ρ) : Option ρ:=bif decide (x2 < (x1.length : Int)) then (if (0 : Int) ≤ x2 then if x2 < (x1.length : Int) then bif elB x1 x2 then (if (x3.length + 1) * 8 ≤ 140737488355328 then t.laws_list_s3 x1 (w (x2 + 1)) (x3 ++ [x2]) κ else none) else (t.laws_list_s3 x1 (w (x2 + 1)) x3 κ) else none else none) else (κ x3)
def B_impl_between (t : Tb ρ) (x0 : Int) (x1 : Int) (x2 : Int) (κ : Bool → Option ρ) : Option ρ:=bif decide (x0 ≥ x1) then (κ (decide (x0 ≤ x2))) else (κ false)
def B_spec_l1New (t : Tb ρ) (x0 : List Int) (κ : List Int → Int → Int → Option ρ) : Option ρ:=t.spec_l1New_s3 x0 (w (64242 + (x0.length : Int))) 0 κ
def B_spec_l1New_s3 (t : Tb ρ) (x1 : List Int) (x2 : Int) (x3 : Int) (κ : List Int → Int → Int → Option ρ) : Option ρ:=bif decide (x3 < (x1.length : Int)) then (bif decide (x3 < 4000) then (if (0 : Int) ≤ x3 then if x3 < (x1.length : Int) then t.spec_l1New_s3 x1 (bitand .i64 (w ((w ((w (x2 * 131)) + (w (elI .u8 x1 x3)))) + 7)) 1073741823) (w (x3 + 1)) κ else none else none) else (κ x1 0 x2)) else (κ x1 0 x2)
def B_spec_l2tree (t : Tb ρ) (x0 : List Int) (x1 : Int) (x2 : Int) (κ : List Tt49 → Int → Int → Option ρ) : Option ρ:=t.spec_l2pattern x0 x1 x2 (fun (v3 : ByteArray) (v4 : Int) (v5 : Int)=>t.spec_ReParse v3 (fun (v6 : List Tt49) (v7 : Bool)=>bif !v7 then (t.spec_l2byte 97 (fun (v8 : Int) (v9 : Bool) (v10 : ByteArray) (v11 : List Int)=>t.spec_l2byte 98 (fun (v12 : Int) (v13 : Bool) (v14 : ByteArray) (v15 : List Int)=>t.spec_l1Below 16 x0 v4 v5 (fun (v16 : Int) (v17 : Int) (v18 : Int)=>bif v16 == 0 then (t.spec_l1Below 3 x0 v17 v18 (fun (v19 : Int) (v20 : Int) (v21 : Int)=>t.spec_l1Below 9 x0 v20 v21 (fun (v22 : Int) (v23 : Int) (v24 : Int)=>if (0 : Int) ≤ v19 then if v19 < 3 then t.spec_l2tree_s13 ([(v8,v9,v10,v11),(v12,v13,v14,v15),(4,false,bs [],[0,1])].set v19.toNat (w (v22 - 1),(elt49 [(v8,v9,v10,v11),(v12,v13,v14,v15),(4,false,bs [],[0,1])] v19).2)) x0 v23 v24 κ else none else none))) else (bif v16 == 1 then (t.spec_l1Below 3 x0 v17 v18 (fun (v25 : Int) (v26 : Int) (v27 : Int)=>if (0 : Int) ≤ v25 then if v25 < 3 then t.spec_l2tree_s13 ([(v8,v9,v10,v11),(v12,v13,v14,v15),(4,false,bs [],[0,1])].set v25.toNat ((elt49 [(v8,v9,v10,v11),(v12,v13,v14,v15),(4,false,bs [],[0,1])] v25).1,true,(elt49 [(v8,v9,v10,v11),(v12,v13,v14,v15),(4,false,bs [],[0,1])] v25).2.2)) x0 v26 v27 κ else none else none)) else (bif v16 == 2 then (t.spec_l1Below 3 x0 v17 v18 (fun (v28 : Int) (v29 : Int) (v30 : Int)=>t.spec_l1text [bs [],bs [97],bs [98,97],bs [97,98],bs [93,93],bs [45,45]] x0 v29 v30 (fun (v31 : ByteArray) (v32 : Int) (v33 : Int)=>if (0 : Int) ≤ v28 then if v28 < 3 then t.spec_l2tree_s13 ([(v8,v9,v10,v11),(v12,v13,v14,v15),(4,false,bs [],[0,1])].set v28.toNat ((elt49 [(v8,v9,v10,v11),(v12,v13,v14,v15),(4,false,bs [],[0,1])] v28).1,(elt49 [(v8,v9,v10,v11),(v12,v13,v14,v15),(4,false,bs [],[0,1])] v28).2.1,v31,(elt49 [(v8,v9,v10,v11),(v12,v13,v14,v15),(4,false,bs [],[0,1])] v28).2.2.2)) x0 v32 v33 κ else none else none))) else (bif v16 == 3 then (t.spec_l2tree_s13 [(v8,v9,v10,v11),(v12,v13,v14,v15),(4,false,bs [],[0,1]),(5,false,bs [],[2])] x0 v17 v18 κ) else (t.spec_l2tree_s13 [(v8,v9,v10,v11),(v12,v13,v14,v15),(4,false,bs [],[0,1])] x0 v17 v18 κ)))))))) else (t.spec_l1Below 16 x0 v4 v5 (fun (v34 : Int) (v35 : Int) (v36 : Int)=>bif v34 == 0 then (t.spec_l1Below (v6.length : Int) x0 v35 v36 (fun (v37 : Int) (v38 : Int) (v39 : Int)=>t.spec_l1Below 9 x0 v38 v39 (fun (v40 : Int) (v41 : Int) (v42 : Int)=>if (0 : Int) ≤ v37 then if v37 < (v6.length : Int) then t.spec_l2tree_s13 (v6.set v37.toNat (w (v40 - 1),(elt49 v6 v37).2)) x0 v41 v42 κ else none else none))) else (bif v34 == 1 then (t.spec_l1Below (v6.length : Int) x0 v35 v36 (fun (v43 : Int) (v44 : Int) (v45 : Int)=>if (0 : Int) ≤ v43 then if v43 < (v6.length : Int) then t.spec_l2tree_s13 (v6.set v43.toNat ((elt49 v6 v43).1,true,(elt49 v6 v43).2.2)) x0 v44 v45 κ else none else none)) else (bif v34 == 2 then (t.spec_l1Below (v6.length : Int) x0 v35 v36 (fun (v46 : Int) (v47 : Int) (v48 : Int)=>t.spec_l1text [bs [],bs [97],bs [98,97],bs [97,98],bs [93,93],bs [45,45]] x0 v47 v48 (fun (v49 : ByteArray) (v50 : Int) (v51 : Int)=>if (0 : Int) ≤ v46 then if v46 < (v6.length : Int) then t.spec_l2tree_s13 (v6.set v46.toNat ((elt49 v6 v46).1,(elt49 v6 v46).2.1,v49,(elt49 v6 v46).2.2.2)) x0 v50 v51 κ else none else none))) else (bif v34 == 3 then (if (v6.length + 1) * 56 ≤ 140737488355328 then t.spec_l2tree_s13 (v6 ++ [(5,false,bs [],[w ((v6.length : Int) - 1)])]) x0 v35 v36 κ else none) else (t.spec_l2tree_s13 v6 x0 v35 v36 κ))))))))
def B_spec_l2tree_s13 (t : Tb ρ) (x52 : List Tt49) (x53 : List Int) (x54 : Int) (x55 : Int) (κ : List Tt49 → Int → Int → Option ρ) : Option ρ:=κ x52 x54 x55
def B_spec_l2subject (t : Tb ρ) (x0 : List Int) (x1 : Int) (x2 : Int) (κ : ByteArray → Int → Int → Option ρ) : Option ρ:=t.spec_l1Once 40 x0 x1 x2 (fun (v3 : Bool) (v4 : Int) (v5 : Int)=>bif v3 then (t.spec_l1Below 2 x0 v4 v5 (fun (v6 : Int) (v7 : Int) (v8 : Int)=>t.spec_l1of (w (500 + v6)) (bs [97]) x0 v7 v8 (fun (v9 : ByteArray) (v10 : Int) (v11 : Int)=>κ v9 v10 v11))) else (t.spec_l1Below 12 x0 v4 v5 (fun (v12 : Int) (v13 : Int) (v14 : Int)=>t.spec_l1of v12 (bs [97,97,98,98,99,46,40,120]) x0 v13 v14 (fun (v15 : ByteArray) (v16 : Int) (v17 : Int)=>κ v15 v16 v17))))
def B_impl_ReParse (t : Tb ρ) (x0 : ByteArray) (κ : List Tt49 → Bool → Option ρ) : Option ρ:=t.impl_between (x0.size : Int) 1 200 (fun (v1 : Bool)=>bif !v1 then (κ [] false) else (t.impl_reParser_whole x0 0 0 [] false (fun (v2 : Int) (v3 : Int) (v4 : Int) (v5 : List Tt49) (v6 : Bool)=>bif v6 then (κ [] false) else (bif v3 != (x0.size : Int) then (κ [] false) else (κ v5 true)))))
def B_impl_ReText (t : Tb ρ) (x0 : List Tt49) (κ : ByteArray → Option ρ) : Option ρ:=t.impl_ReOk x0 (fun (v1 : Bool)=>bif !v1 then (κ (bs [])) else (t.impl_reText x0 (w ((x0.length : Int) - 1)) (fun (v2 : ByteArray) (v3 : Int) (v4 : Bool)=>bif !v4 then (κ (bs [])) else (bif decide (v3 > 20) then (κ (bs [])) else (bif decide ((v2.size : Int) > 200) then (κ (bs [])) else (κ v2))))))
def B_impl_ReOk (t : Tb ρ) (x0 : List Tt49) (κ : Bool → Option ρ) : Option ρ:=t.impl_between (x0.length : Int) 1 200 (fun (v1 : Bool)=>bif !v1 then (κ false) else (if (0 : Int) ≤ (x0.length : Int) then if (x0.length : Int) ≤ (x0.length : Int) then if (x0.length : Int).toNat * 8 ≤ 281474976710656 then t.impl_ReOk_s5 x0 x0 (x0.length : Int) 0 (List.replicate (x0.length : Int).toNat 0) κ else none else none else none))
def B_impl_ReOk_s5 (t : Tb ρ) (x2 : List Tt49) (x3 : List Tt49) (x4 : Int) (x5 : Int) (x6 : List Int) (κ : Bool → Option ρ) : Option ρ:=bif decide (x5 < x4) then (if (0 : Int) ≤ x5 then if x5 < (x3.length : Int) then t.impl_isReNode (elt49 x3 x5).1 (elt49 x3 x5).2.1 (elt49 x3 x5).2.2.1 (elt49 x3 x5).2.2.2 (fun (v7 : Bool)=>bif !v7 then (κ false) else (t.impl_ReOk_s10 x2 x5 x3 x4 x5 (elt49 x3 x5).2.2.2 ((elt49 x3 x5).2.2.2.length : Int) 0 x6 κ)) else none else none) else (if (0 : Int) ≤ (w ((x2.length : Int) - 1)) then if (w ((x2.length : Int) - 1)) ≤ (x6.length : Int) then t.slices_ContainsFuncintint (x6.take (w ((x2.length : Int) - 1)).toNat) (fun (v8 : Bool)=>κ (!v8)) else none else none)
def B_impl_ReOk_s10 (t : Tb ρ) (x9 : List Tt49) (x10 : Int) (x11 : List Tt49) (x12 : Int) (x13 : Int) (x14 : List Int) (x15 : Int) (x16 : Int) (x17 : List Int) (κ : Bool → Option ρ) : Option ρ:=bif decide (x16 < x15) then (if (0 : Int) ≤ x16 then if x16 < (x14.length : Int) then t.impl_between (elI .i64 x14 x16) 0 (w (x10 - 1)) (fun (v18 : Bool)=>bif !v18 then (κ false) else (if (0 : Int) ≤ (elI .i64 x14 x16) then if (elI .i64 x14 x16) < (x17.length : Int) then if (0 : Int) ≤ (elI .i64 x14 x16) then if (elI .i64 x14 x16) < (x17.length : Int) then t.impl_ReOk_s10 x9 x10 x11 x12 x13 x14 x15 (w (x16 + 1)) (x17.set (elI .i64 x14 x16).toNat (w ((elI .i64 x17 (elI .i64 x14 x16)) + 1))) κ else none else none else none else none)) else none else none) else (t.impl_ReOk_s5 x9 x11 x12 (w (x13 + 1)) x17 κ)
def B_spec_ReParse (t : Tb ρ) (x0 : ByteArray) (κ : List Tt49 → Bool → Option ρ) : Option ρ:=bif decide ((x0.size : Int) < 1) then (κ [] false) else (bif decide ((x0.size : Int) > 200) then (κ [] false) else (t.spec_l2alt 0 x0 0 [] false (fun (v1 : Int) (v2 : Int) (v3 : List Tt49) (v4 : Bool)=>bif v4 then (κ [] false) else (bif v2 != (x0.size : Int) then (κ [] false) else (bif decide ((v3.length : Int) > 200) then (κ [] false) else (κ v3 true))))))
def B_spec_l2pattern (t : Tb ρ) (x0 : List Int) (x1 : Int) (x2 : Int) (κ : ByteArray → Int → Int → Option ρ) : Option ρ:=t.spec_l2draw 3 x0 x1 x2 (fun (v3 : ByteArray) (v4 : Int) (v5 : Int)=>t.spec_l1Once 6 x0 v4 v5 (fun (v6 : Bool) (v7 : Int) (v8 : Int)=>bif v6 then (t.spec_l1bend v3 x0 v7 v8 (fun (v9 : ByteArray) (v10 : Int) (v11 : Int)=>κ v9 v10 v11)) else (κ v3 v7 v8)))
def B_spec_l2byte (t : Tb ρ) (x0 : Int) (κ : Int → Bool → ByteArray → List Int → Option ρ) : Option ρ:=κ 0 false (strOfNums [x0,x0]) []
def B_spec_l1Below (t : Tb ρ) (x0 : Int) (x1 : List Int) (x2 : Int) (x3 : Int) (κ : Int → Int → Int → Option ρ) : Option ρ:=bif decide (x0 ≤ 0) then (κ 0 x2 x3) else (bif decide (x0 ≤ 256) then (t.spec_l1Byte x1 x2 x3 (fun (v4 : Int) (v5 : Int) (v6 : Int)=>if x0 = 0 then none else κ (v4.tmod x0) v5 v6)) else (t.spec_l1Byte x1 x2 x3 (fun (v7 : Int) (v8 : Int) (v9 : Int)=>t.spec_l1Byte x1 v8 v9 (fun (v10 : Int) (v11 : Int) (v12 : Int)=>t.spec_l1Byte x1 v11 v12 (fun (v13 : Int) (v14 : Int) (v15 : Int)=>t.spec_l1Byte x1 v14 v15 (fun (v16 : Int) (v17 : Int) (v18 : Int)=>if x0 = 0 then none else κ ((w ((w ((w ((w (v7 * 16777216)) + (w (v10 * 65536)))) + (w (v13 * 256)))) + v16)).tmod x0) v17 v18))))))
def B_spec_l1text (t : Tb ρ) (x0 : List ByteArray) (x1 : List Int) (x2 : Int) (x3 : Int) (κ : ByteArray → Int → Int → Option ρ) : Option ρ:=t.spec_l1Below (x0.length : Int) x1 x2 x3 (fun (v4 : Int) (v5 : Int) (v6 : Int)=>if (0 : Int) ≤ v4 then if v4 < (x0.length : Int) then κ (elS x0 v4) v5 v6 else none else none)
def B_spec_l1Once (t : Tb ρ) (x0 : Int) (x1 : List Int) (x2 : Int) (x3 : Int) (κ : Bool → Int → Int → Option ρ) : Option ρ:=t.spec_l1Below x0 x1 x2 x3 (fun (v4 : Int) (v5 : Int) (v6 : Int)=>κ (v4 == 0) v5 v6)
def B_spec_l1of (t : Tb ρ) (x0 : Int) (x1 : ByteArray) (x2 : List Int) (x3 : Int) (x4 : Int) (κ : ByteArray → Int → Int → Option ρ) : Option ρ:=t.spec_l1of_s3 x0 x1 0 [] x2 x3 x4 κ
def B_spec_l1of_s3 (t : Tb ρ) (x5 : Int) (x6 : ByteArray) (x7 : Int) (x8 : List Int) (x9 : List Int) (x10 : Int) (x11 : Int) (κ : ByteArray → Int → Int → Option ρ) : Option ρ:=bif decide (x7 < x5) then (t.spec_l1Below (x6.size : Int) x9 x10 x11 (fun (v12 : Int) (v13 : Int) (v14 : Int)=>if (0 : Int) ≤ v12 then if v12 < (x6.size : Int) then if (x8.length + 1) * 1 ≤ 140737488355328 then t.spec_l1of_s3 x5 x6 (w (x7 + 1)) (x8 ++ [bt x6 v12]) x9 v13 v14 κ else none else none else none)) else (κ (strOfNums x8) x10 x11)
def B_impl_reParser_whole (t : Tb ρ) (x0 : ByteArray) (x1 : Int) (x2 : Int) (x3 : List Tt49) (x4 : Bool) (κ : Int → Int → Int → List Tt49 → Bool → Option ρ) : Option ρ:=t.impl_reParser_part x0 x1 x2 x3 x4 (fun (v5 : Int) (v6 : Int) (v7 : Int) (v8 : List Tt49) (v9 : Bool)=>t.impl_reParser_whole_s2 [v5] x0 v6 v7 v8 v9 κ)
def B_impl_reParser_whole_s2 (t : Tb ρ) (x10 : List Int) (x11 : ByteArray) (x12 : Int) (x13 : Int) (x14 : List Tt49) (x15 : Bool) (κ : Int → Int → Int → List Tt49 → Bool → Option ρ) : Option ρ:=bif !x15 then (t.impl_reParser_sees (bs [124]) x11 x12 (fun (v16 : Bool)=>bif v16 then (t.impl_reParser_part x11 (w (x12 + 1)) x13 x14 x15 (fun (v17 : Int) (v18 : Int) (v19 : Int) (v20 : List Tt49) (v21 : Bool)=>if (x10.length + 1) * 8 ≤ 140737488355328 then t.impl_reParser_whole_s2 (x10 ++ [v17]) x11 v18 v19 v20 v21 κ else none)) else (t.impl_reParser_joined 4 x10 x14 x15 (fun (v22 : Int) (v23 : List Tt49) (v24 : Bool)=>κ v22 x12 x13 v23 v24)))) else (t.impl_reParser_joined 4 x10 x14 x15 (fun (v25 : Int) (v26 : List Tt49) (v27 : Bool)=>κ v25 x12 x13 v26 v27))
def B_impl_reText (t : Tb ρ) (x0 : List Tt49) (x1 : Int) (κ : ByteArray → Int → Bool → Option ρ) : Option ρ:=if (0 : Int) ≤ x1 then if x1 < (x0.length : Int) then bif (elt49 x0 x1).1 == 0 then (t.impl_setText (elt49 x0 x1).1 (elt49 x0 x1).2.1 (elt49 x0 x1).2.2.1 (elt49 x0 x1).2.2.2 (fun (v2 : ByteArray)=>κ v2 0 true)) else (bif (elt49 x0 x1).1 == 1 then (κ (bs [94]) 0 true) else (bif (elt49 x0 x1).1 == 2 then (κ (bs [36]) 0 true) else (t.impl_reText_s10 x0 (bs []) 0 (elt49 x0 x1).2.2.2 ((elt49 x0 x1).2.2.2.length : Int) 0 (elt49 x0 x1).1 (elt49 x0 x1).2.1 (elt49 x0 x1).2.2.1 (elt49 x0 x1).2.2.2 κ))) else none else none
def B_impl_reText_s10 (t : Tb ρ) (x3 : List Tt49) (x4 : ByteArray) (x5 : Int) (x6 : List Int) (x7 : Int) (x8 : Int) (x9 : Int) (x10 : Bool) (x11 : ByteArray) (x12 : List Int) (κ : ByteArray → Int → Bool → Option ρ) : Option ρ:=bif decide (x8 < x7) then (if (0 : Int) ≤ x8 then if x8 < (x6.length : Int) then t.impl_reText x3 (elI .i64 x6 x8) (fun (v13 : ByteArray) (v14 : Int) (v15 : Bool)=>if (0 : Int) ≤ (elI .i64 x6 x8) then if (elI .i64 x6 x8) < (x3.length : Int) then bif (elt49 x3 (elI .i64 x6 x8)).1 == 4 then (if 1 + v13.size ≤ 9223372036854775807 then if ((bs [40]) ++ v13).size + 1 ≤ 9223372036854775807 then t.impl_reText_s17 x3 x4 x5 x8 (((bs [40]) ++ v13) ++ (bs [41])) (w (v14 + 1)) v15 x6 x7 x8 x9 x10 x11 x12 κ else none else none) else (bif (elt49 x3 (elI .i64 x6 x8)).1 == 3 then (bif x9 != 4 then (if 1 + v13.size ≤ 9223372036854775807 then if ((bs [40]) ++ v13).size + 1 ≤ 9223372036854775807 then t.impl_reText_s17 x3 x4 x5 x8 (((bs [40]) ++ v13) ++ (bs [41])) (w (v14 + 1)) v15 x6 x7 x8 x9 x10 x11 x12 κ else none else none) else (t.impl_reText_s17 x3 x4 x5 x8 v13 v14 v15 x6 x7 x8 x9 x10 x11 x12 κ)) else (t.impl_reText_s17 x3 x4 x5 x8 v13 v14 v15 x6 x7 x8 x9 x10 x11 x12 κ)) else none else none) else none else none) else (bif decide (x9 ≥ 5) then (if (0 : Int) ≤ (w (x9 - 5)) then if (w (x9 - 5)) ≤ (w ((w (x9 - 5)) + 1)) then if (w ((w (x9 - 5)) + 1)) ≤ 3 then if x4.size + ((bs [42,43,63]).extract (w (x9 - 5)).toNat (w ((w (x9 - 5)) + 1)).toNat).size ≤ 9223372036854775807 then κ (x4 ++ ((bs [42,43,63]).extract (w (x9 - 5)).toNat (w ((w (x9 - 5)) + 1)).toNat)) x5 true else none else none else none else none) else (κ x4 x5 true))
def B_impl_reText_s17 (t : Tb ρ) (x16 : List Tt49) (x17 : ByteArray) (x18 : Int) (x19 : Int) (x20 : ByteArray) (x21 : Int) (x22 : Bool) (x23 : List Int) (x24 : Int) (x25 : Int) (x26 : Int) (x27 : Bool) (x28 : ByteArray) (x29 : List Int) (κ : ByteArray → Int → Bool → Option ρ) : Option ρ:=bif decide (x19 > 0) then (bif x26 == 4 then (if x17.size + 1 ≤ 9223372036854775807 then t.impl_reText_s19 x16 (x17 ++ (bs [124])) x18 x20 x21 x22 x23 x24 x25 x26 x27 x28 x29 κ else none) else (t.impl_reText_s19 x16 x17 x18 x20 x21 x22 x23 x24 x25 x26 x27 x28 x29 κ)) else (t.impl_reText_s19 x16 x17 x18 x20 x21 x22 x23 x24 x25 x26 x27 x28 x29 κ)
def B_impl_reText_s19 (t : Tb ρ) (x30 : List Tt49) (x31 : ByteArray) (x32 : Int) (x33 : ByteArray) (x34 : Int) (x35 : Bool) (x36 : List Int) (x37 : Int) (x38 : Int) (x39 : Int) (x40 : Bool) (x41 : ByteArray) (x42 : List Int) (κ : ByteArray → Int → Bool → Option ρ) : Option ρ:=if x31.size + x33.size ≤ 9223372036854775807 then bif !x35 then (t.impl_reText_s22  κ) else (bif decide (((x31 ++ x33).size : Int) > 200) then (t.impl_reText_s22  κ) else (t.impl_reText_s10 x30 (x31 ++ x33) (mx x32 x34) x36 x37 (w (x38 + 1)) x39 x40 x41 x42 κ)) else none
def B_impl_reText_s22 (t : Tb ρ) (κ : ByteArray → Int → Bool → Option ρ) : Option ρ:=κ (bs []) 0 false
def B_impl_isReNode (t : Tb ρ) (x0 : Int) (x1 : Bool) (x2 : ByteArray) (x3 : List Int) (κ : Bool → Option ρ) : Option ρ:=bif x0 != 0 then (bif x1 then (κ false) else (bif !(x2.toList == (bs []).toList) then (κ false) else (bif x0 == 1 then (bif x0 == 1 then (κ ((x3.length : Int) == 0)) else (bif x0 == 3 then (bif x0 == 3 then (t.impl_isReNode_s10 x0 x1 x2 x3 κ) else (t.impl_isReNode_s11 x0 x0 x1 x2 x3 κ)) else (bif x0 == 4 then (t.impl_isReNode_s10 x0 x1 x2 x3 κ) else (t.impl_isReNode_s11 x0 x0 x1 x2 x3 κ)))) else (bif x0 == 2 then (κ ((x3.length : Int) == 0)) else (bif x0 == 3 then (bif x0 == 3 then (t.impl_isReNode_s10 x0 x1 x2 x3 κ) else (t.impl_isReNode_s11 x0 x0 x1 x2 x3 κ)) else (bif x0 == 4 then (t.impl_isReNode_s10 x0 x1 x2 x3 κ) else (t.impl_isReNode_s11 x0 x0 x1 x2 x3 κ))))))) else (bif ((x2.size : Int).tmod 2) != 0 then (κ false) else (bif decide ((x3.length : Int) > 0) then (κ false) else (bif x2.toList == (bs []).toList then (bif !x1 then (κ false) else (t.impl_isReNode_s19 0 x0 x1 x2 x3 κ)) else (t.impl_isReNode_s19 0 x0 x1 x2 x3 κ))))
def B_impl_isReNode_s10 (t : Tb ρ) (x4 : Int) (x5 : Bool) (x6 : ByteArray) (x7 : List Int) (κ : Bool → Option ρ) : Option ρ:=κ (decide ((x7.length : Int) ≥ 2))
def B_impl_isReNode_s11 (t : Tb ρ) (x8 : Int) (x9 : Int) (x10 : Bool) (x11 : ByteArray) (x12 : List Int) (κ : Bool → Option ρ) : Option ρ:=bif x8 == 5 then (bif x8 == 5 then (t.impl_isReNode_s14 x9 x10 x11 x12 κ) else (t.impl_isReNode_s15  κ)) else (bif x8 == 6 then (bif x8 == 6 then (t.impl_isReNode_s14 x9 x10 x11 x12 κ) else (t.impl_isReNode_s15  κ)) else (bif x8 == 7 then (t.impl_isReNode_s14 x9 x10 x11 x12 κ) else (t.impl_isReNode_s15  κ)))
def B_impl_isReNode_s14 (t : Tb ρ) (x18 : Int) (x19 : Bool) (x20 : ByteArray) (x21 : List Int) (κ : Bool → Option ρ) : Option ρ:=κ ((x21.length : Int) == 1)
def B_impl_isReNode_s15 (t : Tb ρ) (κ : Bool → Option ρ) : Option ρ:=κ false
def B_impl_isReNode_s19 (t : Tb ρ) (x13 : Int) (x14 : Int) (x15 : Bool) (x16 : ByteArray) (x17 : List Int) (κ : Bool → Option ρ) : Option ρ:=bif decide (x13 < (x16.size : Int)) then (if (0 : Int) ≤ (w (x13 + 1)) then if (w (x13 + 1)) < (x16.size : Int) then if (0 : Int) ≤ x13 then if x13 < (x16.size : Int) then bif decide ((bt x16 (w (x13 + 1))) < (bt x16 x13)) then (κ false) else (t.impl_isReNode_s19 (w (x13 + 2)) x14 x15 x16 x17 κ) else none else none else none else none) else (κ true)
def B_slices_ContainsFuncintint (t : Tb ρ) (x0 : List Int) (κ : Bool → Option ρ) : Option ρ:=t.slices_IndexFuncintint x0 (fun (v1 : Int)=>κ (decide (v1 ≥ 0)))
def B_impl_ReOk_1 (t : Tb ρ) (x0 : Int) (κ : Bool → Option ρ) : Option ρ:=κ (x0 != 1)
def B_spec_l2alt (t : Tb ρ) (x0 : Int) (x1 : ByteArray) (x2 : Int) (x3 : List Tt49) (x4 : Bool) (κ : Int → Int → List Tt49 → Bool → Option ρ) : Option ρ:=t.spec_l2seq x0 x1 x2 x3 x4 (fun (v5 : Int) (v6 : Int) (v7 : List Tt49) (v8 : Bool)=>t.spec_l2alt_s2 x0 [v5] x1 v6 v7 v8 κ)
def B_spec_l2alt_s2 (t : Tb ρ) (x9 : Int) (x10 : List Int) (x11 : ByteArray) (x12 : Int) (x13 : List Tt49) (x14 : Bool) (κ : Int → Int → List Tt49 → Bool → Option ρ) : Option ρ:=bif !x14 then (t.spec_l2more x11 x12 (fun (v15 : Bool)=>bif v15 then (t.spec_l2peek x11 x12 (fun (v16 : Int)=>bif v16 == 124 then (t.spec_l2seq x9 x11 (w (x12 + 1)) x13 x14 (fun (v17 : Int) (v18 : Int) (v19 : List Tt49) (v20 : Bool)=>if (x10.length + 1) * 8 ≤ 140737488355328 then t.spec_l2alt_s2 x9 (x10 ++ [v17]) x11 v18 v19 v20 κ else none)) else (bif (x10.length : Int) == 1 then (if (0 : Int) < (x10.length : Int) then κ (elI .i64 x10 0) x12 x13 x14 else none) else (t.spec_l2node 4 false (bs []) x10 x13 (fun (v21 : Int) (v22 : List Tt49)=>κ v21 x12 v22 x14))))) else (bif (x10.length : Int) == 1 then (if (0 : Int) < (x10.length : Int) then κ (elI .i64 x10 0) x12 x13 x14 else none) else (t.spec_l2node 4 false (bs []) x10 x13 (fun (v23 : Int) (v24 : List Tt49)=>κ v23 x12 v24 x14))))) else (bif (x10.length : Int) == 1 then (if (0 : Int) < (x10.length : Int) then κ (elI .i64 x10 0) x12 x13 x14 else none) else (t.spec_l2node 4 false (bs []) x10 x13 (fun (v25 : Int) (v26 : List Tt49)=>κ v25 x12 v26 x14)))
def B_spec_l2draw (t : Tb ρ) (x0 : Int) (x1 : List Int) (x2 : Int) (x3 : Int) (κ : ByteArray → Int → Int → Option ρ) : Option ρ:=t.spec_l1Below 9 x1 x2 x3 (fun (v4 : Int) (v5 : Int) (v6 : Int)=>bif v4 == 0 then (bif v4 == 0 then (bif decide (x0 > 0) then (t.spec_l2draw (w (x0 - 1)) x1 v5 v6 (fun (v7 : ByteArray) (v8 : Int) (v9 : Int)=>if 1 + v7.size ≤ 9223372036854775807 then if ((bs [40]) ++ v7).size + 1 ≤ 9223372036854775807 then t.spec_l2draw (w (x0 - 1)) x1 v8 v9 (fun (v10 : ByteArray) (v11 : Int) (v12 : Int)=>if (((bs [40]) ++ v7) ++ (bs [124])).size + v10.size ≤ 9223372036854775807 then if ((((bs [40]) ++ v7) ++ (bs [124])) ++ v10).size + 1 ≤ 9223372036854775807 then κ (((((bs [40]) ++ v7) ++ (bs [124])) ++ v10) ++ (bs [41])) v11 v12 else none else none) else none else none)) else (t.spec_l2draw_s18 x1 v5 v6 κ)) else (bif v4 == 2 then (bif decide (x0 > 0) then (t.spec_l2draw (w (x0 - 1)) x1 v5 v6 (fun (v13 : ByteArray) (v14 : Int) (v15 : Int)=>if 1 + v13.size ≤ 9223372036854775807 then t.spec_l2draw (w (x0 - 1)) x1 v14 v15 (fun (v16 : ByteArray) (v17 : Int) (v18 : Int)=>if ((bs [40]) ++ v13).size + v16.size ≤ 9223372036854775807 then if (((bs [40]) ++ v13) ++ v16).size + 1 ≤ 9223372036854775807 then t.spec_l1of 1 (bs [42,43,63]) x1 v17 v18 (fun (v19 : ByteArray) (v20 : Int) (v21 : Int)=>if ((((bs [40]) ++ v13) ++ v16) ++ (bs [41])).size + v19.size ≤ 9223372036854775807 then κ (((((bs [40]) ++ v13) ++ v16) ++ (bs [41])) ++ v19) v20 v21 else none) else none else none) else none)) else (t.spec_l2draw_s18 x1 v5 v6 κ)) else (bif v4 == 3 then (t.spec_l1text [bs [91,97,98,93],bs [91,94,97,93],bs [91,97,45,99,93],bs [91,98,45,93],bs [91,92,93,120,93],bs [91,93],bs [91,98,45,97,93],bs [91,94,45,93]] x1 v5 v6 (fun (v22 : ByteArray) (v23 : Int) (v24 : Int)=>κ v22 v23 v24)) else (bif v4 == 4 then (t.spec_l1text [bs [94],bs [36],bs [46],bs [92,46],bs [92,40],bs [46,42],bs [97,43]] x1 v5 v6 (fun (v25 : ByteArray) (v26 : Int) (v27 : Int)=>κ v25 v26 v27)) else (bif v4 == 5 then (t.spec_l1of 1 (bs [97,98,99]) x1 v5 v6 (fun (v28 : ByteArray) (v29 : Int) (v30 : Int)=>t.spec_l1of 1 (bs [42,43,63]) x1 v29 v30 (fun (v31 : ByteArray) (v32 : Int) (v33 : Int)=>if v28.size + v31.size ≤ 9223372036854775807 then κ (v28 ++ v31) v32 v33 else none))) else (bif v4 == 6 then (bif decide (x0 > 0) then (t.spec_l2draw (w (x0 - 1)) x1 v5 v6 (fun (v34 : ByteArray) (v35 : Int) (v36 : Int)=>t.spec_l2draw (w (x0 - 1)) x1 v35 v36 (fun (v37 : ByteArray) (v38 : Int) (v39 : Int)=>if v34.size + v37.size ≤ 9223372036854775807 then κ (v34 ++ v37) v38 v39 else none))) else (t.spec_l2draw_s18 x1 v5 v6 κ)) else (t.spec_l2draw_s18 x1 v5 v6 κ))))))) else (bif v4 == 1 then (bif decide (x0 > 0) then (t.spec_l2draw (w (x0 - 1)) x1 v5 v6 (fun (v40 : ByteArray) (v41 : Int) (v42 : Int)=>if 1 + v40.size ≤ 9223372036854775807 then if ((bs [40]) ++ v40).size + 1 ≤ 9223372036854775807 then t.spec_l2draw (w (x0 - 1)) x1 v41 v42 (fun (v43 : ByteArray) (v44 : Int) (v45 : Int)=>if (((bs [40]) ++ v40) ++ (bs [124])).size + v43.size ≤ 9223372036854775807 then if ((((bs [40]) ++ v40) ++ (bs [124])) ++ v43).size + 1 ≤ 9223372036854775807 then κ (((((bs [40]) ++ v40) ++ (bs [124])) ++ v43) ++ (bs [41])) v44 v45 else none else none) else none else none)) else (t.spec_l2draw_s18 x1 v5 v6 κ)) else (bif v4 == 2 then (bif decide (x0 > 0) then (t.spec_l2draw (w (x0 - 1)) x1 v5 v6 (fun (v46 : ByteArray) (v47 : Int) (v48 : Int)=>if 1 + v46.size ≤ 9223372036854775807 then t.spec_l2draw (w (x0 - 1)) x1 v47 v48 (fun (v49 : ByteArray) (v50 : Int) (v51 : Int)=>if ((bs [40]) ++ v46).size + v49.size ≤ 9223372036854775807 then if (((bs [40]) ++ v46) ++ v49).size + 1 ≤ 9223372036854775807 then t.spec_l1of 1 (bs [42,43,63]) x1 v50 v51 (fun (v52 : ByteArray) (v53 : Int) (v54 : Int)=>if ((((bs [40]) ++ v46) ++ v49) ++ (bs [41])).size + v52.size ≤ 9223372036854775807 then κ (((((bs [40]) ++ v46) ++ v49) ++ (bs [41])) ++ v52) v53 v54 else none) else none else none) else none)) else (t.spec_l2draw_s18 x1 v5 v6 κ)) else (bif v4 == 3 then (t.spec_l1text [bs [91,97,98,93],bs [91,94,97,93],bs [91,97,45,99,93],bs [91,98,45,93],bs [91,92,93,120,93],bs [91,93],bs [91,98,45,97,93],bs [91,94,45,93]] x1 v5 v6 (fun (v55 : ByteArray) (v56 : Int) (v57 : Int)=>κ v55 v56 v57)) else (bif v4 == 4 then (t.spec_l1text [bs [94],bs [36],bs [46],bs [92,46],bs [92,40],bs [46,42],bs [97,43]] x1 v5 v6 (fun (v58 : ByteArray) (v59 : Int) (v60 : Int)=>κ v58 v59 v60)) else (bif v4 == 5 then (t.spec_l1of 1 (bs [97,98,99]) x1 v5 v6 (fun (v61 : ByteArray) (v62 : Int) (v63 : Int)=>t.spec_l1of 1 (bs [42,43,63]) x1 v62 v63 (fun (v64 : ByteArray) (v65 : Int) (v66 : Int)=>if v61.size + v64.size ≤ 9223372036854775807 then κ (v61 ++ v64) v65 v66 else none))) else (bif v4 == 6 then (bif decide (x0 > 0) then (t.spec_l2draw (w (x0 - 1)) x1 v5 v6 (fun (v67 : ByteArray) (v68 : Int) (v69 : Int)=>t.spec_l2draw (w (x0 - 1)) x1 v68 v69 (fun (v70 : ByteArray) (v71 : Int) (v72 : Int)=>if v67.size + v70.size ≤ 9223372036854775807 then κ (v67 ++ v70) v71 v72 else none))) else (t.spec_l2draw_s18 x1 v5 v6 κ)) else (t.spec_l2draw_s18 x1 v5 v6 κ))))))))
def B_spec_l2draw_s18 (t : Tb ρ) (x73 : List Int) (x74 : Int) (x75 : Int) (κ : ByteArray → Int → Int → Option ρ) : Option ρ:=t.spec_l1of 1 (bs [97,98,99]) x73 x74 x75 (fun (v76 : ByteArray) (v77 : Int) (v78 : Int)=>κ v76 v77 v78)
def B_spec_l1bend (t : Tb ρ) (x0 : ByteArray) (x1 : List Int) (x2 : Int) (x3 : Int) (κ : ByteArray → Int → Int → Option ρ) : Option ρ:=t.spec_l1Below (w ((x0.size : Int) + 1)) x1 x2 x3 (fun (v4 : Int) (v5 : Int) (v6 : Int)=>t.spec_l1Below 3 x1 v5 v6 (fun (v7 : Int) (v8 : Int) (v9 : Int)=>bif v7 == 0 then (if (0 : Int) ≤ v4 then if v4 ≤ (x0.size : Int) then if (0 : Int) ≤ v4 then if v4 ≤ (x0.size : Int) then t.spec_l1of 1 (bs [97,40,41,123,125,91,93,59,44,61,43,45,42,47,60,33,126,36,34,120,49,32,46,124,94]) x1 v8 v9 (fun (v10 : ByteArray) (v11 : Int) (v12 : Int)=>if (x0.extract 0 v4.toNat).size + v10.size ≤ 9223372036854775807 then if ((x0.extract 0 v4.toNat) ++ v10).size + (x0.extract v4.toNat x0.size).size ≤ 9223372036854775807 then κ (((x0.extract 0 v4.toNat) ++ v10) ++ (x0.extract v4.toNat x0.size)) v11 v12 else none else none) else none else none else none else none) else (bif v7 == 1 then (if (0 : Int) ≤ v4 then if v4 ≤ (x0.size : Int) then κ (x0.extract 0 v4.toNat) v8 v9 else none else none) else (bif decide (v4 < (x0.size : Int)) then (if (0 : Int) ≤ v4 then if v4 ≤ (x0.size : Int) then if (0 : Int) ≤ (w (v4 + 1)) then if (w (v4 + 1)) ≤ (x0.size : Int) then if (x0.extract 0 v4.toNat).size + (x0.extract (w (v4 + 1)).toNat x0.size).size ≤ 9223372036854775807 then κ ((x0.extract 0 v4.toNat) ++ (x0.extract (w (v4 + 1)).toNat x0.size)) v8 v9 else none else none else none else none else none) else (if x0.size + 1 ≤ 9223372036854775807 then κ (x0 ++ (bs [125])) v8 v9 else none)))))
def B_spec_l1Byte (t : Tb ρ) (x0 : List Int) (x1 : Int) (x2 : Int) (κ : Int → Int → Int → Option ρ) : Option ρ:=bif decide (x1 < (x0.length : Int)) then (if (0 : Int) ≤ x1 then if x1 < (x0.length : Int) then κ (bitand .i64 (w ((bitand .i64 (bitxor .i64 (shr .i64 (w ((w (x2 * 6364136223846793005)) + 1442695040888963407)) 33) (shr .i64 (w ((w (x2 * 6364136223846793005)) + 1442695040888963407)) 45)) 255) + (w (elI .u8 x0 x1)))) 255) (w (x1 + 1)) (w ((w (x2 * 6364136223846793005)) + 1442695040888963407)) else none else none) else (κ (bitand .i64 (bitxor .i64 (shr .i64 (w ((w (x2 * 6364136223846793005)) + 1442695040888963407)) 33) (shr .i64 (w ((w (x2 * 6364136223846793005)) + 1442695040888963407)) 45)) 255) x1 (w ((w (x2 * 6364136223846793005)) + 1442695040888963407)))
def B_impl_reParser_part (t : Tb ρ) (x0 : ByteArray) (x1 : Int) (x2 : Int) (x3 : List Tt49) (x4 : Bool) (κ : Int → Int → Int → List Tt49 → Bool → Option ρ) : Option ρ:=t.impl_reParser_repeated x0 x1 x2 x3 x4 (fun (v5 : Int) (v6 : Int) (v7 : Int) (v8 : List Tt49) (v9 : Bool)=>t.impl_reParser_part_s2 [v5] x0 v6 v7 v8 v9 κ)
def B_impl_reParser_part_s2 (t : Tb ρ) (x10 : List Int) (x11 : ByteArray) (x12 : Int) (x13 : Int) (x14 : List Tt49) (x15 : Bool) (κ : Int → Int → Int → List Tt49 → Bool → Option ρ) : Option ρ:=bif !x15 then (bif decide (x12 < (x11.size : Int)) then (t.impl_reParser_sees (bs [124,41]) x11 x12 (fun (v16 : Bool)=>bif !v16 then (t.impl_reParser_repeated x11 x12 x13 x14 x15 (fun (v17 : Int) (v18 : Int) (v19 : Int) (v20 : List Tt49) (v21 : Bool)=>if (x10.length + 1) * 8 ≤ 140737488355328 then t.impl_reParser_part_s2 (x10 ++ [v17]) x11 v18 v19 v20 v21 κ else none)) else (t.impl_reParser_joined 3 x10 x14 x15 (fun (v22 : Int) (v23 : List Tt49) (v24 : Bool)=>κ v22 x12 x13 v23 v24)))) else (t.impl_reParser_joined 3 x10 x14 x15 (fun (v25 : Int) (v26 : List Tt49) (v27 : Bool)=>κ v25 x12 x13 v26 v27))) else (t.impl_reParser_joined 3 x10 x14 x15 (fun (v28 : Int) (v29 : List Tt49) (v30 : Bool)=>κ v28 x12 x13 v29 v30))
def B_impl_reParser_sees (t : Tb ρ) (x0 : ByteArray) (x1 : ByteArray) (x2 : Int) (κ : Bool → Option ρ) : Option ρ:=bif decide (x2 < (x1.size : Int)) then (if (0 : Int) ≤ x2 then if x2 < (x1.size : Int) then t.strings_IndexByte x0 (bt x1 x2) (fun (v3 : Int)=>κ (decide (v3 ≥ 0))) else none else none) else (κ false)
def B_impl_reParser_joined (t : Tb ρ) (x0 : Int) (x1 : List Int) (x2 : List Tt49) (x3 : Bool) (κ : Int → List Tt49 → Bool → Option ρ) : Option ρ:=bif (x1.length : Int) == 1 then (if (0 : Int) < (x1.length : Int) then κ (elI .i64 x1 0) x2 x3 else none) else (t.impl_reParser_add_1 x0 false (bs []) x1 x2 x3 (fun (v4 : Int) (v5 : List Tt49) (v6 : Bool)=>κ v4 v5 v6))
def B_impl_setText (t : Tb ρ) (x0 : Int) (x1 : Bool) (x2 : ByteArray) (x3 : List Int) (κ : ByteArray → Option ρ) : Option ρ:=bif x1 then (bif x2.toList == (bs []).toList then (κ (bs [46])) else (bif !x1 then (bif (x2.size : Int) == 2 then (if (0 : Int) < (x2.size : Int) then if (1 : Int) < (x2.size : Int) then bif (bt x2 0) == (bt x2 1) then (if (0 : Int) < (x2.size : Int) then t.impl_masked (bt x2 0) (bs [40,41,124,42,43,63,91,93,94,36,46,92]) (fun (v4 : ByteArray)=>κ v4) else none) else (t.impl_setText_s5 x0 x1 x2 x3 κ) else none else none) else (t.impl_setText_s5 x0 x1 x2 x3 κ)) else (t.impl_setText_s5 x0 x1 x2 x3 κ))) else (bif !x1 then (bif (x2.size : Int) == 2 then (if (0 : Int) < (x2.size : Int) then if (1 : Int) < (x2.size : Int) then bif (bt x2 0) == (bt x2 1) then (if (0 : Int) < (x2.size : Int) then t.impl_masked (bt x2 0) (bs [40,41,124,42,43,63,91,93,94,36,46,92]) (fun (v5 : ByteArray)=>κ v5) else none) else (t.impl_setText_s5 x0 x1 x2 x3 κ) else none else none) else (t.impl_setText_s5 x0 x1 x2 x3 κ)) else (t.impl_setText_s5 x0 x1 x2 x3 κ))
def B_impl_setText_s5 (t : Tb ρ) (x6 : Int) (x7 : Bool) (x8 : ByteArray) (x9 : List Int) (κ : ByteArray → Option ρ) : Option ρ:=bif x7 then (t.impl_setText_s8 (bs [91,94]) x6 x7 x8 x9 κ) else (t.impl_setText_s8 (bs [91]) x6 x7 x8 x9 κ)
def B_impl_setText_s8 (t : Tb ρ) (x10 : ByteArray) (x11 : Int) (x12 : Bool) (x13 : ByteArray) (x14 : List Int) (κ : ByteArray → Option ρ) : Option ρ:=t.impl_setText_s9 x10 0 x11 x12 x13 x14 κ
def B_impl_setText_s9 (t : Tb ρ) (x15 : ByteArray) (x16 : Int) (x17 : Int) (x18 : Bool) (x19 : ByteArray) (x20 : List Int) (κ : ByteArray → Option ρ) : Option ρ:=bif decide (x16 < (x19.size : Int)) then (if (0 : Int) ≤ x16 then if x16 < (x19.size : Int) then t.impl_masked (bt x19 x16) (bs [93,94,45,92]) (fun (v21 : ByteArray)=>if x15.size + v21.size ≤ 9223372036854775807 then if (0 : Int) ≤ x16 then if x16 < (x19.size : Int) then if (0 : Int) ≤ (w (x16 + 1)) then if (w (x16 + 1)) < (x19.size : Int) then bif (bt x19 x16) != (bt x19 (w (x16 + 1))) then (if (0 : Int) ≤ (w (x16 + 1)) then if (w (x16 + 1)) < (x19.size : Int) then t.impl_masked (bt x19 (w (x16 + 1))) (bs [93,94,45,92]) (fun (v22 : ByteArray)=>if 1 + v22.size ≤ 9223372036854775807 then if (x15 ++ v21).size + ((bs [45]) ++ v22).size ≤ 9223372036854775807 then t.impl_setText_s9 ((x15 ++ v21) ++ ((bs [45]) ++ v22)) (w (x16 + 2)) x17 x18 x19 x20 κ else none else none) else none else none) else (t.impl_setText_s9 (x15 ++ v21) (w (x16 + 2)) x17 x18 x19 x20 κ) else none else none else none else none else none) else none else none) else (if x15.size + 1 ≤ 9223372036854775807 then κ (x15 ++ (bs [93])) else none)
def B_slices_IndexFuncintint (t : Tb ρ) (x0 : List Int) (κ : Int → Option ρ) : Option ρ:=t.slices_IndexFuncintint_s2 x0 (x0.length : Int) 0 κ
def B_slices_IndexFuncintint_s2 (t : Tb ρ) (x1 : List Int) (x2 : Int) (x3 : Int) (κ : Int → Option ρ) : Option ρ:=bif decide (x3 < x2) then (if (0 : Int) ≤ x3 then if x3 < (x1.length : Int) then t.impl_ReOk_1 (elI .i64 x1 x3) (fun (v4 : Bool)=>bif v4 then (κ x3) else (t.slices_IndexFuncintint_s2 x1 x2 (w (x3 + 1)) κ)) else none else none) else (κ (-1))
def B_spec_l2seq (t : Tb ρ) (x0 : Int) (x1 : ByteArray) (x2 : Int) (x3 : List Tt49) (x4 : Bool) (κ : Int → Int → List Tt49 → Bool → Option ρ) : Option ρ:=t.spec_l2rep x0 x1 x2 x3 x4 (fun (v5 : Int) (v6 : Int) (v7 : List Tt49) (v8 : Bool)=>t.spec_l2seq_s2 x0 [v5] x1 v6 v7 v8 κ)
def B_spec_l2seq_s2 (t : Tb ρ) (x9 : Int) (x10 : List Int) (x11 : ByteArray) (x12 : Int) (x13 : List Tt49) (x14 : Bool) (κ : Int → Int → List Tt49 → Bool → Option ρ) : Option ρ:=bif !x14 then (t.spec_l2more x11 x12 (fun (v15 : Bool)=>bif v15 then (t.spec_l2peek x11 x12 (fun (v16 : Int)=>bif v16 != 124 then (t.spec_l2peek x11 x12 (fun (v17 : Int)=>bif v17 != 41 then (t.spec_l2rep x9 x11 x12 x13 x14 (fun (v18 : Int) (v19 : Int) (v20 : List Tt49) (v21 : Bool)=>if (x10.length + 1) * 8 ≤ 140737488355328 then t.spec_l2seq_s2 x9 (x10 ++ [v18]) x11 v19 v20 v21 κ else none)) else (t.spec_l2seq_s4 x10 x11 x12 x13 x14 κ))) else (t.spec_l2seq_s4 x10 x11 x12 x13 x14 κ))) else (t.spec_l2seq_s4 x10 x11 x12 x13 x14 κ))) else (t.spec_l2seq_s4 x10 x11 x12 x13 x14 κ)
def B_spec_l2seq_s4 (t : Tb ρ) (x22 : List Int) (x23 : ByteArray) (x24 : Int) (x25 : List Tt49) (x26 : Bool) (κ : Int → Int → List Tt49 → Bool → Option ρ) : Option ρ:=bif (x22.length : Int) == 1 then (if (0 : Int) < (x22.length : Int) then κ (elI .i64 x22 0) x24 x25 x26 else none) else (t.spec_l2node 3 false (bs []) x22 x25 (fun (v27 : Int) (v28 : List Tt49)=>κ v27 x24 v28 x26))
def B_spec_l2more (t : Tb ρ) (x0 : ByteArray) (x1 : Int) (κ : Bool → Option ρ) : Option ρ:=κ (decide (x1 < (x0.size : Int)))
def B_spec_l2peek (t : Tb ρ) (x0 : ByteArray) (x1 : Int) (κ : Int → Option ρ) : Option ρ:=bif decide (x1 < (x0.size : Int)) then (if (0 : Int) ≤ x1 then if x1 < (x0.size : Int) then κ (bt x0 x1) else none else none) else (κ 0)
def B_spec_l2node (t : Tb ρ) (x0 : Int) (x1 : Bool) (x2 : ByteArray) (x3 : List Int) (x4 : List Tt49) (κ : Int → List Tt49 → Option ρ) : Option ρ:=if (x4.length + 1) * 56 ≤ 140737488355328 then κ (w (((x4 ++ [(x0,x1,x2,x3)]).length : Int) - 1)) (x4 ++ [(x0,x1,x2,x3)]) else none
def B_spec_l2node_1 (t : Tb ρ) (x0 : Int) (x1 : Bool) (x2 : ByteArray) (x3 : List Tt49) (κ : Int → List Tt49 → Option ρ) : Option ρ:=if (x3.length + 1) * 56 ≤ 140737488355328 then κ (w (((x3 ++ [(x0,x1,x2,[])]).length : Int) - 1)) (x3 ++ [(x0,x1,x2,[])]) else none
def B_impl_reParser_repeated (t : Tb ρ) (x0 : ByteArray) (x1 : Int) (x2 : Int) (x3 : List Tt49) (x4 : Bool) (κ : Int → Int → Int → List Tt49 → Bool → Option ρ) : Option ρ:=t.impl_reParser_atom x0 x1 x2 x3 x4 (fun (v5 : Int) (v6 : Int) (v7 : Int) (v8 : List Tt49) (v9 : Bool)=>t.impl_reParser_repeated_s2 v5 x0 v6 v7 v8 v9 κ)
def B_impl_reParser_repeated_s2 (t : Tb ρ) (x10 : Int) (x11 : ByteArray) (x12 : Int) (x13 : Int) (x14 : List Tt49) (x15 : Bool) (κ : Int → Int → Int → List Tt49 → Bool → Option ρ) : Option ρ:=bif !x15 then (t.impl_reParser_sees (bs [42,43,63]) x11 x12 (fun (v16 : Bool)=>bif v16 then (t.impl_reParser_next x11 x12 x15 (fun (v17 : Int) (v18 : Int) (v19 : Bool)=>t.strings_IndexByte (bs [42,43,63]) v17 (fun (v20 : Int)=>t.impl_reParser_add_1 (w (5 + v20)) false (bs []) [x10] x14 v19 (fun (v21 : Int) (v22 : List Tt49) (v23 : Bool)=>t.impl_reParser_repeated_s2 v21 x11 v18 x13 v22 v23 κ)))) else (κ x10 x12 x13 x14 x15))) else (κ x10 x12 x13 x14 x15)
def B_impl_reParser_add (t : Tb ρ) (x0 : Int) (x1 : Bool) (x2 : ByteArray) (x3 : List Tt49) (x4 : Bool) (κ : Int → List Tt49 → Bool → Option ρ) : Option ρ:=if (x3.length + 1) * 56 ≤ 140737488355328 then bif x4 then (κ (w (((x3 ++ [(x0,x1,x2,[])]).length : Int) - 1)) (x3 ++ [(x0,x1,x2,[])]) true) else (κ (w (((x3 ++ [(x0,x1,x2,[])]).length : Int) - 1)) (x3 ++ [(x0,x1,x2,[])]) (decide (((x3 ++ [(x0,x1,x2,[])]).length : Int) > 200))) else none
def B_impl_reParser_add_1 (t : Tb ρ) (x0 : Int) (x1 : Bool) (x2 : ByteArray) (x3 : List Int) (x4 : List Tt49) (x5 : Bool) (κ : Int → List Tt49 → Bool → Option ρ) : Option ρ:=if (x4.length + 1) * 56 ≤ 140737488355328 then bif x5 then (κ (w (((x4 ++ [(x0,x1,x2,x3)]).length : Int) - 1)) (x4 ++ [(x0,x1,x2,x3)]) true) else (κ (w (((x4 ++ [(x0,x1,x2,x3)]).length : Int) - 1)) (x4 ++ [(x0,x1,x2,x3)]) (decide (((x4 ++ [(x0,x1,x2,x3)]).length : Int) > 200))) else none
def B_impl_masked (t : Tb ρ) (x0 : Int) (x1 : ByteArray) (κ : ByteArray → Option ρ) : Option ρ:=t.strings_IndexByte x1 x0 (fun (v2 : Int)=>bif decide (v2 ≥ 0) then (if 1 + (strOfNums [x0]).size ≤ 9223372036854775807 then κ ((bs [92]) ++ (strOfNums [x0])) else none) else (κ (strOfNums [x0])))
def B_spec_l2rep (t : Tb ρ) (x0 : Int) (x1 : ByteArray) (x2 : Int) (x3 : List Tt49) (x4 : Bool) (κ : Int → Int → List Tt49 → Bool → Option ρ) : Option ρ:=t.spec_l2atom x0 x1 x2 x3 x4 (fun (v5 : Int) (v6 : Int) (v7 : List Tt49) (v8 : Bool)=>t.spec_l2rep_s2 v5 x1 v6 v7 v8 κ)
def B_spec_l2rep_s2 (t : Tb ρ) (x9 : Int) (x10 : ByteArray) (x11 : Int) (x12 : List Tt49) (x13 : Bool) (κ : Int → Int → List Tt49 → Bool → Option ρ) : Option ρ:=bif !x13 then (t.spec_l2more x10 x11 (fun (v14 : Bool)=>bif v14 then (t.spec_l2peek x10 x11 (fun (v15 : Int)=>t.spec_l2has (bs [42,43,63]) v15 (fun (v16 : Bool)=>bif v16 then (t.spec_l2peek x10 x11 (fun (v17 : Int)=>bif v17 == 43 then (t.spec_l2node 6 false (bs []) [x9] x12 (fun (v18 : Int) (v19 : List Tt49)=>t.spec_l2rep_s2 v18 x10 (w (x11 + 1)) v19 x13 κ)) else (bif v17 == 63 then (t.spec_l2node 7 false (bs []) [x9] x12 (fun (v20 : Int) (v21 : List Tt49)=>t.spec_l2rep_s2 v20 x10 (w (x11 + 1)) v21 x13 κ)) else (t.spec_l2node 5 false (bs []) [x9] x12 (fun (v22 : Int) (v23 : List Tt49)=>t.spec_l2rep_s2 v22 x10 (w (x11 + 1)) v23 x13 κ))))) else (κ x9 x11 x12 x13)))) else (κ x9 x11 x12 x13))) else (κ x9 x11 x12 x13)
def B_impl_reParser_atom (t : Tb ρ) (x0 : ByteArray) (x1 : Int) (x2 : Int) (x3 : List Tt49) (x4 : Bool) (κ : Int → Int → Int → List Tt49 → Bool → Option ρ) : Option ρ:=t.impl_reParser_next x0 x1 x4 (fun (v5 : Int) (v6 : Int) (v7 : Bool)=>bif v5 == 40 then (bif decide ((w (x2 + 1)) > 20) then (κ 0 v6 (w (x2 + 1)) x3 true) else (bif v7 then (κ 0 v6 (w (x2 + 1)) x3 v7) else (t.impl_reParser_whole x0 v6 (w (x2 + 1)) x3 v7 (fun (v8 : Int) (v9 : Int) (v10 : Int) (v11 : List Tt49) (v12 : Bool)=>bif v12 then (κ v8 v9 (w (v10 - 1)) v11 true) else (t.impl_reParser_next x0 v9 v12 (fun (v13 : Int) (v14 : Int) (v15 : Bool)=>κ v8 v14 (w (v10 - 1)) v11 (v13 != 41))))))) else (bif v5 == 94 then (t.impl_reParser_add 1 false (bs []) x3 v7 (fun (v16 : Int) (v17 : List Tt49) (v18 : Bool)=>κ v16 v6 x2 v17 v18)) else (bif v5 == 36 then (t.impl_reParser_add 2 false (bs []) x3 v7 (fun (v19 : Int) (v20 : List Tt49) (v21 : Bool)=>κ v19 v6 x2 v20 v21)) else (bif v5 == 46 then (t.impl_reParser_add 0 true (bs []) x3 v7 (fun (v22 : Int) (v23 : List Tt49) (v24 : Bool)=>κ v22 v6 x2 v23 v24)) else (bif v5 == 91 then (t.impl_reParser_class x0 v6 x3 v7 (fun (v25 : Int) (v26 : Int) (v27 : List Tt49) (v28 : Bool)=>κ v25 v26 x2 v27 v28)) else (bif v5 == 92 then (t.impl_reParser_next x0 v6 v7 (fun (v29 : Int) (v30 : Int) (v31 : Bool)=>t.impl_reParser_single v29 x3 v31 (fun (v32 : Int) (v33 : List Tt49) (v34 : Bool)=>κ v32 v30 x2 v33 v34))) else (bif v5 == 41 then (bif v5 == 41 then (t.impl_reParser_atom_s30 x0 v6 x2 x3 v7 κ) else (t.impl_reParser_atom_s3 v5 x0 v6 x2 x3 v7 κ)) else (bif v5 == 124 then (bif v5 == 124 then (t.impl_reParser_atom_s30 x0 v6 x2 x3 v7 κ) else (t.impl_reParser_atom_s3 v5 x0 v6 x2 x3 v7 κ)) else (bif v5 == 42 then (bif v5 == 42 then (t.impl_reParser_atom_s30 x0 v6 x2 x3 v7 κ) else (t.impl_reParser_atom_s3 v5 x0 v6 x2 x3 v7 κ)) else (bif v5 == 43 then (bif v5 == 43 then (t.impl_reParser_atom_s30 x0 v6 x2 x3 v7 κ) else (t.impl_reParser_atom_s3 v5 x0 v6 x2 x3 v7 κ)) else (bif v5 == 63 then (bif v5 == 63 then (t.impl_reParser_atom_s30 x0 v6 x2 x3 v7 κ) else (t.impl_reParser_atom_s3 v5 x0 v6 x2 x3 v7 κ)) else (bif v5 == 93 then (t.impl_reParser_atom_s30 x0 v6 x2 x3 v7 κ) else (t.impl_reParser_atom_s3 v5 x0 v6 x2 x3 v7 κ)))))))))))))
def B_impl_reParser_atom_s3 (t : Tb ρ) (x40 : Int) (x41 : ByteArray) (x42 : Int) (x43 : Int) (x44 : List Tt49) (x45 : Bool) (κ : Int → Int → Int → List Tt49 → Bool → Option ρ) : Option ρ:=t.impl_reParser_single x40 x44 x45 (fun (v46 : Int) (v47 : List Tt49) (v48 : Bool)=>κ v46 x42 x43 v47 v48)
def B_impl_reParser_atom_s30 (t : Tb ρ) (x35 : ByteArray) (x36 : Int) (x37 : Int) (x38 : List Tt49) (x39 : Bool) (κ : Int → Int → Int → List Tt49 → Bool → Option ρ) : Option ρ:=κ 0 x36 x37 x38 true
def B_impl_reParser_next (t : Tb ρ) (x0 : ByteArray) (x1 : Int) (x2 : Bool) (κ : Int → Int → Bool → Option ρ) : Option ρ:=bif decide (x1 ≥ (x0.size : Int)) then (κ 0 x1 true) else (if (0 : Int) ≤ (w ((w (x1 + 1)) - 1)) then if (w ((w (x1 + 1)) - 1)) < (x0.size : Int) then κ (bt x0 (w ((w (x1 + 1)) - 1))) (w (x1 + 1)) x2 else none else none)
def B_spec_l2atom (t : Tb ρ) (x0 : Int) (x1 : ByteArray) (x2 : Int) (x3 : List Tt49) (x4 : Bool) (κ : Int → Int → List Tt49 → Bool → Option ρ) : Option ρ:=t.spec_l2peek x1 x2 (fun (v5 : Int)=>t.spec_l2more x1 x2 (fun (v6 : Bool)=>bif !v6 then (κ 0 x2 x3 true) else (t.spec_l2has (bs [41,124,42,43,63,93]) v5 (fun (v7 : Bool)=>bif v7 then (κ 0 x2 x3 true) else (bif v5 == 40 then (bif x0 == 20 then (κ 0 x2 x3 true) else (t.spec_l2alt (w (x0 + 1)) x1 (w (x2 + 1)) x3 x4 (fun (v8 : Int) (v9 : Int) (v10 : List Tt49) (v11 : Bool)=>t.spec_l2peek x1 v9 (fun (v12 : Int)=>bif v12 != 41 then (κ v8 (w (v9 + 1)) v10 true) else (κ v8 (w (v9 + 1)) v10 v11))))) else (bif v5 == 91 then (t.spec_l2set x1 x2 x3 x4 (fun (v13 : Int) (v14 : Int) (v15 : List Tt49) (v16 : Bool)=>κ v13 v14 v15 v16)) else (bif v5 == 94 then (t.spec_l2node_1 1 false (bs []) x3 (fun (v17 : Int) (v18 : List Tt49)=>κ v17 (w (x2 + 1)) v18 x4)) else (bif v5 == 36 then (t.spec_l2node_1 2 false (bs []) x3 (fun (v19 : Int) (v20 : List Tt49)=>κ v19 (w (x2 + 1)) v20 x4)) else (bif v5 == 46 then (t.spec_l2node_1 0 true (bs []) x3 (fun (v21 : Int) (v22 : List Tt49)=>κ v21 (w (x2 + 1)) v22 x4)) else (bif v5 == 92 then (t.spec_l2more x1 (w (x2 + 1)) (fun (v23 : Bool)=>bif !v23 then (κ 0 (w (x2 + 1)) x3 true) else (if (0 : Int) ≤ (w ((w ((w (x2 + 1)) + 1)) - 1)) then if (w ((w ((w (x2 + 1)) + 1)) - 1)) < (x1.size : Int) then t.spec_l2byte (bt x1 (w ((w ((w (x2 + 1)) + 1)) - 1))) (fun (v24 : Int) (v25 : Bool) (v26 : ByteArray) (v27 : List Int)=>t.spec_l2node v24 v25 v26 v27 x3 (fun (v28 : Int) (v29 : List Tt49)=>κ v28 (w ((w (x2 + 1)) + 1)) v29 x4)) else none else none))) else (t.spec_l2byte v5 (fun (v30 : Int) (v31 : Bool) (v32 : ByteArray) (v33 : List Int)=>t.spec_l2node v30 v31 v32 v33 x3 (fun (v34 : Int) (v35 : List Tt49)=>κ v34 (w (x2 + 1)) v35 x4)))))))))))))
def B_spec_l2has (t : Tb ρ) (x0 : ByteArray) (x1 : Int) (κ : Bool → Option ρ) : Option ρ:=t.spec_l2has_s2 x0 x1 0 κ
def B_spec_l2has_s2 (t : Tb ρ) (x2 : ByteArray) (x3 : Int) (x4 : Int) (κ : Bool → Option ρ) : Option ρ:=bif decide (x4 < (x2.size : Int)) then (if (0 : Int) ≤ x4 then if x4 < (x2.size : Int) then bif (bt x2 x4) == x3 then (κ true) else (t.spec_l2has_s2 x2 x3 (w (x4 + 1)) κ) else none else none) else (κ false)
def B_impl_reParser_class (t : Tb ρ) (x0 : ByteArray) (x1 : Int) (x2 : List Tt49) (x3 : Bool) (κ : Int → Int → List Tt49 → Bool → Option ρ) : Option ρ:=t.impl_reParser_sees (bs [94]) x0 x1 (fun (v4 : Bool)=>bif v4 then (t.impl_reParser_class_s5 [] x0 (w (x1 + 1)) x2 x3 0 true (bs []) [] κ) else (t.impl_reParser_class_s5 [] x0 x1 x2 x3 0 false (bs []) [] κ))
def B_impl_reParser_class_s5 (t : Tb ρ) (x5 : List Int) (x6 : ByteArray) (x7 : Int) (x8 : List Tt49) (x9 : Bool) (x10 : Int) (x11 : Bool) (x12 : ByteArray) (x13 : List Int) (κ : Int → Int → List Tt49 → Bool → Option ρ) : Option ρ:=bif !x9 then (bif (x5.length : Int) == 0 then (t.impl_reParser_item x6 x7 x9 (fun (v14 : Int) (v15 : Int) (v16 : Bool)=>t.impl_reParser_sees (bs [45]) x6 v15 (fun (v17 : Bool)=>bif v17 then (bif decide ((w (v15 + 1)) < (x6.size : Int)) then (if (0 : Int) ≤ (w (v15 + 1)) then if (w (v15 + 1)) < (x6.size : Int) then bif (bt x6 (w (v15 + 1))) != 93 then (t.impl_reParser_item x6 (w (v15 + 1)) v16 (fun (v18 : Int) (v19 : Int) (v20 : Bool)=>t.impl_reParser_class_s11 v14 v18 (x5.length : Int) ((x5.length : Int) == 0) true true x5 x6 v19 x8 v20 x10 x11 x12 x13 κ)) else (t.impl_reParser_class_s11 v14 v14 (x5.length : Int) ((x5.length : Int) == 0) true true x5 x6 v15 x8 v16 x10 x11 x12 x13 κ) else none else none) else (t.impl_reParser_class_s11 v14 v14 (x5.length : Int) ((x5.length : Int) == 0) true true x5 x6 v15 x8 v16 x10 x11 x12 x13 κ)) else (t.impl_reParser_class_s11 v14 v14 (x5.length : Int) ((x5.length : Int) == 0) true true x5 x6 v15 x8 v16 x10 x11 x12 x13 κ)))) else (t.impl_reParser_sees (bs [93]) x6 x7 (fun (v21 : Bool)=>bif !v21 then (t.impl_reParser_item x6 x7 x9 (fun (v22 : Int) (v23 : Int) (v24 : Bool)=>t.impl_reParser_sees (bs [45]) x6 v23 (fun (v25 : Bool)=>bif v25 then (bif decide ((w (v23 + 1)) < (x6.size : Int)) then (if (0 : Int) ≤ (w (v23 + 1)) then if (w (v23 + 1)) < (x6.size : Int) then bif (bt x6 (w (v23 + 1))) != 93 then (t.impl_reParser_item x6 (w (v23 + 1)) v24 (fun (v26 : Int) (v27 : Int) (v28 : Bool)=>t.impl_reParser_class_s11 v22 v26 (x5.length : Int) ((x5.length : Int) == 0) false (!v21) x5 x6 v27 x8 v28 x10 x11 x12 x13 κ)) else (t.impl_reParser_class_s11 v22 v22 (x5.length : Int) ((x5.length : Int) == 0) false (!v21) x5 x6 v23 x8 v24 x10 x11 x12 x13 κ) else none else none) else (t.impl_reParser_class_s11 v22 v22 (x5.length : Int) ((x5.length : Int) == 0) false (!v21) x5 x6 v23 x8 v24 x10 x11 x12 x13 κ)) else (t.impl_reParser_class_s11 v22 v22 (x5.length : Int) ((x5.length : Int) == 0) false (!v21) x5 x6 v23 x8 v24 x10 x11 x12 x13 κ)))) else (t.impl_reParser_add_1 x10 x11 (strOfNums x5) x13 x8 x9 (fun (v29 : Int) (v30 : List Tt49) (v31 : Bool)=>κ v29 (w (x7 + 1)) v30 v31))))) else (t.impl_reParser_add_1 x10 x11 (strOfNums x5) x13 x8 x9 (fun (v32 : Int) (v33 : List Tt49) (v34 : Bool)=>κ v32 (w (x7 + 1)) v33 v34))
def B_impl_reParser_class_s11 (t : Tb ρ) (x35 : Int) (x36 : Int) (x37 : Int) (x38 : Bool) (x39 : Bool) (x40 : Bool) (x41 : List Int) (x42 : ByteArray) (x43 : Int) (x44 : List Tt49) (x45 : Bool) (x46 : Int) (x47 : Bool) (x48 : ByteArray) (x49 : List Int) (κ : Int → Int → List Tt49 → Bool → Option ρ) : Option ρ:=bif x45 then (t.impl_reParser_class_s12 x35 x36 x37 x38 x39 x40 x41 x42 x43 x44 true x46 x47 x48 x49 κ) else (t.impl_reParser_class_s12 x35 x36 x37 x38 x39 x40 x41 x42 x43 x44 (decide (x36 < x35)) x46 x47 x48 x49 κ)
def B_impl_reParser_class_s12 (t : Tb ρ) (x50 : Int) (x51 : Int) (x52 : Int) (x53 : Bool) (x54 : Bool) (x55 : Bool) (x56 : List Int) (x57 : ByteArray) (x58 : Int) (x59 : List Tt49) (x60 : Bool) (x61 : Int) (x62 : Bool) (x63 : ByteArray) (x64 : List Int) (κ : Int → Int → List Tt49 → Bool → Option ρ) : Option ρ:=if (x56.length + 2) * 1 ≤ 140737488355328 then t.impl_reParser_class_s5 (x56 ++ [x50,x51]) x57 x58 x59 x60 x61 x62 x63 x64 κ else none
def B_impl_reParser_single (t : Tb ρ) (x0 : Int) (x1 : List Tt49) (x2 : Bool) (κ : Int → List Tt49 → Bool → Option ρ) : Option ρ:=t.impl_reParser_add 0 false (strOfNums [x0,x0]) x1 x2 (fun (v3 : Int) (v4 : List Tt49) (v5 : Bool)=>κ v3 v4 v5)
def B_spec_l2set (t : Tb ρ) (x0 : ByteArray) (x1 : Int) (x2 : List Tt49) (x3 : Bool) (κ : Int → Int → List Tt49 → Bool → Option ρ) : Option ρ:=t.spec_l2peek x0 (w (x1 + 1)) (fun (v4 : Int)=>bif v4 == 94 then (t.spec_l2set_s8 true [] x0 (w ((w (x1 + 1)) + 1)) x2 x3 0 true (bs []) [] κ) else (t.spec_l2set_s8 true [] x0 (w (x1 + 1)) x2 x3 0 false (bs []) [] κ))
def B_spec_l2set_s8 (t : Tb ρ) (x5 : Bool) (x6 : List Int) (x7 : ByteArray) (x8 : Int) (x9 : List Tt49) (x10 : Bool) (x11 : Int) (x12 : Bool) (x13 : ByteArray) (x14 : List Int) (κ : Int → Int → List Tt49 → Bool → Option ρ) : Option ρ:=bif !x10 then (bif x5 then (t.spec_l2item x7 x8 x10 (fun (v15 : Int) (v16 : Int) (v17 : Bool)=>bif !v17 then (bif decide ((w (v16 + 1)) < (x7.size : Int)) then (if (0 : Int) ≤ v16 then if v16 < (x7.size : Int) then bif (bt x7 v16) == 45 then (if (0 : Int) ≤ (w (v16 + 1)) then if (w (v16 + 1)) < (x7.size : Int) then bif (bt x7 (w (v16 + 1))) != 93 then (t.spec_l2item x7 (w (v16 + 1)) v17 (fun (v18 : Int) (v19 : Int) (v20 : Bool)=>t.spec_l2set_s15 v15 v18 x5 true true x6 x7 v19 x9 v20 x11 x12 x13 x14 κ)) else (t.spec_l2set_s15 v15 v15 x5 true true x6 x7 v16 x9 v17 x11 x12 x13 x14 κ) else none else none) else (t.spec_l2set_s15 v15 v15 x5 true true x6 x7 v16 x9 v17 x11 x12 x13 x14 κ) else none else none) else (t.spec_l2set_s15 v15 v15 x5 true true x6 x7 v16 x9 v17 x11 x12 x13 x14 κ)) else (t.spec_l2set_s15 v15 v15 x5 true true x6 x7 v16 x9 v17 x11 x12 x13 x14 κ))) else (t.spec_l2more x7 x8 (fun (v21 : Bool)=>bif v21 then (t.spec_l2peek x7 x8 (fun (v22 : Int)=>bif v22 != 93 then (t.spec_l2item x7 x8 x10 (fun (v23 : Int) (v24 : Int) (v25 : Bool)=>bif !v25 then (bif decide ((w (v24 + 1)) < (x7.size : Int)) then (if (0 : Int) ≤ v24 then if v24 < (x7.size : Int) then bif (bt x7 v24) == 45 then (if (0 : Int) ≤ (w (v24 + 1)) then if (w (v24 + 1)) < (x7.size : Int) then bif (bt x7 (w (v24 + 1))) != 93 then (t.spec_l2item x7 (w (v24 + 1)) v25 (fun (v26 : Int) (v27 : Int) (v28 : Bool)=>t.spec_l2set_s15 v23 v26 x5 false (v22 != 93) x6 x7 v27 x9 v28 x11 x12 x13 x14 κ)) else (t.spec_l2set_s15 v23 v23 x5 false (v22 != 93) x6 x7 v24 x9 v25 x11 x12 x13 x14 κ) else none else none) else (t.spec_l2set_s15 v23 v23 x5 false (v22 != 93) x6 x7 v24 x9 v25 x11 x12 x13 x14 κ) else none else none) else (t.spec_l2set_s15 v23 v23 x5 false (v22 != 93) x6 x7 v24 x9 v25 x11 x12 x13 x14 κ)) else (t.spec_l2set_s15 v23 v23 x5 false (v22 != 93) x6 x7 v24 x9 v25 x11 x12 x13 x14 κ))) else (bif x10 then (t.spec_l2set_s19 x7 x8 x9 x10 κ) else (t.spec_l2peek x7 x8 (fun (v29 : Int)=>bif v29 != 93 then (t.spec_l2set_s19 x7 x8 x9 x10 κ) else (t.spec_l2node x11 x12 (strOfNums x6) x14 x9 (fun (v30 : Int) (v31 : List Tt49)=>κ v30 (w (x8 + 1)) v31 x10))))))) else (bif x10 then (t.spec_l2set_s19 x7 x8 x9 x10 κ) else (t.spec_l2peek x7 x8 (fun (v32 : Int)=>bif v32 != 93 then (t.spec_l2set_s19 x7 x8 x9 x10 κ) else (t.spec_l2node x11 x12 (strOfNums x6) x14 x9 (fun (v33 : Int) (v34 : List Tt49)=>κ v33 (w (x8 + 1)) v34 x10)))))))) else (bif x10 then (t.spec_l2set_s19 x7 x8 x9 x10 κ) else (t.spec_l2peek x7 x8 (fun (v35 : Int)=>bif v35 != 93 then (t.spec_l2set_s19 x7 x8 x9 x10 κ) else (t.spec_l2node x11 x12 (strOfNums x6) x14 x9 (fun (v36 : Int) (v37 : List Tt49)=>κ v36 (w (x8 + 1)) v37 x10)))))
def B_spec_l2set_s15 (t : Tb ρ) (x42 : Int) (x43 : Int) (x44 : Bool) (x45 : Bool) (x46 : Bool) (x47 : List Int) (x48 : ByteArray) (x49 : Int) (x50 : List Tt49) (x51 : Bool) (x52 : Int) (x53 : Bool) (x54 : ByteArray) (x55 : List Int) (κ : Int → Int → List Tt49 → Bool → Option ρ) : Option ρ:=bif decide (x43 < x42) then (t.spec_l2set_s17 x42 x43 x44 x45 x46 x47 x48 x49 x50 true x52 x53 x54 x55 κ) else (t.spec_l2set_s17 x42 x43 x44 x45 x46 x47 x48 x49 x50 x51 x52 x53 x54 x55 κ)
def B_spec_l2set_s17 (t : Tb ρ) (x56 : Int) (x57 : Int) (x58 : Bool) (x59 : Bool) (x60 : Bool) (x61 : List Int) (x62 : ByteArray) (x63 : Int) (x64 : List Tt49) (x65 : Bool) (x66 : Int) (x67 : Bool) (x68 : ByteArray) (x69 : List Int) (κ : Int → Int → List Tt49 → Bool → Option ρ) : Option ρ:=if (x61.length + 2) * 1 ≤ 140737488355328 then t.spec_l2set_s8 false (x61 ++ [x56,x57]) x62 x63 x64 x65 x66 x67 x68 x69 κ else none
def B_spec_l2set_s19 (t : Tb ρ) (x38 : ByteArray) (x39 : Int) (x40 : List Tt49) (x41 : Bool) (κ : Int → Int → List Tt49 → Bool → Option ρ) : Option ρ:=κ 0 x39 x40 true
def B_impl_reParser_item (t : Tb ρ) (x0 : ByteArray) (x1 : Int) (x2 : Bool) (κ : Int → Int → Bool → Option ρ) : Option ρ:=t.impl_reParser_next x0 x1 x2 (fun (v3 : Int) (v4 : Int) (v5 : Bool)=>bif v3 == 92 then (t.impl_reParser_next x0 v4 v5 (fun (v6 : Int) (v7 : Int) (v8 : Bool)=>κ v6 v7 v8)) else (bif v5 then (κ v3 v4 true) else (κ v3 v4 (v3 == 93))))
def B_spec_l2item (t : Tb ρ) (x0 : ByteArray) (x1 : Int) (x2 : Bool) (κ : Int → Int → Bool → Option ρ) : Option ρ:=t.spec_l2more x0 x1 (fun (v3 : Bool)=>bif !v3 then (κ 0 x1 true) else (t.spec_l2peek x0 x1 (fun (v4 : Int)=>bif v4 == 93 then (κ 0 x1 true) else (t.spec_l2peek x0 x1 (fun (v5 : Int)=>bif v5 == 92 then (t.spec_l2more x0 (w (x1 + 1)) (fun (v6 : Bool)=>bif !v6 then (κ 0 (w (x1 + 1)) true) else (if (0 : Int) ≤ (w ((w ((w (x1 + 1)) + 1)) - 1)) then if (w ((w ((w (x1 + 1)) + 1)) - 1)) < (x0.size : Int) then κ (bt x0 (w ((w ((w (x1 + 1)) + 1)) - 1))) (w ((w (x1 + 1)) + 1)) x2 else none else none))) else (if (0 : Int) ≤ (w ((w (x1 + 1)) - 1)) then if (w ((w (x1 + 1)) - 1)) < (x0.size : Int) then κ (bt x0 (w ((w (x1 + 1)) - 1))) (w (x1 + 1)) x2 else none else none))))))
noncomputable def tb : Nat → Tb ρ
 | 0=>⟨fun _ _=>none,fun _ _ _ _ _ _ _ _ _ _=>none,fun _ _ _ _ _ _ _ _ _ _ _ _=>none,X_impl_ReFind,X_impl_ReTest,X_impl_ReEnds,X_impl_ReCount,fun _ _=>none,X_spec_ReOk,fun _=>none,fun _ _ _=>none,fun _ _ _ _ _=>none,fun _ _ _ _ _ _ _ _ _ _=>none,fun _ _ _=>none,fun _ _ _=>none,fun _ _ _ _=>none,fun _ _=>none,fun _ _ _ _=>none,fun _ _ _ _=>none,fun _ _=>none,fun _ _ _ _=>none,fun _ _ _ _=>none,fun _ _ _ _ _=>none,fun _ _ _ _=>none,fun _ _=>none,fun _ _=>none,fun _ _=>none,fun _ _ _ _ _ _=>none,fun _ _ _ _ _ _ _ _ _ _=>none,fun _ _=>none,fun _ _ _ _=>none,fun _ _=>none,fun _ _ _ _ _=>none,fun _ _ _ _ _=>none,fun _ _ _ _ _=>none,fun _ _ _ _ _ _=>none,fun _ _ _ _ _ _ _ _=>none,fun _ _ _ _ _ _=>none,fun _ _ _ _ _ _ _=>none,fun _ _ _=>none,fun _ _ _ _ _ _ _ _ _ _ _=>none,fun _ _ _ _ _ _ _ _ _ _ _ _ _ _ _=>none,fun _ _ _ _ _ _ _ _ _ _ _ _ _ _=>none,fun _=>none,fun _ _ _ _ _=>none,fun _ _ _ _ _=>none,fun _ _ _ _ _ _=>none,fun _ _ _ _ _=>none,fun _=>none,fun _ _ _ _ _ _=>none,fun _ _=>none,fun _ _=>none,fun _ _ _ _ _ _=>none,fun _ _ _ _ _ _ _=>none,fun _ _ _ _ _=>none,fun _ _ _ _=>none,fun _ _ _ _ _=>none,fun _ _ _ _=>none,fun _ _ _ _ _ _=>none,fun _ _ _ _ _ _ _=>none,fun _ _ _ _=>none,fun _ _ _ _ _=>none,fun _ _ _ _ _=>none,fun _ _ _ _ _=>none,fun _ _ _ _ _ _=>none,fun _ _ _ _ _ _ _=>none,fun _ _=>none,fun _ _ _ _=>none,fun _ _ _ _ _ _=>none,fun _ _ _ _ _ _ _=>none,fun _ _ _ _ _ _=>none,fun _ _ _=>none,fun _ _ _=>none,fun _ _ _ _ _ _=>none,fun _ _ _ _ _=>none,fun _ _ _ _ _ _=>none,fun _ _ _ _ _ _ _=>none,X_strings_IndexByte,fun _ _ _ _ _ _=>none,fun _ _ _ _ _ _ _=>none,fun _ _ _=>none,fun _ _ _ _ _ _=>none,fun _ _ _ _ _ _=>none,fun _ _ _ _ _ _=>none,fun _ _ _ _ _ _ _=>none,fun _ _ _ _ _ _=>none,fun _ _ _ _=>none,fun _ _ _ _ _ _=>none,fun _ _ _=>none,fun _ _ _ _=>none,fun _ _ _ _ _=>none,fun _ _ _ _ _ _ _ _ _ _=>none,fun _ _ _ _ _ _ _ _ _ _ _ _ _ _ _ _=>none,fun _ _ _ _ _ _ _ _ _ _ _ _ _ _ _ _=>none,fun _ _ _ _=>none,fun _ _ _ _ _=>none,fun _ _ _ _ _ _ _ _ _ _ _=>none,fun _ _ _ _ _ _ _ _ _ _ _ _ _ _ _=>none,fun _ _ _ _ _ _ _ _ _ _ _ _ _ _ _=>none,fun _ _ _ _ _=>none,fun _ _ _ _=>none,fun _ _ _ _=>none⟩
 | k + 1=>⟨B_laws_FnStars (tb k),B_laws_FnStars_s12 (tb k),B_laws_FnStars_s18 (tb k),X_impl_ReFind,X_impl_ReTest,X_impl_ReEnds,X_impl_ReCount,B_spec_DrawReFind (tb k),X_spec_ReOk,B_laws_shapes (tb k),B_laws_shift (tb k),B_laws_shift_s3 (tb k),B_laws_shift_s7 (tb k),B_laws_at (tb k),B_laws_sameInts (tb k),B_laws_sameInts_s4 (tb k),B_laws_list (tb k),B_laws_list_s3 (tb k),B_impl_between (tb k),B_spec_l1New (tb k),B_spec_l1New_s3 (tb k),B_spec_l2tree (tb k),B_spec_l2tree_s13 (tb k),B_spec_l2subject (tb k),B_impl_ReParse (tb k),B_impl_ReText (tb k),B_impl_ReOk (tb k),B_impl_ReOk_s5 (tb k),B_impl_ReOk_s10 (tb k),B_spec_ReParse (tb k),B_spec_l2pattern (tb k),B_spec_l2byte (tb k),B_spec_l1Below (tb k),B_spec_l1text (tb k),B_spec_l1Once (tb k),B_spec_l1of (tb k),B_spec_l1of_s3 (tb k),B_impl_reParser_whole (tb k),B_impl_reParser_whole_s2 (tb k),B_impl_reText (tb k),B_impl_reText_s10 (tb k),B_impl_reText_s17 (tb k),B_impl_reText_s19 (tb k),B_impl_reText_s22 (tb k),B_impl_isReNode (tb k),B_impl_isReNode_s10 (tb k),B_impl_isReNode_s11 (tb k),B_impl_isReNode_s14 (tb k),B_impl_isReNode_s15 (tb k),B_impl_isReNode_s19 (tb k),B_slices_ContainsFuncintint (tb k),B_impl_ReOk_1 (tb k),B_spec_l2alt (tb k),B_spec_l2alt_s2 (tb k),B_spec_l2draw (tb k),B_spec_l2draw_s18 (tb k),B_spec_l1bend (tb k),B_spec_l1Byte (tb k),B_impl_reParser_part (tb k),B_impl_reParser_part_s2 (tb k),B_impl_reParser_sees (tb k),B_impl_reParser_joined (tb k),B_impl_setText (tb k),B_impl_setText_s5 (tb k),B_impl_setText_s8 (tb k),B_impl_setText_s9 (tb k),B_slices_IndexFuncintint (tb k),B_slices_IndexFuncintint_s2 (tb k),B_spec_l2seq (tb k),B_spec_l2seq_s2 (tb k),B_spec_l2seq_s4 (tb k),B_spec_l2more (tb k),B_spec_l2peek (tb k),B_spec_l2node (tb k),B_spec_l2node_1 (tb k),B_impl_reParser_repeated (tb k),B_impl_reParser_repeated_s2 (tb k),X_strings_IndexByte,B_impl_reParser_add (tb k),B_impl_reParser_add_1 (tb k),B_impl_masked (tb k),B_spec_l2rep (tb k),B_spec_l2rep_s2 (tb k),B_impl_reParser_atom (tb k),B_impl_reParser_atom_s3 (tb k),B_impl_reParser_atom_s30 (tb k),B_impl_reParser_next (tb k),B_spec_l2atom (tb k),B_spec_l2has (tb k),B_spec_l2has_s2 (tb k),B_impl_reParser_class (tb k),B_impl_reParser_class_s5 (tb k),B_impl_reParser_class_s11 (tb k),B_impl_reParser_class_s12 (tb k),B_impl_reParser_single (tb k),B_spec_l2set (tb k),B_spec_l2set_s8 (tb k),B_spec_l2set_s15 (tb k),B_spec_l2set_s17 (tb k),B_spec_l2set_s19 (tb k),B_impl_reParser_item (tb k),B_spec_l2item (tb k)⟩
end
end Go.Proofs.YtlakdfbfkbndiaaDoor.Ev.Pr
set_option linter.unusedVariables false
set_option maxRecDepth 100000
namespace Go.Proofs.YtlakdfbfkbndiaaDoor.Ev.Pr
open Go Go.RowKit Go.Proofs.YtlakdfbfkbndiaaDoorW.PrintWords Go.Proofs.YtlakdfbfkbndiaaDoorW.PrintMore Kd Go.Proofs.YtlakdfbfkbndiaaDoor.Ev
def tabD : List TI:=[⟨3,.int .i64,1,8⟩,
 ⟨4,.bool,1,1⟩,
 ⟨5,.int .u8,1,1⟩,
 ⟨9,.str,1,16⟩,
 ⟨26,.sl 49,1,24⟩,
 ⟨31,.sl 3,1,24⟩,
 ⟨41,.sl 5,1,24⟩,
 ⟨49,.st [(0,3),(1,4),(2,9),(3,31)],4,56⟩,
 ⟨51,.sl 4,1,24⟩,
 ⟨95,.st [(0,41),(1,3),(2,3)],3,40⟩,
 ⟨99,.sl 9,1,24⟩,
 ⟨104,.st [(0,9),(1,3),(2,3),(3,26),(4,4)],5,64⟩,
 ⟨116,.st [(0,9),(1,3),(2,26),(3,4)],4,56⟩]
def modes : List (Nat × List Nat):=[(86,[0,0,1]),(92,[0,1]),(95,[0,1])]
def quiets : List Nat:=[]
def keepers : List Nat:=[49]
def wr_laws_put : Wr:=⟨fun
 | false,[⟨.sl 4 .bool,x0⟩],[⟨.int .i64,y0⟩]=>some ([⟨.sl 4 .bool,(X_laws_put x0 y0).1⟩],[⟨.bool,(X_laws_put x0 y0).2⟩])
 | _,_,_=>none⟩
def wrs : List (Nat × Option Wr):=[(33,some wr_laws_put)]
def C : Ctx:=⟨tabD,lookA [] modes,inN quiets,inN keepers,lookA none wrs⟩
def insts : List (Nat × List Inst):=[(9,[⟨[.sl 5 (.int .u8)],[],[pB],[],none,[(12,⟨[(4,pS),(5,.tok 5),(6,.tok 6),(7,.tok 7),(8,pI),(9,.tok 9),(10,.tok 10),(11,.tok 11),(12,pI)],[(5,49,yt49),(6,49,yt49),(7,49,yt49),(9,4,.bool),(10,4,.bool),(11,3,(.int .i64))],[]⟩),(18,⟨[(4,pS),(5,.tok 5),(6,.tok 6),(7,.tok 7),(8,pI),(9,.tok 9),(10,.tok 10),(11,.tok 11),(12,pI),(13,.tok 13),(14,pI)],[(5,49,yt49),(6,49,yt49),(7,49,yt49),(9,4,.bool),(10,4,.bool),(11,3,(.int .i64)),(13,3,(.int .i64))],[]⟩)]⟩]),
 (14,[⟨[.sl 49 yt49,pS],[],[pI,pI],[],none,[]⟩]),
 (17,[⟨[.sl 49 yt49,pS],[],[pB],[],none,[]⟩]),
 (19,[⟨[.sl 49 yt49,pS,pI],[],[.own 3 (.int .i64)],[],none,[]⟩]),
 (25,[⟨[.sl 49 yt49,pS],[],[pI],[],none,[]⟩]),
 (28,[⟨[.sl 5 (.int .u8)],[],[.own 49 yt49,pS],[],none,[]⟩]),
 (29,[⟨[.sl 49 yt49],[],[pB],[],none,[]⟩]),
 (30,[⟨[],[],[pB],[],none,[]⟩]),
 (31,[⟨[.sl 49 yt49,pI],[],[.own 49 yt49],[],none,[(3,⟨[(0,.sl 49 yt49),(1,pI),(5,.tok 5),(6,pI)],[(5,49,yt49)],[]⟩),(7,⟨[(0,.sl 49 yt49),(1,pI),(5,.tok 5),(6,pI),(7,.ptr 0 0),(8,pI)],[(5,49,yt49)],[[pI,pB,pS,.own 3 (.int .i64)]]⟩)]⟩]),
 (32,[⟨[.sl 5 (.int .u8),pI],[],[pI],[],none,[]⟩]),
 (34,[⟨[.sl 3 (.int .i64),.sl 3 (.int .i64)],[],[pB],[],none,[(4,⟨[(0,.sl 3 (.int .i64)),(1,.sl 3 (.int .i64)),(5,pI)],[],[]⟩)]⟩]),
 (35,[⟨[.sl 4 .bool],[],[.own 3 (.int .i64)],[],none,[(3,⟨[(0,.sl 4 .bool),(3,.tok 3),(4,pI)],[(3,3,(.int .i64))],[]⟩)]⟩]),
 (44,[⟨[pI,pI,pI],[],[pB],[],none,[]⟩]),
 (49,[⟨[.sl 5 (.int .u8)],[],[.ptr 0 0],[[.sl 5 (.int .u8),pI,pI]],none,[(3,⟨[(0,.sl 5 (.int .u8)),(3,pI),(4,pI)],[],[]⟩)]⟩]),
 (50,[⟨[.ptr 0 0],[[.same (.sl 5 (.int .u8)),pI,pI]],[.own 49 yt49],[[sj,pI,pI]],none,[(13,⟨[(3,.tok 3)],[(3,49,yt49)],[[.same (.sl 5 (.int .u8)),pI,pI]]⟩)]⟩]),
 (51,[⟨[.ptr 0 0],[[.same (.sl 5 (.int .u8)),pI,pI]],[pS],[[sj,pI,pI]],none,[]⟩]),
 (53,[⟨[pS],[],[.own 49 yt49,pB],[],none,[]⟩]),
 (54,[⟨[.sl 49 yt49],[],[pS],[],none,[]⟩]),
 (60,[⟨[.sl 49 yt49],[],[pB],[],none,[(5,⟨[(0,.sl 49 yt49),(3,.tok 3),(16,.sl 49 yt49),(17,pI),(18,pI)],[(3,3,(.int .i64))],[]⟩),(10,⟨[(0,.sl 49 yt49),(3,.tok 3),(4,pI),(16,.sl 49 yt49),(17,pI),(18,pI),(27,.sl 3 (.int .i64)),(28,pI),(29,pI)],[(3,3,(.int .i64))],[]⟩)]⟩]),
 (63,[⟨[pS],[],[.own 49 yt49,pB],[],none,[]⟩]),
 (64,[⟨[.ptr 0 0],[[.same (.sl 5 (.int .u8)),pI,pI]],[pS],[[sj,pI,pI]],none,[]⟩]),
 (65,[⟨[.sc (.int .u8)],[],[.agg [pI,pB,pS,.own 3 (.int .i64)]],[],none,[]⟩]),
 (66,[⟨[.ptr 0 0,pI],[[.same (.sl 5 (.int .u8)),pI,pI]],[pI],[[sj,pI,pI]],none,[]⟩]),
 (67,[⟨[.ptr 0 0,.sl 9 .str],[[.same (.sl 5 (.int .u8)),pI,pI]],[pS],[[sj,pI,pI]],none,[]⟩]),
 (68,[⟨[.ptr 0 0,pI],[[.same (.sl 5 (.int .u8)),pI,pI]],[pB],[[sj,pI,pI]],none,[]⟩]),
 (69,[⟨[.ptr 0 0,pI,pS],[[.same (.sl 5 (.int .u8)),pI,pI]],[pS],[[sj,pI,pI]],none,[(3,⟨[(0,.ptr 0 0),(1,pI),(2,pS),(7,.tok 7),(8,pI)],[(7,5,(.int .u8))],[[.same (.sl 5 (.int .u8)),pI,pI]]⟩)]⟩]),
 (71,[⟨[.ptr 0 0],[[.same (pS),pI,pI,.own 49 yt49,pB]],[pI],[[sj,pI,pI,.own 49 yt49,pB]],none,[(2,⟨[(0,.ptr 0 0),(3,.tok 3)],[(3,3,(.int .i64))],[[.same (pS),pI,pI,.own 49 yt49,pB]]⟩)]⟩]),
 (72,[⟨[.sl 49 yt49,pI],[],[pS,pI,pB],[],none,[(10,⟨[(0,.sl 49 yt49),(7,.ptr 0 0),(8,pS),(9,pI),(31,.sl 3 (.int .i64)),(32,pI),(33,pI)],[],[[pI,pB,pS,.sl 3 (.int .i64)]]⟩),(17,⟨[(0,.sl 49 yt49),(7,.ptr 0 0),(8,pS),(9,pI),(10,pI),(12,pS),(13,pI),(14,pB),(31,.sl 3 (.int .i64)),(32,pI),(33,pI)],[],[[pI,pB,pS,.sl 3 (.int .i64)]]⟩),(19,⟨[(0,.sl 49 yt49),(7,.ptr 0 0),(8,pS),(9,pI),(12,pS),(13,pI),(14,pB),(31,.sl 3 (.int .i64)),(32,pI),(33,pI)],[],[[pI,pB,pS,.sl 3 (.int .i64)]]⟩),(22,⟨[],[],[]⟩)]⟩]),
 (74,[⟨[.agg [pI,pB,pS,.sl 3 (.int .i64)]],[],[pB],[],none,[(10,⟨[(1,.ptr 0 0)],[],[[pI,pB,pS,.sl 3 (.int .i64)]]⟩),(11,⟨[(1,.ptr 0 0),(15,pI)],[],[[pI,pB,pS,.sl 3 (.int .i64)]]⟩),(14,⟨[(1,.ptr 0 0)],[],[[pI,pB,pS,.sl 3 (.int .i64)]]⟩),(15,⟨[],[],[]⟩),(19,⟨[(1,.ptr 0 0),(3,pI)],[],[[pI,pB,pS,.sl 3 (.int .i64)]]⟩)]⟩]),
 (75,[⟨[.sl 3 (.int .i64),.fn (.func 76) [] []],[],[pB],[],none,[]⟩]),
 (76,[⟨[pI],[],[pB],[],none,[]⟩]),
 (80,[⟨[.ptr 0 0,pI],[[.same (pS),pI,.own 49 yt49,pB]],[pI],[[sj,pI,.own 49 yt49,pB]],none,[(2,⟨[(0,.ptr 0 0),(1,pI),(5,.tok 5)],[(5,3,(.int .i64))],[[.same (pS),pI,.own 49 yt49,pB]]⟩)]⟩]),
 (81,[⟨[.ptr 0 0,pI],[[.same (.sl 5 (.int .u8)),pI,pI]],[pS],[[sj,pI,pI]],none,[(18,⟨[(0,.ptr 0 0)],[],[[.same (.sl 5 (.int .u8)),pI,pI]]⟩)]⟩]),
 (82,[⟨[.ptr 0 0,pS],[[.same (.sl 5 (.int .u8)),pI,pI]],[pS],[[sj,pI,pI]],none,[]⟩]),
 (83,[⟨[.ptr 0 0],[[.same (.sl 5 (.int .u8)),pI,pI]],[pI],[[sj,pI,pI]],none,[]⟩]),
 (84,[⟨[.ptr 0 0],[[.same (pS),pI,pI,.own 49 yt49,pB]],[pI],[[sj,pI,pI,.own 49 yt49,pB]],none,[(2,⟨[(0,.ptr 0 0),(3,.tok 3)],[(3,3,(.int .i64))],[[.same (pS),pI,pI,.own 49 yt49,pB]]⟩)]⟩]),
 (85,[⟨[.ptr 0 0,pS],[[.same (pS),.same (pI),sj,sj,sj]],[pB],[[sj,sj,sj,sj,sj]],none,[]⟩]),
 (86,[⟨[.ptr 0 0,pI,.own 3 (.int .i64)],[[sj,sj,sj,.own 49 yt49,pB]],[pI],[[sj,sj,sj,.own 49 yt49,pB]],none,[]⟩]),
 (87,[⟨[.agg [pI,pB,pS,.sl 3 (.int .i64)]],[],[pS],[],none,[(5,⟨[(1,.ptr 0 0)],[],[[pI,pB,pS,.sl 3 (.int .i64)]]⟩),(8,⟨[(1,.ptr 0 0),(3,pS)],[],[[pI,pB,pS,.sl 3 (.int .i64)]]⟩),(9,⟨[(1,.ptr 0 0),(3,pS),(4,pI)],[],[[pI,pB,pS,.sl 3 (.int .i64)]]⟩)]⟩]),
 (88,[⟨[.sl 3 (.int .i64),.fn (.func 76) [] []],[],[pI],[],none,[(2,⟨[(0,.sl 3 (.int .i64)),(1,.fn (.func 76) [] []),(7,pI),(8,pI)],[],[]⟩)]⟩]),
 (89,[⟨[.ptr 0 0,pI],[[.same (pS),pI,.own 49 yt49,pB]],[pI],[[sj,pI,.own 49 yt49,pB]],none,[(2,⟨[(0,.ptr 0 0),(1,pI),(5,.tok 5)],[(5,3,(.int .i64))],[[.same (pS),pI,.own 49 yt49,pB]]⟩),(4,⟨[(0,.ptr 0 0),(5,.tok 5)],[(5,3,(.int .i64))],[[.same (pS),pI,.own 49 yt49,pB]]⟩)]⟩]),
 (90,[⟨[.ptr 0 0],[[.same (pS),.same (pI),sj,sj]],[pB],[[sj,sj,sj,sj]],none,[]⟩]),
 (91,[⟨[.ptr 0 0],[[.same (pS),.same (pI),sj,sj]],[.sc (.int .u8)],[[sj,sj,sj,sj]],none,[]⟩]),
 (92,[⟨[.ptr 0 0,.agg [pI,pB,pS,.own 3 (.int .i64)]],[[sj,sj,.own 49 yt49,sj]],[pI],[[sj,sj,.own 49 yt49,sj]],none,[]⟩,
  ⟨[.ptr 0 0,.agg [pI,pB,pS,.cst (.slice none 0 0)]],[[sj,sj,.own 49 yt49,sj]],[pI],[[sj,sj,.own 49 yt49,sj]],none,[]⟩]),
 (93,[⟨[.ptr 0 0],[[.same (pS),pI,pI,.own 49 yt49,pB]],[pI],[[sj,pI,pI,.own 49 yt49,pB]],none,[(2,⟨[(0,.ptr 0 0),(3,pI)],[],[[.same (pS),pI,pI,.own 49 yt49,pB]]⟩)]⟩]),
 (94,[⟨[pS,.sc (.int .u8)],[],[pI],[],none,[]⟩]),
 (95,[⟨[.ptr 0 0,.agg [pI,pB,pS,.cst (.slice none 0 0)]],[[sj,sj,sj,.own 49 yt49,pB]],[pI],[[sj,sj,sj,.own 49 yt49,pB]],none,[]⟩,
  ⟨[.ptr 0 0,.agg [pI,pB,pS,.own 3 (.int .i64)]],[[sj,sj,sj,.own 49 yt49,pB]],[pI],[[sj,sj,sj,.own 49 yt49,pB]],none,[]⟩]),
 (96,[⟨[.sc (.int .u8),pS],[],[pS],[],none,[]⟩]),
 (97,[⟨[.ptr 0 0,pI],[[.same (pS),pI,.own 49 yt49,pB]],[pI],[[sj,pI,.own 49 yt49,pB]],none,[(2,⟨[(0,.ptr 0 0),(5,pI)],[],[[.same (pS),pI,.own 49 yt49,pB]]⟩)]⟩]),
 (98,[⟨[.ptr 0 0],[[.same (pS),pI,pI,.own 49 yt49,pB]],[pI],[[sj,pI,pI,.own 49 yt49,pB]],none,[(3,⟨[(0,.ptr 0 0),(3,.sc (.int .u8))],[],[[.same (pS),pI,pI,.own 49 yt49,pB]]⟩),(30,⟨[(0,.ptr 0 0)],[],[[.same (pS),pI,pI,.own 49 yt49,pB]]⟩)]⟩]),
 (99,[⟨[.ptr 0 0],[[.same (pS),pI,sj,sj,pB]],[.sc (.int .u8)],[[sj,pI,sj,sj,pB]],none,[]⟩]),
 (101,[⟨[.ptr 0 0,pI],[[.same (pS),pI,.own 49 yt49,pB]],[pI],[[sj,pI,.own 49 yt49,pB]],none,[]⟩]),
 (102,[⟨[pS,.sc (.int .u8)],[],[pB],[],none,[(2,⟨[(0,pS),(1,.sc (.int .u8)),(5,pI)],[],[]⟩)]⟩]),
 (103,[⟨[.ptr 0 0],[[.same (pS),pI,sj,.own 49 yt49,pB]],[pI],[[sj,pI,sj,.own 49 yt49,pB]],none,[(5,⟨[(0,.ptr 0 0),(3,.ptr 1 0),(4,.tok 4)],[(4,5,(.int .u8))],[[.same (pS),pI,sj,.own 49 yt49,pB],[pI,pB,pS,.own 3 (.int .i64)]]⟩),(11,⟨[(0,.ptr 0 0),(3,.ptr 1 0),(4,.tok 4),(5,.sc (.int .u8)),(6,.sc (.int .u8)),(25,.tok 4),(26,pI),(27,pB),(28,pB),(32,pB)],[(4,5,(.int .u8))],[[.same (pS),pI,sj,.own 49 yt49,pB],[pI,pB,pS,.own 3 (.int .i64)]]⟩),(12,⟨[(0,.ptr 0 0),(3,.ptr 1 0),(4,.tok 4),(5,.sc (.int .u8)),(6,.sc (.int .u8)),(25,.tok 4),(26,pI),(27,pB),(28,pB),(32,pB)],[(4,5,(.int .u8))],[[.same (pS),pI,sj,.own 49 yt49,pB],[pI,pB,pS,.own 3 (.int .i64)]]⟩)]⟩]),
 (104,[⟨[.ptr 0 0,.sc (.int .u8)],[[sj,sj,sj,.own 49 yt49,pB]],[pI],[[sj,sj,sj,.own 49 yt49,pB]],none,[]⟩]),
 (106,[⟨[.ptr 0 0],[[.same (pS),pI,.own 49 yt49,pB]],[pI],[[sj,pI,.own 49 yt49,pB]],none,[(8,⟨[(0,.ptr 0 0),(3,.ptr 1 0),(4,.tok 4),(5,pB)],[(4,5,(.int .u8))],[[.same (pS),pI,.own 49 yt49,pB],[pI,pB,pS,.own 3 (.int .i64)]]⟩),(15,⟨[(0,.ptr 0 0),(3,.ptr 1 0),(4,.tok 4),(6,.sc (.int .u8)),(7,.sc (.int .u8)),(33,pB),(34,pB),(42,pB)],[(4,5,(.int .u8))],[[.same (pS),pI,.own 49 yt49,pB],[pI,pB,pS,.own 3 (.int .i64)]]⟩),(17,⟨[(0,.ptr 0 0),(3,.ptr 1 0),(4,.tok 4),(6,.sc (.int .u8)),(7,.sc (.int .u8)),(33,pB),(34,pB),(42,pB)],[(4,5,(.int .u8))],[[.same (pS),pI,.own 49 yt49,pB],[pI,pB,pS,.own 3 (.int .i64)]]⟩),(19,⟨[(0,.ptr 0 0)],[],[[.same (pS),pI,.own 49 yt49,pB]]⟩)]⟩]),
 (107,[⟨[.ptr 0 0],[[.same (pS),pI,sj,sj,pB]],[.sc (.int .u8)],[[sj,pI,sj,sj,pB]],none,[]⟩]),
 (108,[⟨[.ptr 0 0],[[.same (pS),pI,sj,pB]],[.sc (.int .u8)],[[sj,pI,sj,pB]],none,[]⟩])]
noncomputable def fnL : List (Nat × Option Func):=[(9,some Tryd.f9),(28,some Tryd.f28),(30,some Tryd.f30),(31,some Tryd.f31),(32,some Tryd.f32),(34,some Tryd.f34),(35,some Tryd.f35),(44,some Tryd.f44),(49,some Tryd.f49),(50,some Tryd.f50),(51,some Tryd.f51),(53,some Tryd.f53),(54,some Tryd.f54),(60,some Tryd.f60),(63,some Tryd.f63),(64,some Tryd.f64),(65,some Tryd.f65),(66,some Tryd.f66),(67,some Tryd.f67),(68,some Tryd.f68),(69,some Tryd.f69),(71,some Tryd.f71),(72,some Tryd.f72),(74,some Tryd.f74),(75,some Tryd.f75),(76,some Tryd.f76),(80,some Tryd.f80),(81,some Tryd.f81),(82,some Tryd.f82),(83,some Tryd.f83),(84,some Tryd.f84),(85,some Tryd.f85),(86,some Tryd.f86),(87,some Tryd.f87),(88,some Tryd.f88),(89,some Tryd.f89),(90,some Tryd.f90),(91,some Tryd.f91),(92,some Tryd.f92),(93,some Tryd.f93),(95,some Tryd.f95),(96,some Tryd.f96),(97,some Tryd.f97),(98,some Tryd.f98),(99,some Tryd.f99),(101,some Tryd.f101),(102,some Tryd.f102),(103,some Tryd.f103),(104,some Tryd.f104),(106,some Tryd.f106),(107,some Tryd.f107),(108,some Tryd.f108)]
noncomputable def F : Fns:=⟨lookA none fnL,lookA [] insts⟩
theorem tab_right : TabOK Tryd.prog C.D:=tab_ok (by kernel_rfl)
theorem fns_right : FnsOK Tryd.prog F:=fns_ok ⟨fn_one Tryd.func9 (by kernel_rfl),fn_one Tryd.func28 (by kernel_rfl),fn_one Tryd.func30 (by kernel_rfl),fn_one Tryd.func31 (by kernel_rfl),fn_one Tryd.func32 (by kernel_rfl),fn_one Tryd.func34 (by kernel_rfl),fn_one Tryd.func35 (by kernel_rfl),fn_one Tryd.func44 (by kernel_rfl),fn_one Tryd.func49 (by kernel_rfl),fn_one Tryd.func50 (by kernel_rfl),fn_one Tryd.func51 (by kernel_rfl),fn_one Tryd.func53 (by kernel_rfl),fn_one Tryd.func54 (by kernel_rfl),fn_one Tryd.func60 (by kernel_rfl),fn_one Tryd.func63 (by kernel_rfl),fn_one Tryd.func64 (by kernel_rfl),fn_one Tryd.func65 (by kernel_rfl),fn_one Tryd.func66 (by kernel_rfl),fn_one Tryd.func67 (by kernel_rfl),fn_one Tryd.func68 (by kernel_rfl),fn_one Tryd.func69 (by kernel_rfl),fn_one Tryd.func71 (by kernel_rfl),fn_one Tryd.func72 (by kernel_rfl),fn_one Tryd.func74 (by kernel_rfl),fn_one Tryd.func75 (by kernel_rfl),fn_one Tryd.func76 (by kernel_rfl),fn_one Tryd.func80 (by kernel_rfl),fn_one Tryd.func81 (by kernel_rfl),fn_one Tryd.func82 (by kernel_rfl),fn_one Tryd.func83 (by kernel_rfl),fn_one Tryd.func84 (by kernel_rfl),fn_one Tryd.func85 (by kernel_rfl),fn_one Tryd.func86 (by kernel_rfl),fn_one Tryd.func87 (by kernel_rfl),fn_one Tryd.func88 (by kernel_rfl),fn_one Tryd.func89 (by kernel_rfl),fn_one Tryd.func90 (by kernel_rfl),fn_one Tryd.func91 (by kernel_rfl),fn_one Tryd.func92 (by kernel_rfl),fn_one Tryd.func93 (by kernel_rfl),fn_one Tryd.func95 (by kernel_rfl),fn_one Tryd.func96 (by kernel_rfl),fn_one Tryd.func97 (by kernel_rfl),fn_one Tryd.func98 (by kernel_rfl),fn_one Tryd.func99 (by kernel_rfl),fn_one Tryd.func101 (by kernel_rfl),fn_one Tryd.func102 (by kernel_rfl),fn_one Tryd.func103 (by kernel_rfl),fn_one Tryd.func104 (by kernel_rfl),fn_one Tryd.func106 (by kernel_rfl),fn_one Tryd.func107 (by kernel_rfl),fn_one Tryd.func108 (by kernel_rfl),trivial⟩
abbrev insts':=lookA ([] : List Inst) insts
end Go.Proofs.YtlakdfbfkbndiaaDoor.Ev.Pr
set_option linter.unusedVariables false
set_option maxRecDepth 100000
namespace Go.Proofs.YtlakdfbfkbndiaaDoor.Ev.Pr
open Go Go.RowKit Go.Proofs.YtlakdfbfkbndiaaDoorW.PrintWords Go.Proofs.YtlakdfbfkbndiaaDoorW.PrintMore Kd Go.Proofs.YtlakdfbfkbndiaaDoor.Ev
section
variable {ρ : Type}
def lva (t : Tb ρ) : List (Ent ρ):=[en insts' 9 0 0 t.laws_FnStars,en insts' 9 0 13 t.laws_FnStars_s12,en insts' 9 0 19 t.laws_FnStars_s18,en insts' 14 0 0 t.impl_ReFind,en insts' 17 0 0 t.impl_ReTest,en insts' 19 0 0 t.impl_ReEnds,en insts' 25 0 0 t.impl_ReCount,en insts' 28 0 0 t.spec_DrawReFind,en insts' 29 0 0 t.spec_ReOk,en insts' 30 0 0 t.laws_shapes,en insts' 31 0 0 t.laws_shift,en insts' 31 0 4 t.laws_shift_s3,en insts' 31 0 8 t.laws_shift_s7,en insts' 32 0 0 t.laws_at,en insts' 34 0 0 t.laws_sameInts,en insts' 34 0 5 t.laws_sameInts_s4,en insts' 35 0 0 t.laws_list,en insts' 35 0 4 t.laws_list_s3,en insts' 44 0 0 t.impl_between,en insts' 49 0 0 t.spec_l1New,en insts' 49 0 4 t.spec_l1New_s3,en insts' 50 0 0 t.spec_l2tree,en insts' 50 0 14 t.spec_l2tree_s13,en insts' 51 0 0 t.spec_l2subject,en insts' 53 0 0 t.impl_ReParse,en insts' 54 0 0 t.impl_ReText,en insts' 60 0 0 t.impl_ReOk,en insts' 60 0 6 t.impl_ReOk_s5,en insts' 60 0 11 t.impl_ReOk_s10,en insts' 63 0 0 t.spec_ReParse,en insts' 64 0 0 t.spec_l2pattern,en insts' 65 0 0 t.spec_l2byte,en insts' 66 0 0 t.spec_l1Below,en insts' 67 0 0 t.spec_l1text,en insts' 68 0 0 t.spec_l1Once,en insts' 69 0 0 t.spec_l1of,en insts' 69 0 4 t.spec_l1of_s3,en insts' 71 0 0 t.impl_reParser_whole,en insts' 71 0 3 t.impl_reParser_whole_s2,en insts' 72 0 0 t.impl_reText]
def lvb (t : Tb ρ) : List (Ent ρ):=[en insts' 72 0 11 t.impl_reText_s10,en insts' 72 0 18 t.impl_reText_s17,en insts' 72 0 20 t.impl_reText_s19,en insts' 72 0 23 t.impl_reText_s22,en insts' 74 0 0 t.impl_isReNode,en insts' 74 0 11 t.impl_isReNode_s10,en insts' 74 0 12 t.impl_isReNode_s11,en insts' 74 0 15 t.impl_isReNode_s14,en insts' 74 0 16 t.impl_isReNode_s15,en insts' 74 0 20 t.impl_isReNode_s19,en insts' 75 0 0 t.slices_ContainsFuncintint,en insts' 76 0 0 t.impl_ReOk_1,en insts' 80 0 0 t.spec_l2alt,en insts' 80 0 3 t.spec_l2alt_s2,en insts' 81 0 0 t.spec_l2draw,en insts' 81 0 19 t.spec_l2draw_s18,en insts' 82 0 0 t.spec_l1bend,en insts' 83 0 0 t.spec_l1Byte,en insts' 84 0 0 t.impl_reParser_part,en insts' 84 0 3 t.impl_reParser_part_s2,en insts' 85 0 0 t.impl_reParser_sees,en insts' 86 0 0 t.impl_reParser_joined,en insts' 87 0 0 t.impl_setText,en insts' 87 0 6 t.impl_setText_s5,en insts' 87 0 9 t.impl_setText_s8,en insts' 87 0 10 t.impl_setText_s9,en insts' 88 0 0 t.slices_IndexFuncintint,en insts' 88 0 3 t.slices_IndexFuncintint_s2,en insts' 89 0 0 t.spec_l2seq,en insts' 89 0 3 t.spec_l2seq_s2,en insts' 89 0 5 t.spec_l2seq_s4,en insts' 90 0 0 t.spec_l2more,en insts' 91 0 0 t.spec_l2peek,en insts' 92 0 0 t.spec_l2node,en insts' 92 1 0 t.spec_l2node_1,en insts' 93 0 0 t.impl_reParser_repeated,en insts' 93 0 3 t.impl_reParser_repeated_s2,en insts' 94 0 0 t.strings_IndexByte,en insts' 95 0 0 t.impl_reParser_add,en insts' 95 1 0 t.impl_reParser_add_1]
def lvc (t : Tb ρ) : List (Ent ρ):=[en insts' 96 0 0 t.impl_masked,en insts' 97 0 0 t.spec_l2rep,en insts' 97 0 3 t.spec_l2rep_s2,en insts' 98 0 0 t.impl_reParser_atom,en insts' 98 0 4 t.impl_reParser_atom_s3,en insts' 98 0 31 t.impl_reParser_atom_s30,en insts' 99 0 0 t.impl_reParser_next,en insts' 101 0 0 t.spec_l2atom,en insts' 102 0 0 t.spec_l2has,en insts' 102 0 3 t.spec_l2has_s2,en insts' 103 0 0 t.impl_reParser_class,en insts' 103 0 6 t.impl_reParser_class_s5,en insts' 103 0 12 t.impl_reParser_class_s11,en insts' 103 0 13 t.impl_reParser_class_s12,en insts' 104 0 0 t.impl_reParser_single,en insts' 106 0 0 t.spec_l2set,en insts' 106 0 9 t.spec_l2set_s8,en insts' 106 0 16 t.spec_l2set_s15,en insts' 106 0 18 t.spec_l2set_s17,en insts' 106 0 20 t.spec_l2set_s19,en insts' 107 0 0 t.impl_reParser_item,en insts' 108 0 0 t.spec_l2item]
noncomputable def lv (k : Nat) : List (Ent ρ):=lva (tb k) ++ (lvb (tb k) ++ (lvc (tb k)))
end
end Go.Proofs.YtlakdfbfkbndiaaDoor.Ev.Pr
set_option linter.unusedVariables false
set_option maxRecDepth 100000
namespace Go.Proofs.YtlakdfbfkbndiaaDoor.Ev.Pr
open Go Go.RowKit Go.Proofs.YtlakdfbfkbndiaaDoor.Ev Go.Proofs.YtlakdfbfkbndiaaDoorW.PrintWords Go.Proofs.YtlakdfbfkbndiaaDoorW.PrintMore Kd
class BgT [Bgs] : Prop where
 tabs : ∀ {E W},BgOK E W → Q.Tabs W
theorem ofO_some {α ρ : Type} {x : Option α} {κ : α → Option ρ} {r : ρ} (h : ofO x κ = some r) : ∃ a,x = some a ∧ κ a = some r:=by
 unfold ofO at h
 split at h
 ·exact ⟨_,rfl,h⟩
 ·cases h
theorem nodes_C {W : World} {own : Nat → Prop} {A : Option Addr} {n : Nat} {xs : List ReN} (h : Kd.F yt49.kd W own A n xs) : Kd.C Q.k49 W A n (xs.map toS):=by
 obtain ⟨h1,h2,h3⟩:=F_now h
 refine ⟨by rw [List.length_map];exact h1,h2,fun hn=>?_⟩
 obtain ⟨ad,e,h4⟩:=h3 hn
 refine ⟨ad,e,fun j p hp=>?_⟩
 rw [List.getElem?_map] at hp
 cases hx : xs[j]? with
 | none=>rw [hx] at hp;cases hp
 | some x =>
  rw [hx] at hp
  obtain rfl : toS x = p:=by simpa using hp
  exact h4 j x hx
end Go.Proofs.YtlakdfbfkbndiaaDoor.Ev.Pr
set_option linter.unusedVariables false
set_option maxRecDepth 100000
namespace Go.Proofs.YtlakdfbfkbndiaaDoor.Ev.Pr
open Go Go.RowKit Go.Proofs.YtlakdfbfkbndiaaDoor.Ev Go.Proofs.YtlakdfbfkbndiaaDoorW.PrintWords Go.Proofs.YtlakdfbfkbndiaaDoorW.PrintMore Kd
section
variable {ρ : Type} [Bgs] [BgT]
theorem xo_impl_ReFind (x0 : List ReN) (x1 : ByteArray) (κ : Out → Option ρ) (r : ρ) (h : X_impl_ReFind x0 x1 (fun a0 a1=>κ (.ret [⟨.int .i64,a0⟩,⟨.int .i64,a1⟩])) = some r) : FunP Tryd.prog F.insts 14 0 [⟨.sl 49 yt49,x0⟩,⟨.str,x1⟩] κ r:=by
 obtain ⟨⟨a,b⟩,hab,h⟩:=ofO_some h
 refine ⟨⟨Tryd.f14,Tryd.func14,by kernel_rfl,by kernel_rfl⟩,fun I args h1 bx hI hb1 hb2 E W vals hok hB=>?_⟩
 have eI : (F.insts 14)[0]? = some ⟨[.sl 49 yt49,pS],[],[pI,pI],[],none,[]⟩:=by kernel_rfl
 obtain rfl:=Option.some.inj (eI.symm.trans hI)
 obtain ⟨rfl,rfl⟩ : [AV.sl none 49 yt49 x0,.v (.string x1)] = args ∧ [] = h1:=by simpa [Pt.builds,Pt.build] using hb1
 obtain rfl : [] = bx:=by simpa [Pt.buildB] using hb2
 have hl : E.adr = []:=List.length_eq_zero_iff.mp hok.len.symm
 obtain ⟨A,c,rest,rfl,hc,hF,hv⟩:=arg_sl hok.vals
 obtain ⟨rest2,rfl,hv2⟩:=arg_v hv
 obtain rfl:=arg_nil hv2
 have hC:=nodes_C hF
 have e0 : x0.length = (x0.map toS).length:=by rw [List.length_map]
 rw [e0] at hC hc ⊢
 exact ret_plain (outs:=[.v (.int .i64 a),.v (.int .i64 b)]) (m:=[.int .i64 a,.int .i64 b]) (v:=.tuple #[.int .i64 a,.int .i64 b]) h (by simp [Pt.builds,Pt.build]) rfl hl hok.new rfl (fun W'=>⟨rfl,rfl,trivial⟩) (Q.impl_ReFind.calls A c _ x1 a b W hC hc hab (BgT.tabs hB))
theorem xo_impl_ReTest (x0 : List ReN) (x1 : ByteArray) (κ : Out → Option ρ) (r : ρ) (h : X_impl_ReTest x0 x1 (fun a0=>κ (.ret [⟨.bool,a0⟩])) = some r) : FunP Tryd.prog F.insts 17 0 [⟨.sl 49 yt49,x0⟩,⟨.str,x1⟩] κ r:=by
 obtain ⟨a,hab,h⟩:=ofO_some h
 refine ⟨⟨Tryd.f17,Tryd.func17,by kernel_rfl,by kernel_rfl⟩,fun I args h1 bx hI hb1 hb2 E W vals hok hB=>?_⟩
 have eI : (F.insts 17)[0]? = some ⟨[.sl 49 yt49,pS],[],[pB],[],none,[]⟩:=by kernel_rfl
 obtain rfl:=Option.some.inj (eI.symm.trans hI)
 obtain ⟨rfl,rfl⟩ : [AV.sl none 49 yt49 x0,.v (.string x1)] = args ∧ [] = h1:=by simpa [Pt.builds,Pt.build] using hb1
 obtain rfl : [] = bx:=by simpa [Pt.buildB] using hb2
 have hl : E.adr = []:=List.length_eq_zero_iff.mp hok.len.symm
 obtain ⟨A,c,rest,rfl,hc,hF,hv⟩:=arg_sl hok.vals
 obtain ⟨rest2,rfl,hv2⟩:=arg_v hv
 obtain rfl:=arg_nil hv2
 have hC:=nodes_C hF
 have e0 : x0.length = (x0.map toS).length:=by rw [List.length_map]
 rw [e0] at hC hc ⊢
 exact ret_plain (outs:=[.v (.bool a)]) (m:=[.bool a]) (v:=.bool a) h (by simp [Pt.builds,Pt.build]) rfl hl hok.new rfl (fun W'=>⟨rfl,trivial⟩) (Q.impl_ReTest.calls A c _ x1 a W hC hc hab (BgT.tabs hB))
theorem xo_impl_ReCount (x0 : List ReN) (x1 : ByteArray) (κ : Out → Option ρ) (r : ρ) (h : X_impl_ReCount x0 x1 (fun a0=>κ (.ret [⟨.int .i64,a0⟩])) = some r) : FunP Tryd.prog F.insts 25 0 [⟨.sl 49 yt49,x0⟩,⟨.str,x1⟩] κ r:=by
 obtain ⟨a,hab,h⟩:=ofO_some h
 refine ⟨⟨Tryd.f25,Tryd.func25,by kernel_rfl,by kernel_rfl⟩,fun I args h1 bx hI hb1 hb2 E W vals hok hB=>?_⟩
 have eI : (F.insts 25)[0]? = some ⟨[.sl 49 yt49,pS],[],[pI],[],none,[]⟩:=by kernel_rfl
 obtain rfl:=Option.some.inj (eI.symm.trans hI)
 obtain ⟨rfl,rfl⟩ : [AV.sl none 49 yt49 x0,.v (.string x1)] = args ∧ [] = h1:=by simpa [Pt.builds,Pt.build] using hb1
 obtain rfl : [] = bx:=by simpa [Pt.buildB] using hb2
 have hl : E.adr = []:=List.length_eq_zero_iff.mp hok.len.symm
 obtain ⟨A,c,rest,rfl,hc,hF,hv⟩:=arg_sl hok.vals
 obtain ⟨rest2,rfl,hv2⟩:=arg_v hv
 obtain rfl:=arg_nil hv2
 have hC:=nodes_C hF
 have e0 : x0.length = (x0.map toS).length:=by rw [List.length_map]
 rw [e0] at hC hc ⊢
 exact ret_plain (outs:=[.v (.int .i64 a)]) (m:=[.int .i64 a]) (v:=.int .i64 a) h (by simp [Pt.builds,Pt.build]) rfl hl hok.new rfl (fun W'=>⟨rfl,trivial⟩) (Q.impl_ReCount.calls A c _ x1 a W hC hc hab (BgT.tabs hB))
theorem xo_impl_ReEnds (x0 : List ReN) (x1 : ByteArray) (x2 : Int) (κ : Out → Option ρ) (r : ρ) (h : X_impl_ReEnds x0 x1 x2 (fun a0=>κ (.ret [⟨.sl 3 (.int .i64),a0⟩])) = some r) : FunP Tryd.prog F.insts 19 0 [⟨.sl 49 yt49,x0⟩,⟨.str,x1⟩,⟨.int .i64,x2⟩] κ r:=by
 obtain ⟨a,hab,h⟩:=ofO_some h
 refine ⟨⟨Tryd.f19,Tryd.func19,by kernel_rfl,by kernel_rfl⟩,fun I args h1 bx hI hb1 hb2 E W vals hok hB=>?_⟩
 have eI : (F.insts 19)[0]? = some ⟨[.sl 49 yt49,pS,pI],[],[.own 3 (.int .i64)],[],none,[]⟩:=by kernel_rfl
 obtain rfl:=Option.some.inj (eI.symm.trans hI)
 obtain ⟨rfl,rfl⟩ : [AV.sl none 49 yt49 x0,.v (.string x1),.v (.int .i64 x2)] = args ∧ [] = h1:=by simpa [Pt.builds,Pt.build] using hb1
 obtain rfl : [] = bx:=by simpa [Pt.buildB] using hb2
 have hl : E.adr = []:=List.length_eq_zero_iff.mp hok.len.symm
 obtain ⟨A,c,rest,rfl,hc,hF,hv⟩:=arg_sl hok.vals
 obtain ⟨rest2,rfl,hv2⟩:=arg_v hv
 obtain ⟨rest3,rfl,hv3⟩:=arg_v hv2
 obtain rfl:=arg_nil hv3
 have hC:=nodes_C hF
 have e0 : x0.length = (x0.map toS).length:=by rw [List.length_map]
 rw [e0] at hC hc ⊢
 exact ret_own (t:=.int .i64) (e:=3) (xs:=a) h rfl rfl hl hok.new (Q.impl_ReEnds.calls A c _ x1 x2 a W hC hc hab (BgT.tabs hB))
theorem xo_spec_ReOk (x0 : List ReN) (κ : Out → Option ρ) (r : ρ) (h : X_spec_ReOk x0 (fun a0=>κ (.ret [⟨.bool,a0⟩])) = some r) : FunP Tryd.prog F.insts 29 0 [⟨.sl 49 yt49,x0⟩] κ r:=by
 obtain ⟨a,hab,h⟩:=ofO_some h
 have hk : ∃ k,Q.spec_ReOk.f k (x0.map toS) = some a:=by
  unfold specOk at hab
  split at hab
  ·rename_i hx
   obtain ⟨k,hk⟩:=hx.choose_spec
   rw [Option.some.inj hab] at hk
   exact ⟨k,hk⟩
  ·cases hab
 obtain ⟨k,hk⟩:=hk
 refine ⟨⟨Tryd.f29,Tryd.func29,by kernel_rfl,by kernel_rfl⟩,fun I args h1 bx hI hb1 hb2 E W vals hok hB=>?_⟩
 have eI : (F.insts 29)[0]? = some ⟨[.sl 49 yt49],[],[pB],[],none,[]⟩:=by kernel_rfl
 obtain rfl:=Option.some.inj (eI.symm.trans hI)
 obtain ⟨rfl,rfl⟩ : [AV.sl none 49 yt49 x0] = args ∧ [] = h1:=by simpa [Pt.builds,Pt.build] using hb1
 obtain rfl : [] = bx:=by simpa [Pt.buildB] using hb2
 have hl : E.adr = []:=List.length_eq_zero_iff.mp hok.len.symm
 obtain ⟨A,c,rest,rfl,hc,hF,hv⟩:=arg_sl hok.vals
 obtain rfl:=arg_nil hv
 have hC:=nodes_C hF
 have e0 : x0.length = (x0.map toS).length:=by rw [List.length_map]
 rw [e0] at hC hc ⊢
 exact ret_plain (outs:=[.v (.bool a)]) (m:=[.bool a]) (v:=.bool a) h (by simp [Pt.builds,Pt.build]) rfl hl hok.new rfl (fun W'=>⟨rfl,trivial⟩) (Q.spec_ReOk.calls k A c _ a W hC hc hk)
set_option maxHeartbeats 1000000 in
theorem lite_calls (s : ByteArray) (c : Int) (w : World) :
  Calls Tryd.prog 100 #[.string s,.int .u8 c] w fun e w'=>e = .returned (.int .i64 (Lib.indexByte s.data.toList c.toNat.toUInt8)) ∧ Below w.heap.size w w':=by
 go_enter Tryd.func100,Tryd.ntmps100
 go_wp2
 rw [run_callFunc_extern Tryd.func105 (by kernel_rfl) (by kernel_rfl) (by kernel_rfl) (e:=Extern.BytealgIndexByte.indexByte) (by kernel_rfl),Lib.run_indexByteString]
 simp only [Result.andThen]
 rw [Oper.upon_value]
 go_wp2
 go_ret
 exact ⟨rfl,Below.refl _ _⟩
set_option maxHeartbeats 1000000 in
theorem index_calls (s : ByteArray) (c : Int) (w : World) :
  Calls Tryd.prog 94 #[.string s,.int .u8 c] w fun e w'=>e = .returned (.int .i64 (Lib.indexByte s.data.toList c.toNat.toUInt8)) ∧ Below w.heap.size w w':=by
 have hc:=lite_calls s c w
 go_enter Tryd.func94,Tryd.ntmps94
 go_wp2_with fail
 refine hc.mono ?_
 rintro e w' ⟨rfl,hb⟩
 dsimp only
 have HB:=Aside0.mk hb
 clear hc hb
 go_wp2_with fail
 go_ret
 exact ⟨rfl,HB.out⟩
theorem xo_strings_IndexByte (x0 : ByteArray) (x1 : Int) (κ : Out → Option ρ) (r : ρ) (h : X_strings_IndexByte x0 x1 (fun a0=>κ (.ret [⟨.int .i64,a0⟩])) = some r) : FunP Tryd.prog F.insts 94 0 [⟨.str,x0⟩,⟨.int .u8,x1⟩] κ r:=by
 refine ⟨⟨Tryd.f94,Tryd.func94,by kernel_rfl,by kernel_rfl⟩,fun I args h1 bx hI hb1 hb2 E W vals hok hB=>?_⟩
 have eI : (F.insts 94)[0]? = some ⟨[pS,.sc (.int .u8)],[],[pI],[],none,[]⟩:=by kernel_rfl
 obtain rfl:=Option.some.inj (eI.symm.trans hI)
 obtain ⟨rfl,rfl⟩ : [AV.v (.string x0),.v (.int .u8 x1)] = args ∧ [] = h1:=by simpa [Pt.builds,Pt.build] using hb1
 obtain rfl : [] = bx:=by simpa [Pt.buildB] using hb2
 have hl : E.adr = []:=List.length_eq_zero_iff.mp hok.len.symm
 obtain ⟨rest2,rfl,hv2⟩:=arg_v hok.vals
 obtain ⟨rest3,rfl,hv3⟩:=arg_v hv2
 obtain rfl:=arg_nil hv3
 exact ret_plain (outs:=[.v (.int .i64 _)]) (m:=[.int .i64 _]) (v:=.int .i64 _) h (by simp [Pt.builds,Pt.build]) rfl hl hok.new rfl (fun W'=>⟨rfl,trivial⟩) (index_calls x0 x1 W)
end
end Go.Proofs.YtlakdfbfkbndiaaDoor.Ev.Pr
set_option linter.unusedVariables false
namespace Go.Proofs.YtlakdfbfkbndiaaDoor.Ev.Pr
open Go Go.RowKit Go.Proofs.YtlakdfbfkbndiaaDoor.Ev Go.Proofs.YtlakdfbfkbndiaaDoorW.PrintWords Go.Proofs.YtlakdfbfkbndiaaDoorW.PrintLast Go.Proofs.YtlakdfbfkbndiaaDoorW.PrintMore Kd Go.Proofs.YtlakdfbfkbndiaaDoor.Q
set_option maxRecDepth 100000 in
theorem put_yes (g cap j : Nat) (xs : List Bool) (ok : Nat → Prop) (W : World) (hR : Kd.bool.R 4 W 0 ok (.slice (some ⟨g,0,none⟩) xs.length cap) xs) (h1 : j < xs.length) (n : Nat) (hn : n = xs.length) :
  Calls Tryd.prog 33 #[.slice (some ⟨g,0,none⟩) n cap,.int .i64 (j : Int)] W fun e w=>e = .returned (.bool true) ∧ Kd.bool.R 4 w 0 ok (.slice (some ⟨g,0,none⟩) xs.length cap) (xs.set j true) ∧ W.grownBy w (some g):=by
 obtain ⟨hc,hf⟩:=R_cell (enc:=Value.bool) (e:=4) (base:=0) (ok:=ok) false hR (j : Int) (by omega) (by omega)
 have HS:=Aside0.mk (R_put (enc:=Value.bool) (e:=4) (base:=0) (ok:=ok) hR (j : Int) true)
 rw [Int.toNat_natCast] at hc hf HS
 have hlt0 : ((j : Int) < 0) = False:=eq_false (by omega)
 have hge : ((j : Int) ≥ (n : Int)) = False:=eq_false (by omega)
 have hlt : ((j : Int) < (n : Int)) = True:=eq_true (by omega)
 clear hR hn h1
 go_enter Tryd.func33,Tryd.ntmps33
 go_wp2_with (first|((with_reducible refine gate_store (t:=4) (p:=15) rfl ?_);refine store_event (t:=4) (p:=15) (v:=?vo) (w1:=(W.setCell ⟨g,j,none⟩ (.bool true))) ?hg ?ho ?hn ?hr ?_;(case ho=>rfl);(case hg=>rfl);(case hn=>rfl);(case hr=>first|(go_simp;done)|(go_simp;rfl));intro w8 hw;have H8:=Aside0.mk (show Kd.bool.R 4 w8 0 ok (.slice (some ⟨g,0,none⟩) xs.length cap) (xs.set j true) ∧ W.grownBy w8 (some g) by rw [hw];exact HS.out);clear hw))
 go_ret
 exact ⟨rfl,H8.out⟩
set_option maxRecDepth 100000 in
theorem put_no (A : Option Addr) (n cap : Nat) (i : Int) (h : ¬ (0 ≤ i ∧ i < (n : Int))) (W : World) :
  Calls Tryd.prog 33 #[.slice A n cap,.int .i64 i] W fun e w=>e = .returned (.bool false) ∧ Below W.heap.size W w:=by
 have HB:=Aside0.mk (Below.refl W.heap.size W)
 by_cases h0 : i < 0
 ·have hlt0 : (i < 0) = True:=eq_true h0
  clear h h0
  go_enter Tryd.func33,Tryd.ntmps33
  go_wp2_with fail
  go_ret
  exact ⟨rfl,HB.out⟩
 ·have hlt0 : (i < 0) = False:=eq_false h0
  have hge : (i ≥ (n : Int)) = True:=eq_true (by omega)
  clear h h0
  go_enter Tryd.func33,Tryd.ntmps33
  go_wp2_with fail
  go_ret
  exact ⟨rfl,HB.out⟩
theorem fw_laws_put (ag : Bool) (hs sc ys out : List HV) (h : wr_laws_put.run ag hs sc = some (ys,out)) : FunW Tryd.prog 33 ag hs sc ys out:=by
 unfold wr_laws_put at h
 dsimp only at h
 split at h
 case h_2=>cases h
 rename_i x0 y0
 simp only [Option.some.injEq,Prod.mk.injEq] at h
 obtain ⟨rfl,rfl⟩:=h
 refine ⟨⟨Tryd.f33,Tryd.func33,by kernel_rfl,by kernel_rfl⟩,⟨rfl,rfl,?_,trivial⟩,fun W ok ns vs v0 hv0 hok hW=>?_⟩
 ·unfold X_laws_put
  split <;> simp
 ·match ns,vs,hW with
  | [],[],h=>exact h.elim
  | [],_ :: _,h=>exact h.elim
  | _ :: _ :: _,[],h=>exact h.elim
  | _ :: _ :: _,[_],h=>exact h.2.elim
  | _ :: _ :: _,_ :: _ :: _,h=>exact h.2.elim
  | [_],[],h=>exact h.elim
  | [_],_ :: _ :: _,h=>exact h.2.elim
  | [n],[v],⟨hR,_⟩ =>
   subst hv0
   obtain ⟨A,cap,hv⟩:=R_slice hR
   subst hv
   unfold X_laws_put
   by_cases hi : 0 ≤ y0 ∧ y0 < (List.length (α:=Bool) x0 : Int)
   ·rw [if_pos hi]
    obtain ⟨j,rfl⟩:=Int.eq_ofNat_of_zero_le hi.1
    have hj : j < List.length (α:=Bool) x0:=Int.ofNat_lt.mp hi.2
    rw [Int.toNat_natCast]
    obtain ⟨g,rfl⟩ : ∃ g,A = some ⟨g,0,none⟩:=by
     obtain ⟨_,inner,hown,_⟩:=hR
     rcases hown.2 with ⟨hv,h0⟩|⟨g',cap',cur,hv,_⟩
     ·injection hv with h1 h2 h3
      exact absurd hj (by rw [h2];exact Nat.not_lt_zero _)
     ·injection hv with h1 h2 h3
      exact ⟨g',h1⟩
    refine (put_yes g cap j x0 (ok n) W hR hj (List.length (α:=Bool) x0) rfl).mono fun e w he=>?_
    obtain ⟨he,h1,h2⟩:=he
    refine ⟨⟨_,he,rfl⟩,⟨?_,trivial⟩,h2.os,h2.tape,h2.output,h2.size,fun b hb hn=>h2.block b hb fun hbg=>?_⟩
    ·exact h1
    ·exact hn n List.mem_cons_self (hR.1 b hbg.symm)
   ·rw [if_neg hi]
    refine (put_no A (List.length (α:=Bool) x0) cap y0 hi W).mono fun e w he=>?_
    obtain ⟨he,hB⟩:=he
    refine ⟨⟨_,he,rfl⟩,⟨R_mono (R_move (R_bound hR) fun k hk=>?_) fun k hk=>hk.1,trivial⟩,hB.os,hB.tape,hB.output,hB.size,fun b hb _=>hB.block b hb⟩
    obtain ⟨_,_,_,q,hq,cells,hc⟩:=hk
    exact hB.block k (blk_lt hc)
end Go.Proofs.YtlakdfbfkbndiaaDoor.Ev.Pr
set_option linter.unusedVariables false
set_option maxRecDepth 100000
namespace Go.Proofs.YtlakdfbfkbndiaaDoor.Ev.Pr
open Go Go.RowKit Go.Proofs.YtlakdfbfkbndiaaDoorW.PrintWords Go.Proofs.YtlakdfbfkbndiaaDoorW.PrintMore Kd Go.Proofs.YtlakdfbfkbndiaaDoor.Ev
section
variable {ρ : Type} [Bgs] [BgT]
theorem ea (k : Nat) : AllP (EntOK Tryd.prog C F (some (semOf (lv (ρ := ρ) k)))) (lva (tb (k + 1))) := ⟨en_ok fun _ _ => by kernel_rfl,
 en_ok fun _ _ _ _ _ _ _ _ _ _ => by kernel_rfl,
 en_ok fun _ _ _ _ _ _ _ _ _ _ _ _ => by kernel_rfl,
 en_x xo_impl_ReFind,
 en_x xo_impl_ReTest,
 en_x xo_impl_ReEnds,
 en_x xo_impl_ReCount,
 en_ok fun _ _ => by kernel_rfl,
 en_x xo_spec_ReOk,
 en_ok fun _ => by kernel_rfl,
 en_ok fun _ _ _ => by kernel_rfl,
 en_ok fun _ _ _ _ _ => by kernel_rfl,
 en_ok fun _ _ _ _ _ _ _ _ _ _ => by kernel_rfl,
 en_ok fun _ _ _ => by kernel_rfl,
 en_ok fun _ _ _ => by kernel_rfl,
 en_ok fun _ _ _ _ => by kernel_rfl,
 en_ok fun _ _ => by kernel_rfl,
 en_ok fun _ _ _ _ => by kernel_rfl,
 en_ok fun _ _ _ _ => by kernel_rfl,
 en_ok fun _ _ => by kernel_rfl,
 en_ok fun _ _ _ _ => by kernel_rfl,
 en_ok fun _ _ _ _ => by kernel_rfl,
 en_ok fun _ _ _ _ _ => by kernel_rfl,
 en_ok fun _ _ _ _ => by kernel_rfl,
 en_ok fun _ _ => by kernel_rfl,
 en_ok fun _ _ => by kernel_rfl,
 en_ok fun _ _ => by kernel_rfl,
 en_ok fun _ _ _ _ _ _ => by kernel_rfl,
 en_ok fun _ _ _ _ _ _ _ _ _ _ => by kernel_rfl,
 en_ok fun _ _ => by kernel_rfl,
 en_ok fun _ _ _ _ => by kernel_rfl,
 en_ok fun _ _ => by kernel_rfl,
 en_ok fun _ _ _ _ _ => by kernel_rfl,
 en_ok fun _ _ _ _ _ => by kernel_rfl,
 en_ok fun _ _ _ _ _ => by kernel_rfl,
 en_ok fun _ _ _ _ _ _ => by kernel_rfl,
 en_ok fun _ _ _ _ _ _ _ _ => by kernel_rfl,
 en_ok fun _ _ _ _ _ _ => by kernel_rfl,
 en_ok fun _ _ _ _ _ _ _ => by kernel_rfl,
 en_ok fun _ _ _ => by kernel_rfl, trivial⟩
theorem za : AllP (EntOK Tryd.prog C F none) (lva (tb (ρ := ρ) 0)) := ⟨en_z fun _ _ => rfl,
 en_z fun _ _ _ _ _ _ _ _ _ _ => rfl,
 en_z fun _ _ _ _ _ _ _ _ _ _ _ _ => rfl,
 en_x xo_impl_ReFind,
 en_x xo_impl_ReTest,
 en_x xo_impl_ReEnds,
 en_x xo_impl_ReCount,
 en_z fun _ _ => rfl,
 en_x xo_spec_ReOk,
 en_z fun _ => rfl,
 en_z fun _ _ _ => rfl,
 en_z fun _ _ _ _ _ => rfl,
 en_z fun _ _ _ _ _ _ _ _ _ _ => rfl,
 en_z fun _ _ _ => rfl,
 en_z fun _ _ _ => rfl,
 en_z fun _ _ _ _ => rfl,
 en_z fun _ _ => rfl,
 en_z fun _ _ _ _ => rfl,
 en_z fun _ _ _ _ => rfl,
 en_z fun _ _ => rfl,
 en_z fun _ _ _ _ => rfl,
 en_z fun _ _ _ _ => rfl,
 en_z fun _ _ _ _ _ => rfl,
 en_z fun _ _ _ _ => rfl,
 en_z fun _ _ => rfl,
 en_z fun _ _ => rfl,
 en_z fun _ _ => rfl,
 en_z fun _ _ _ _ _ _ => rfl,
 en_z fun _ _ _ _ _ _ _ _ _ _ => rfl,
 en_z fun _ _ => rfl,
 en_z fun _ _ _ _ => rfl,
 en_z fun _ _ => rfl,
 en_z fun _ _ _ _ _ => rfl,
 en_z fun _ _ _ _ _ => rfl,
 en_z fun _ _ _ _ _ => rfl,
 en_z fun _ _ _ _ _ _ => rfl,
 en_z fun _ _ _ _ _ _ _ _ => rfl,
 en_z fun _ _ _ _ _ _ => rfl,
 en_z fun _ _ _ _ _ _ _ => rfl,
 en_z fun _ _ _ => rfl, trivial⟩
theorem eb (k : Nat) : AllP (EntOK Tryd.prog C F (some (semOf (lv (ρ := ρ) k)))) (lvb (tb (k + 1))) := ⟨en_ok fun _ _ _ _ _ _ _ _ _ _ _ => by kernel_rfl,
 en_ok fun _ _ _ _ _ _ _ _ _ _ _ _ _ _ _ => by kernel_rfl,
 en_ok fun _ _ _ _ _ _ _ _ _ _ _ _ _ _ => by kernel_rfl,
 en_ok fun _ => by kernel_rfl,
 en_ok fun _ _ _ _ _ => by kernel_rfl,
 en_ok fun _ _ _ _ _ => by kernel_rfl,
 en_ok fun _ _ _ _ _ _ => by kernel_rfl,
 en_ok fun _ _ _ _ _ => by kernel_rfl,
 en_ok fun _ => by kernel_rfl,
 en_ok fun _ _ _ _ _ _ => by kernel_rfl,
 en_ok fun _ _ => by kernel_rfl,
 en_ok fun _ _ => by kernel_rfl,
 en_ok fun _ _ _ _ _ _ => by kernel_rfl,
 en_ok fun _ _ _ _ _ _ _ => by kernel_rfl,
 en_ok fun _ _ _ _ _ => by kernel_rfl,
 en_ok fun _ _ _ _ => by kernel_rfl,
 en_ok fun _ _ _ _ _ => by kernel_rfl,
 en_ok fun _ _ _ _ => by kernel_rfl,
 en_ok fun _ _ _ _ _ _ => by kernel_rfl,
 en_ok fun _ _ _ _ _ _ _ => by kernel_rfl,
 en_ok fun _ _ _ _ => by kernel_rfl,
 en_ok fun _ _ _ _ _ => by kernel_rfl,
 en_ok fun _ _ _ _ _ => by kernel_rfl,
 en_ok fun _ _ _ _ _ => by kernel_rfl,
 en_ok fun _ _ _ _ _ _ => by kernel_rfl,
 en_ok fun _ _ _ _ _ _ _ => by kernel_rfl,
 en_ok fun _ _ => by kernel_rfl,
 en_ok fun _ _ _ _ => by kernel_rfl,
 en_ok fun _ _ _ _ _ _ => by kernel_rfl,
 en_ok fun _ _ _ _ _ _ _ => by kernel_rfl,
 en_ok fun _ _ _ _ _ _ => by kernel_rfl,
 en_ok fun _ _ _ => by kernel_rfl,
 en_ok fun _ _ _ => by kernel_rfl,
 en_ok fun _ _ _ _ _ _ => by kernel_rfl,
 en_ok fun _ _ _ _ _ => by kernel_rfl,
 en_ok fun _ _ _ _ _ _ => by kernel_rfl,
 en_ok fun _ _ _ _ _ _ _ => by kernel_rfl,
 en_x xo_strings_IndexByte,
 en_ok fun _ _ _ _ _ _ => by kernel_rfl,
 en_ok fun _ _ _ _ _ _ _ => by kernel_rfl, trivial⟩
theorem zb : AllP (EntOK Tryd.prog C F none) (lvb (tb (ρ := ρ) 0)) := ⟨en_z fun _ _ _ _ _ _ _ _ _ _ _ => rfl,
 en_z fun _ _ _ _ _ _ _ _ _ _ _ _ _ _ _ => rfl,
 en_z fun _ _ _ _ _ _ _ _ _ _ _ _ _ _ => rfl,
 en_z fun _ => rfl,
 en_z fun _ _ _ _ _ => rfl,
 en_z fun _ _ _ _ _ => rfl,
 en_z fun _ _ _ _ _ _ => rfl,
 en_z fun _ _ _ _ _ => rfl,
 en_z fun _ => rfl,
 en_z fun _ _ _ _ _ _ => rfl,
 en_z fun _ _ => rfl,
 en_z fun _ _ => rfl,
 en_z fun _ _ _ _ _ _ => rfl,
 en_z fun _ _ _ _ _ _ _ => rfl,
 en_z fun _ _ _ _ _ => rfl,
 en_z fun _ _ _ _ => rfl,
 en_z fun _ _ _ _ _ => rfl,
 en_z fun _ _ _ _ => rfl,
 en_z fun _ _ _ _ _ _ => rfl,
 en_z fun _ _ _ _ _ _ _ => rfl,
 en_z fun _ _ _ _ => rfl,
 en_z fun _ _ _ _ _ => rfl,
 en_z fun _ _ _ _ _ => rfl,
 en_z fun _ _ _ _ _ => rfl,
 en_z fun _ _ _ _ _ _ => rfl,
 en_z fun _ _ _ _ _ _ _ => rfl,
 en_z fun _ _ => rfl,
 en_z fun _ _ _ _ => rfl,
 en_z fun _ _ _ _ _ _ => rfl,
 en_z fun _ _ _ _ _ _ _ => rfl,
 en_z fun _ _ _ _ _ _ => rfl,
 en_z fun _ _ _ => rfl,
 en_z fun _ _ _ => rfl,
 en_z fun _ _ _ _ _ _ => rfl,
 en_z fun _ _ _ _ _ => rfl,
 en_z fun _ _ _ _ _ _ => rfl,
 en_z fun _ _ _ _ _ _ _ => rfl,
 en_x xo_strings_IndexByte,
 en_z fun _ _ _ _ _ _ => rfl,
 en_z fun _ _ _ _ _ _ _ => rfl, trivial⟩
theorem ec (k : Nat) : AllP (EntOK Tryd.prog C F (some (semOf (lv (ρ := ρ) k)))) (lvc (tb (k + 1))) := ⟨en_ok fun _ _ _ => by kernel_rfl,
 en_ok fun _ _ _ _ _ _ => by kernel_rfl,
 en_ok fun _ _ _ _ _ _ => by kernel_rfl,
 en_ok fun _ _ _ _ _ _ => by kernel_rfl,
 en_ok fun _ _ _ _ _ _ _ => by kernel_rfl,
 en_ok fun _ _ _ _ _ _ => by kernel_rfl,
 en_ok fun _ _ _ _ => by kernel_rfl,
 en_ok fun _ _ _ _ _ _ => by kernel_rfl,
 en_ok fun _ _ _ => by kernel_rfl,
 en_ok fun _ _ _ _ => by kernel_rfl,
 en_ok fun _ _ _ _ _ => by kernel_rfl,
 en_ok fun _ _ _ _ _ _ _ _ _ _ => by kernel_rfl,
 en_ok fun _ _ _ _ _ _ _ _ _ _ _ _ _ _ _ _ => by kernel_rfl,
 en_ok fun _ _ _ _ _ _ _ _ _ _ _ _ _ _ _ _ => by kernel_rfl,
 en_ok fun _ _ _ _ => by kernel_rfl,
 en_ok fun _ _ _ _ _ => by kernel_rfl,
 en_ok fun _ _ _ _ _ _ _ _ _ _ _ => by kernel_rfl,
 en_ok fun _ _ _ _ _ _ _ _ _ _ _ _ _ _ _ => by kernel_rfl,
 en_ok fun _ _ _ _ _ _ _ _ _ _ _ _ _ _ _ => by kernel_rfl,
 en_ok fun _ _ _ _ _ => by kernel_rfl,
 en_ok fun _ _ _ _ => by kernel_rfl,
 en_ok fun _ _ _ _ => by kernel_rfl, trivial⟩
theorem zc : AllP (EntOK Tryd.prog C F none) (lvc (tb (ρ := ρ) 0)) := ⟨en_z fun _ _ _ => rfl,
 en_z fun _ _ _ _ _ _ => rfl,
 en_z fun _ _ _ _ _ _ => rfl,
 en_z fun _ _ _ _ _ _ => rfl,
 en_z fun _ _ _ _ _ _ _ => rfl,
 en_z fun _ _ _ _ _ _ => rfl,
 en_z fun _ _ _ _ => rfl,
 en_z fun _ _ _ _ _ _ => rfl,
 en_z fun _ _ _ => rfl,
 en_z fun _ _ _ _ => rfl,
 en_z fun _ _ _ _ _ => rfl,
 en_z fun _ _ _ _ _ _ _ _ _ _ => rfl,
 en_z fun _ _ _ _ _ _ _ _ _ _ _ _ _ _ _ _ => rfl,
 en_z fun _ _ _ _ _ _ _ _ _ _ _ _ _ _ _ _ => rfl,
 en_z fun _ _ _ _ => rfl,
 en_z fun _ _ _ _ _ => rfl,
 en_z fun _ _ _ _ _ _ _ _ _ _ _ => rfl,
 en_z fun _ _ _ _ _ _ _ _ _ _ _ _ _ _ _ => rfl,
 en_z fun _ _ _ _ _ _ _ _ _ _ _ _ _ _ _ => rfl,
 en_z fun _ _ _ _ _ => rfl,
 en_z fun _ _ _ _ => rfl,
 en_z fun _ _ _ _ => rfl, trivial⟩
end
end Go.Proofs.YtlakdfbfkbndiaaDoor.Ev.Pr
set_option linter.unusedVariables false
set_option maxRecDepth 100000
namespace Go.Proofs.YtlakdfbfkbndiaaDoor.Ev.Pr
open Go Go.RowKit Go.Proofs.YtlakdfbfkbndiaaDoorW.PrintWords Go.Proofs.YtlakdfbfkbndiaaDoorW.PrintMore Kd Go.Proofs.YtlakdfbfkbndiaaDoor.Ev
instance wrf : WrFact Tryd.prog C:=wr_fact (l:=wrs) ⟨wr_one fw_laws_put,trivial⟩ rfl
theorem sound [Bgs] [BgT] {ρ : Type} : ∀ k,SemOK Tryd.prog F.insts (semOf (lv (ρ:=ρ) k)) ∧ StopOK Tryd.prog F (semOf (lv (ρ:=ρ) k)):=sem_ok (C:=C) tab_right (by kernel_rfl) fns_right (AllP.app (za) (AllP.app (zb) (zc))) fun k=>(AllP.app (ea k) (AllP.app (eb k) (ec k)))
end Go.Proofs.YtlakdfbfkbndiaaDoor.Ev.Pr
set_option linter.unusedVariables false
namespace Go.Proofs.YtlakdfbfkbndiaaDoor.Ev
open Go Go.RowKit Go.Proofs.YtlakdfbfkbndiaaDoorW.PrintWords Go.Proofs.YtlakdfbfkbndiaaDoorW.PrintMore Kd
def E0 : Env:=⟨fun _=>.free,[],fun _=>undef,fun _ _=>undef⟩
def outB : Out → Option Bool
 | .ret [⟨.bool,b⟩]=>some b
 | _=>none
theorem law_calls [Bgs] {P : Program} {insts : Nat → List Inst} {f : Nat} {hs : List HV} {r : Bool} (h : FunP P insts f 0 hs outB r) {ps : List Pt} {args : List AV} (hI : ((insts f)[0]?).map (fun I=>(I.args,I.boxes,I.outs,I.obox,I.pans)) = some (ps,[],[pB],[],none)) (hb : Pt.builds ps hs = some (args,[]))
  {W : World} {vals : List Value} (hv : AllQ (ArgV E0 W) 0 args vals) (hB : BgOK E0 W) : Calls P f vals.toArray W fun e w'=>e = .returned (.bool r) ∧ Below W.heap.size W w':=by
 obtain ⟨I,hI1,hs5⟩:=Option.map_eq_some_iff.mp hI
 simp only [Prod.mk.injEq] at hs5
 obtain ⟨rfl,hbx,ho,hob,hp⟩:=hs5
 have hc:=h.2 I args [] [] hI1 hb (by rw [hbx];rfl) E0 W vals ⟨hv,fun j cs h=>by simp at h,rfl,fun _ _=>rfl⟩ hB
 refine hc.mono fun e w' he=>?_
 obtain ⟨out,h1,h2⟩:=he
 cases e with
 | outgrown=>exact h2.elim
 | panicked chain =>
  obtain ⟨vs,p,bp,a,k1,bx,E',y,-,h3,-⟩:=h2
  rw [hp] at h3
  cases h3
 | returned v =>
  obtain ⟨vs,outs,k1,bx,E',m,rfl,h3,h4,hA,hv,hO⟩:=h2
  unfold outB at h1
  split at h1
  ·rename_i b hh
   cases h1
   injection hh with hh
   subst hh
   rw [ho] at h3
   obtain ⟨rfl,rfl⟩ : [AV.v (.bool r)] = outs ∧ [] = k1:=by simpa [Pt.builds,Pt.build] using h3
   match m,hO.vals with
   | [y],hy =>
    have hy : y = .bool r:=hy.1
    subst hy
    have hv : v = .bool r:=hv
    exact ⟨by rw [hv],⟨hA.os,hA.tape,hA.output,hA.size,fun k hk=>(hA.free k hk (.inl rfl)).2⟩⟩
  ·cases h1
theorem lent_row {t : Ty} {e : Nat} {W : World} {A : Option Addr} {c : Nat} {xs : List t.den} (hd : Heap t.kd) (h : t.kd.C W A xs.length xs) (hc : xs.length ≤ c) (k : Nat) : ArgV E0 W k (.sl none e t xs) (.slice A xs.length c) :=
 ⟨A,c,rfl,hc,F_mono (C_F hd h) fun _ _=>rfl⟩
end Go.Proofs.YtlakdfbfkbndiaaDoor.Ev
set_option linter.unusedVariables false
set_option maxRecDepth 100000
namespace Go.Proofs.YtlakdfbfkbndiaaDoor.Ev.Pr
open Go Go.RowKit Go.Proofs.YtlakdfbfkbndiaaDoorW.PrintWords Go.Proofs.YtlakdfbfkbndiaaDoorW.PrintMore Kd Go.Proofs.YtlakdfbfkbndiaaDoor.Ev
section
variable {ρ : Type}
theorem st_spec_DrawReFind {x0 : List Int} {Q : ((List Tt49) × ByteArray) → Prop} (h : Tot (fun k κ=>B_spec_DrawReFind (tb (ρ:=ρ) k) x0 (fun a0 a1=>κ (a0,a1))) Q) : Tot (fun k κ=>(tb (ρ:=ρ) k).spec_DrawReFind x0 (fun a0 a1=>κ (a0,a1))) Q:=Tot.step (fun _ _=>rfl) h
theorem st_spec_l1New {x0 : List Int} {Q : ((List Int) × Int × Int) → Prop} (h : Tot (fun k κ=>B_spec_l1New (tb (ρ:=ρ) k) x0 (fun a0 a1 a2=>κ (a0,a1,a2))) Q) : Tot (fun k κ=>(tb (ρ:=ρ) k).spec_l1New x0 (fun a0 a1 a2=>κ (a0,a1,a2))) Q:=Tot.step (fun _ _=>rfl) h
theorem st_spec_l1New_s3 {x1 : List Int} {x2 : Int} {x3 : Int} {Q : ((List Int) × Int × Int) → Prop} (h : Tot (fun k κ=>B_spec_l1New_s3 (tb (ρ:=ρ) k) x1 x2 x3 (fun a0 a1 a2=>κ (a0,a1,a2))) Q) : Tot (fun k κ=>(tb (ρ:=ρ) k).spec_l1New_s3 x1 x2 x3 (fun a0 a1 a2=>κ (a0,a1,a2))) Q:=Tot.step (fun _ _=>rfl) h
theorem st_spec_l2tree {x0 : List Int} {x1 : Int} {x2 : Int} {Q : ((List Tt49) × Int × Int) → Prop} (h : Tot (fun k κ=>B_spec_l2tree (tb (ρ:=ρ) k) x0 x1 x2 (fun a0 a1 a2=>κ (a0,a1,a2))) Q) : Tot (fun k κ=>(tb (ρ:=ρ) k).spec_l2tree x0 x1 x2 (fun a0 a1 a2=>κ (a0,a1,a2))) Q:=Tot.step (fun _ _=>rfl) h
theorem st_spec_l2tree_s13 {x52 : List Tt49} {x53 : List Int} {x54 : Int} {x55 : Int} {Q : ((List Tt49) × Int × Int) → Prop} (h : Tot (fun k κ=>B_spec_l2tree_s13 (tb (ρ:=ρ) k) x52 x53 x54 x55 (fun a0 a1 a2=>κ (a0,a1,a2))) Q) : Tot (fun k κ=>(tb (ρ:=ρ) k).spec_l2tree_s13 x52 x53 x54 x55 (fun a0 a1 a2=>κ (a0,a1,a2))) Q:=Tot.step (fun _ _=>rfl) h
theorem st_spec_l2subject {x0 : List Int} {x1 : Int} {x2 : Int} {Q : (ByteArray × Int × Int) → Prop} (h : Tot (fun k κ=>B_spec_l2subject (tb (ρ:=ρ) k) x0 x1 x2 (fun a0 a1 a2=>κ (a0,a1,a2))) Q) : Tot (fun k κ=>(tb (ρ:=ρ) k).spec_l2subject x0 x1 x2 (fun a0 a1 a2=>κ (a0,a1,a2))) Q:=Tot.step (fun _ _=>rfl) h
theorem st_spec_ReParse {x0 : ByteArray} {Q : ((List Tt49) × Bool) → Prop} (h : Tot (fun k κ=>B_spec_ReParse (tb (ρ:=ρ) k) x0 (fun a0 a1=>κ (a0,a1))) Q) : Tot (fun k κ=>(tb (ρ:=ρ) k).spec_ReParse x0 (fun a0 a1=>κ (a0,a1))) Q:=Tot.step (fun _ _=>rfl) h
theorem st_spec_l2pattern {x0 : List Int} {x1 : Int} {x2 : Int} {Q : (ByteArray × Int × Int) → Prop} (h : Tot (fun k κ=>B_spec_l2pattern (tb (ρ:=ρ) k) x0 x1 x2 (fun a0 a1 a2=>κ (a0,a1,a2))) Q) : Tot (fun k κ=>(tb (ρ:=ρ) k).spec_l2pattern x0 x1 x2 (fun a0 a1 a2=>κ (a0,a1,a2))) Q:=Tot.step (fun _ _=>rfl) h
theorem st_spec_l2byte {x0 : Int} {Q : (Int × Bool × ByteArray × (List Int)) → Prop} (h : Tot (fun k κ=>B_spec_l2byte (tb (ρ:=ρ) k) x0 (fun a0 a1 a2 a3=>κ (a0,a1,a2,a3))) Q) : Tot (fun k κ=>(tb (ρ:=ρ) k).spec_l2byte x0 (fun a0 a1 a2 a3=>κ (a0,a1,a2,a3))) Q:=Tot.step (fun _ _=>rfl) h
theorem st_spec_l1Below {x0 : Int} {x1 : List Int} {x2 : Int} {x3 : Int} {Q : (Int × Int × Int) → Prop} (h : Tot (fun k κ=>B_spec_l1Below (tb (ρ:=ρ) k) x0 x1 x2 x3 (fun a0 a1 a2=>κ (a0,a1,a2))) Q) : Tot (fun k κ=>(tb (ρ:=ρ) k).spec_l1Below x0 x1 x2 x3 (fun a0 a1 a2=>κ (a0,a1,a2))) Q:=Tot.step (fun _ _=>rfl) h
theorem st_spec_l1text {x0 : List ByteArray} {x1 : List Int} {x2 : Int} {x3 : Int} {Q : (ByteArray × Int × Int) → Prop} (h : Tot (fun k κ=>B_spec_l1text (tb (ρ:=ρ) k) x0 x1 x2 x3 (fun a0 a1 a2=>κ (a0,a1,a2))) Q) : Tot (fun k κ=>(tb (ρ:=ρ) k).spec_l1text x0 x1 x2 x3 (fun a0 a1 a2=>κ (a0,a1,a2))) Q:=Tot.step (fun _ _=>rfl) h
theorem st_spec_l1Once {x0 : Int} {x1 : List Int} {x2 : Int} {x3 : Int} {Q : (Bool × Int × Int) → Prop} (h : Tot (fun k κ=>B_spec_l1Once (tb (ρ:=ρ) k) x0 x1 x2 x3 (fun a0 a1 a2=>κ (a0,a1,a2))) Q) : Tot (fun k κ=>(tb (ρ:=ρ) k).spec_l1Once x0 x1 x2 x3 (fun a0 a1 a2=>κ (a0,a1,a2))) Q:=Tot.step (fun _ _=>rfl) h
theorem st_spec_l1of {x0 : Int} {x1 : ByteArray} {x2 : List Int} {x3 : Int} {x4 : Int} {Q : (ByteArray × Int × Int) → Prop} (h : Tot (fun k κ=>B_spec_l1of (tb (ρ:=ρ) k) x0 x1 x2 x3 x4 (fun a0 a1 a2=>κ (a0,a1,a2))) Q) : Tot (fun k κ=>(tb (ρ:=ρ) k).spec_l1of x0 x1 x2 x3 x4 (fun a0 a1 a2=>κ (a0,a1,a2))) Q:=Tot.step (fun _ _=>rfl) h
theorem st_spec_l1of_s3 {x5 : Int} {x6 : ByteArray} {x7 : Int} {x8 : List Int} {x9 : List Int} {x10 : Int} {x11 : Int} {Q : (ByteArray × Int × Int) → Prop} (h : Tot (fun k κ=>B_spec_l1of_s3 (tb (ρ:=ρ) k) x5 x6 x7 x8 x9 x10 x11 (fun a0 a1 a2=>κ (a0,a1,a2))) Q) : Tot (fun k κ=>(tb (ρ:=ρ) k).spec_l1of_s3 x5 x6 x7 x8 x9 x10 x11 (fun a0 a1 a2=>κ (a0,a1,a2))) Q:=Tot.step (fun _ _=>rfl) h
theorem st_spec_l2alt {x0 : Int} {x1 : ByteArray} {x2 : Int} {x3 : List Tt49} {x4 : Bool} {Q : (Int × Int × (List Tt49) × Bool) → Prop} (h : Tot (fun k κ=>B_spec_l2alt (tb (ρ:=ρ) k) x0 x1 x2 x3 x4 (fun a0 a1 a2 a3=>κ (a0,a1,a2,a3))) Q) : Tot (fun k κ=>(tb (ρ:=ρ) k).spec_l2alt x0 x1 x2 x3 x4 (fun a0 a1 a2 a3=>κ (a0,a1,a2,a3))) Q:=Tot.step (fun _ _=>rfl) h
theorem st_spec_l2alt_s2 {x9 : Int} {x10 : List Int} {x11 : ByteArray} {x12 : Int} {x13 : List Tt49} {x14 : Bool} {Q : (Int × Int × (List Tt49) × Bool) → Prop} (h : Tot (fun k κ=>B_spec_l2alt_s2 (tb (ρ:=ρ) k) x9 x10 x11 x12 x13 x14 (fun a0 a1 a2 a3=>κ (a0,a1,a2,a3))) Q) : Tot (fun k κ=>(tb (ρ:=ρ) k).spec_l2alt_s2 x9 x10 x11 x12 x13 x14 (fun a0 a1 a2 a3=>κ (a0,a1,a2,a3))) Q:=Tot.step (fun _ _=>rfl) h
theorem st_spec_l2draw {x0 : Int} {x1 : List Int} {x2 : Int} {x3 : Int} {Q : (ByteArray × Int × Int) → Prop} (h : Tot (fun k κ=>B_spec_l2draw (tb (ρ:=ρ) k) x0 x1 x2 x3 (fun a0 a1 a2=>κ (a0,a1,a2))) Q) : Tot (fun k κ=>(tb (ρ:=ρ) k).spec_l2draw x0 x1 x2 x3 (fun a0 a1 a2=>κ (a0,a1,a2))) Q:=Tot.step (fun _ _=>rfl) h
theorem st_spec_l2draw_s18 {x73 : List Int} {x74 : Int} {x75 : Int} {Q : (ByteArray × Int × Int) → Prop} (h : Tot (fun k κ=>B_spec_l2draw_s18 (tb (ρ:=ρ) k) x73 x74 x75 (fun a0 a1 a2=>κ (a0,a1,a2))) Q) : Tot (fun k κ=>(tb (ρ:=ρ) k).spec_l2draw_s18 x73 x74 x75 (fun a0 a1 a2=>κ (a0,a1,a2))) Q:=Tot.step (fun _ _=>rfl) h
theorem st_spec_l1bend {x0 : ByteArray} {x1 : List Int} {x2 : Int} {x3 : Int} {Q : (ByteArray × Int × Int) → Prop} (h : Tot (fun k κ=>B_spec_l1bend (tb (ρ:=ρ) k) x0 x1 x2 x3 (fun a0 a1 a2=>κ (a0,a1,a2))) Q) : Tot (fun k κ=>(tb (ρ:=ρ) k).spec_l1bend x0 x1 x2 x3 (fun a0 a1 a2=>κ (a0,a1,a2))) Q:=Tot.step (fun _ _=>rfl) h
theorem st_spec_l1Byte {x0 : List Int} {x1 : Int} {x2 : Int} {Q : (Int × Int × Int) → Prop} (h : Tot (fun k κ=>B_spec_l1Byte (tb (ρ:=ρ) k) x0 x1 x2 (fun a0 a1 a2=>κ (a0,a1,a2))) Q) : Tot (fun k κ=>(tb (ρ:=ρ) k).spec_l1Byte x0 x1 x2 (fun a0 a1 a2=>κ (a0,a1,a2))) Q:=Tot.step (fun _ _=>rfl) h
theorem st_spec_l2seq {x0 : Int} {x1 : ByteArray} {x2 : Int} {x3 : List Tt49} {x4 : Bool} {Q : (Int × Int × (List Tt49) × Bool) → Prop} (h : Tot (fun k κ=>B_spec_l2seq (tb (ρ:=ρ) k) x0 x1 x2 x3 x4 (fun a0 a1 a2 a3=>κ (a0,a1,a2,a3))) Q) : Tot (fun k κ=>(tb (ρ:=ρ) k).spec_l2seq x0 x1 x2 x3 x4 (fun a0 a1 a2 a3=>κ (a0,a1,a2,a3))) Q:=Tot.step (fun _ _=>rfl) h
theorem st_spec_l2seq_s2 {x9 : Int} {x10 : List Int} {x11 : ByteArray} {x12 : Int} {x13 : List Tt49} {x14 : Bool} {Q : (Int × Int × (List Tt49) × Bool) → Prop} (h : Tot (fun k κ=>B_spec_l2seq_s2 (tb (ρ:=ρ) k) x9 x10 x11 x12 x13 x14 (fun a0 a1 a2 a3=>κ (a0,a1,a2,a3))) Q) : Tot (fun k κ=>(tb (ρ:=ρ) k).spec_l2seq_s2 x9 x10 x11 x12 x13 x14 (fun a0 a1 a2 a3=>κ (a0,a1,a2,a3))) Q:=Tot.step (fun _ _=>rfl) h
theorem st_spec_l2seq_s4 {x22 : List Int} {x23 : ByteArray} {x24 : Int} {x25 : List Tt49} {x26 : Bool} {Q : (Int × Int × (List Tt49) × Bool) → Prop} (h : Tot (fun k κ=>B_spec_l2seq_s4 (tb (ρ:=ρ) k) x22 x23 x24 x25 x26 (fun a0 a1 a2 a3=>κ (a0,a1,a2,a3))) Q) : Tot (fun k κ=>(tb (ρ:=ρ) k).spec_l2seq_s4 x22 x23 x24 x25 x26 (fun a0 a1 a2 a3=>κ (a0,a1,a2,a3))) Q:=Tot.step (fun _ _=>rfl) h
theorem st_spec_l2more {x0 : ByteArray} {x1 : Int} {Q : Bool → Prop} (h : Tot (fun k κ=>B_spec_l2more (tb (ρ:=ρ) k) x0 x1 (fun a0=>κ a0)) Q) : Tot (fun k κ=>(tb (ρ:=ρ) k).spec_l2more x0 x1 (fun a0=>κ a0)) Q:=Tot.step (fun _ _=>rfl) h
theorem st_spec_l2peek {x0 : ByteArray} {x1 : Int} {Q : Int → Prop} (h : Tot (fun k κ=>B_spec_l2peek (tb (ρ:=ρ) k) x0 x1 (fun a0=>κ a0)) Q) : Tot (fun k κ=>(tb (ρ:=ρ) k).spec_l2peek x0 x1 (fun a0=>κ a0)) Q:=Tot.step (fun _ _=>rfl) h
theorem st_spec_l2node {x0 : Int} {x1 : Bool} {x2 : ByteArray} {x3 : List Int} {x4 : List Tt49} {Q : (Int × (List Tt49)) → Prop} (h : Tot (fun k κ=>B_spec_l2node (tb (ρ:=ρ) k) x0 x1 x2 x3 x4 (fun a0 a1=>κ (a0,a1))) Q) : Tot (fun k κ=>(tb (ρ:=ρ) k).spec_l2node x0 x1 x2 x3 x4 (fun a0 a1=>κ (a0,a1))) Q:=Tot.step (fun _ _=>rfl) h
theorem st_spec_l2node_1 {x0 : Int} {x1 : Bool} {x2 : ByteArray} {x3 : List Tt49} {Q : (Int × (List Tt49)) → Prop} (h : Tot (fun k κ=>B_spec_l2node_1 (tb (ρ:=ρ) k) x0 x1 x2 x3 (fun a0 a1=>κ (a0,a1))) Q) : Tot (fun k κ=>(tb (ρ:=ρ) k).spec_l2node_1 x0 x1 x2 x3 (fun a0 a1=>κ (a0,a1))) Q:=Tot.step (fun _ _=>rfl) h
theorem st_spec_l2rep {x0 : Int} {x1 : ByteArray} {x2 : Int} {x3 : List Tt49} {x4 : Bool} {Q : (Int × Int × (List Tt49) × Bool) → Prop} (h : Tot (fun k κ=>B_spec_l2rep (tb (ρ:=ρ) k) x0 x1 x2 x3 x4 (fun a0 a1 a2 a3=>κ (a0,a1,a2,a3))) Q) : Tot (fun k κ=>(tb (ρ:=ρ) k).spec_l2rep x0 x1 x2 x3 x4 (fun a0 a1 a2 a3=>κ (a0,a1,a2,a3))) Q:=Tot.step (fun _ _=>rfl) h
theorem st_spec_l2rep_s2 {x9 : Int} {x10 : ByteArray} {x11 : Int} {x12 : List Tt49} {x13 : Bool} {Q : (Int × Int × (List Tt49) × Bool) → Prop} (h : Tot (fun k κ=>B_spec_l2rep_s2 (tb (ρ:=ρ) k) x9 x10 x11 x12 x13 (fun a0 a1 a2 a3=>κ (a0,a1,a2,a3))) Q) : Tot (fun k κ=>(tb (ρ:=ρ) k).spec_l2rep_s2 x9 x10 x11 x12 x13 (fun a0 a1 a2 a3=>κ (a0,a1,a2,a3))) Q:=Tot.step (fun _ _=>rfl) h
end
end Go.Proofs.YtlakdfbfkbndiaaDoor.Ev.Pr
