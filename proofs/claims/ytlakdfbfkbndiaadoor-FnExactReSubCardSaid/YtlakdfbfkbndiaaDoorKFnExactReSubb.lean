/- What the row of FnExactReSub rests on, and the row: for every input that can be read the call returns true and the input reads as it did; condition: what the row lists of the library reads as the program lays it. -/
import Derived.Test.YtlakdfbfkbndiaaDoorKFnExactReSuba
import Derived.Test.YtlakdfbfkbndiaaDoorChecked
import GoSem.Claim
import GoSem.ClaimJoined
import GoSem.ClaimMapViews
import Derived.JoinedTies
import GoSem.ClaimSeven
import Derived.LaidByTextLater
import Derived.SevenTiedAt
import Derived.LaidSub
import Derived.LaidOnce
import Derived.Test.YtlakdfbfkbndiaaDoorProg
import Derived.Lib.LaidTab
import Derived.Lib.TrailingZeros
import Derived.Laws.Bits64b
import Derived.Lib.LaidU8
import Derived.HandedShaped
import Derived.Lay
import Derived.Shelf.Abstract
import Derived.BigRegion
import Derived.RegionTactic
import Derived.WideKeyPair
import Derived.WideKeyArr
import Derived.MapKept
import Derived.ChangeMaps5
import Derived.Maps.Keyed
import Derived.StillTailTactics
import Derived.Deep.RegionWith
import Derived.Carry
import Derived.Deep.Slices
import Derived.Deep.Fields
import Derived.ChangeSame
import Derived.ProofKit
import Derived.OpenShut
import Derived.ShutString
import Derived.ChangeOld
import Derived.Test.YtlakdfbfkbndiaaDoorRows
set_option linter.unusedVariables false
set_option linter.unusedSimpArgs false
namespace Go.Proofs.YtlakdfbfkbndiaaDoor.Q
open Go.RowKit Go.Proofs.YtlakdfbfkbndiaaDoorW.PrintWords Go.Proofs.YtlakdfbfkbndiaaDoorW.PrintLast Go.Proofs.YtlakdfbfkbndiaaDoorW.PrintMore
attribute [local go_sem] max2_int min2_int max_two min_two max_three min_three max_four min_four   -- for this text's walks alone
set_option linter.unusedVariables false
set_option linter.unusedSimpArgs false
def errW : Option Int → Value
 | none=>.nilIface
 | some c=>.iface 0 (.int .i64 c)
theorem errW_none : errW none = .nilIface:=rfl
theorem errW_some (c : Int) : errW (some c) = .iface 0 (.int .i64 c):=rfl
theorem info3 : (Tryd.prog.info? 3).map (fun i=>(i.zero,i.size,i.bytes)) = some (some (.int .i64 0),1,8):=by kernel_rfl
theorem info4 : (Tryd.prog.info? 4).map (fun i=>(i.zero,i.size,i.bytes)) = some (some (.bool false),1,1):=by kernel_rfl
theorem info49 : (Tryd.prog.info? 49).map (fun i=>(i.zero,i.size,i.bytes)) = some (some (.agg #[(.int .i64 0),(.bool false),(.string ⟨#[]⟩),(.slice none 0 0)]),4,56):=by kernel_rfl
structure S49 where
 f0 : Int
 f1 : Bool
 f2 : ByteArray
 f3 : (List Int)
def z49 : S49:=⟨(0 : Int),false,(⟨#[]⟩ : ByteArray),([] : List Int)⟩
def k49 : Kd S49:=Kd.iso (Kd.pair (Kd.int .i64) (Kd.pair Kd.bool (Kd.pair Kd.string (Kd.slice 3 (Kd.int .i64))))) (fun x : S49=>(x.f0,x.f1,x.f2,x.f3))
theorem k49_heap : Kd.Heap k49:=Kd.heap_iso _ (Kd.heap_pair (Kd.heap_int .i64) (Kd.heap_pair Kd.heap_bool (Kd.heap_pair Kd.heap_string (Kd.heap_slice 3 (Kd.heap_int .i64)))))
theorem k49_open {w : World} {x : S49} {cs : List Value} (h : k49.K w x cs) : ∃ A3 c3,cs = [.int .i64 x.f0,.bool x.f1,.string x.f2,.slice A3 x.f3.length c3] ∧ x.f3.length ≤ c3 ∧ (Kd.int .i64).C w A3 x.f3.length x.f3:=by
 obtain ⟨_,_,rfl,rfl,⟨_,_,rfl,rfl,⟨_,_,rfl,rfl,⟨A3,c3,rfl,l3,g3⟩⟩⟩⟩:=h
 exact ⟨A3,c3,rfl,l3,g3⟩
theorem k49_openM {w : World} {base : Nat} {ok : Nat → Prop} {x : S49} {cs : List Value} (h : k49.M w base ok x cs) : ∃ v3,cs = [.int .i64 x.f0,.bool x.f1,.string x.f2,v3] ∧ (Kd.int .i64).R 3 w base ok v3 x.f3:=by
 obtain ⟨_,_,rfl,rfl,⟨_,_,rfl,rfl,⟨_,_,rfl,rfl,⟨v3,rfl,g3⟩⟩⟩⟩:=h
 exact ⟨v3,rfl,g3⟩
theorem k49_mkM (w : World) (base : Nat) (ok : Nat → Prop) (x : S49) {v3 : Value} (g3 : (Kd.int .i64).R 3 w base ok v3 x.f3) : k49.M w base ok x [.int .i64 x.f0,.bool x.f1,.string x.f2,v3]:=⟨[.int .i64 x.f0],[.bool x.f1,.string x.f2,v3],rfl,rfl,⟨[.bool x.f1],[.string x.f2,v3],rfl,rfl,⟨[.string x.f2],[v3],rfl,rfl,⟨v3,rfl,g3⟩⟩⟩⟩
def rd_T49 (xs : List S49) (i : Int) : S49:=xs.getD i.toNat z49
theorem at_T49 {w : World} {A : Option Addr} {n : Nat} {xs : List S49} (h : Kd.C k49 w A n xs) (i : Int) (h0 : 0 ≤ i) (h1 : i < n) : ∃ ad A3 c3,A = some ad ∧ w.cell? (ad.add (i.toNat * 4)) = some (.int .i64 (rd_T49 xs i).f0) ∧ w.cell? ⟨(ad.add (i.toNat * 4)).block,(ad.add (i.toNat * 4)).off + 1,none⟩ = some (.bool (rd_T49 xs i).f1) ∧ w.cell? ⟨(ad.add (i.toNat * 4)).block,(ad.add (i.toNat * 4)).off + 2,none⟩ = some (.string (rd_T49 xs i).f2) ∧ w.cell? ⟨(ad.add (i.toNat * 4)).block,(ad.add (i.toNat * 4)).off + 3,none⟩ = some (.slice A3 (rd_T49 xs i).f3.length c3) ∧ (rd_T49 xs i).f3.length ≤ c3 ∧ (Kd.int .i64).C w A3 (rd_T49 xs i).f3.length (rd_T49 xs i).f3:=by
 obtain ⟨ad,c,e,_,hK,hc0⟩:=Kd.C_get h z49 i h0 h1
 have hc : ∀ j u,c[j]? = some u → w.cell? (ad.add (i.toNat * 4 + j)) = some u:=hc0
 obtain ⟨A3,c3,rfl,l3,g3⟩:=k49_open hK
 exact ⟨ad,A3,c3,e,hc 0 _ rfl,by rw [← add_field _ _ 1 (by omega)];exact hc 1 _ rfl,by rw [← add_field _ _ 2 (by omega)];exact hc 2 _ rfl,by rw [← add_field _ _ 3 (by omega)];exact hc 3 _ rfl,l3,g3⟩
structure S56 where
 f0 : Int
 f1 : Bool
 f2 : ByteArray
 f3 : (List Int)
def z56 : S56:=⟨(0 : Int),false,(⟨#[]⟩ : ByteArray),([] : List Int)⟩
def k56 : Kd S56:=Kd.iso (Kd.pair (Kd.int .i64) (Kd.pair Kd.bool (Kd.pair Kd.string (Kd.slice 3 (Kd.int .i64))))) (fun x : S56=>(x.f0,x.f1,x.f2,x.f3))
theorem k56_open {w : World} {x : S56} {cs : List Value} (h : k56.K w x cs) : ∃ A3 c3,cs = [.int .i64 x.f0,.bool x.f1,.string x.f2,.slice A3 x.f3.length c3] ∧ x.f3.length ≤ c3 ∧ (Kd.int .i64).C w A3 x.f3.length x.f3:=by
 obtain ⟨_,_,rfl,rfl,⟨_,_,rfl,rfl,⟨_,_,rfl,rfl,⟨A3,c3,rfl,l3,g3⟩⟩⟩⟩:=h
 exact ⟨A3,c3,rfl,l3,g3⟩
def rd_T56 (xs : List S56) (i : Int) : S56:=xs.getD i.toNat z56
theorem at_T56 {w : World} {A : Option Addr} {n : Nat} {xs : List S56} (h : Kd.C k56 w A n xs) (i : Int) (h0 : 0 ≤ i) (h1 : i < n) : ∃ ad A3 c3,A = some ad ∧ w.cell? (ad.add (i.toNat * 4)) = some (.int .i64 (rd_T56 xs i).f0) ∧ w.cell? ⟨(ad.add (i.toNat * 4)).block,(ad.add (i.toNat * 4)).off + 1,none⟩ = some (.bool (rd_T56 xs i).f1) ∧ w.cell? ⟨(ad.add (i.toNat * 4)).block,(ad.add (i.toNat * 4)).off + 2,none⟩ = some (.string (rd_T56 xs i).f2) ∧ w.cell? ⟨(ad.add (i.toNat * 4)).block,(ad.add (i.toNat * 4)).off + 3,none⟩ = some (.slice A3 (rd_T56 xs i).f3.length c3) ∧ (rd_T56 xs i).f3.length ≤ c3 ∧ (Kd.int .i64).C w A3 (rd_T56 xs i).f3.length (rd_T56 xs i).f3:=by
 obtain ⟨ad,c,e,_,hK,hc0⟩:=Kd.C_get h z56 i h0 h1
 have hc : ∀ j u,c[j]? = some u → w.cell? (ad.add (i.toNat * 4 + j)) = some u:=hc0
 obtain ⟨A3,c3,rfl,l3,g3⟩:=k56_open hK
 exact ⟨ad,A3,c3,e,hc 0 _ rfl,by rw [← add_field _ _ 1 (by omega)];exact hc 1 _ rfl,by rw [← add_field _ _ 2 (by omega)];exact hc 2 _ rfl,by rw [← add_field _ _ 3 (by omega)];exact hc 3 _ rfl,l3,g3⟩
structure S85 where
 f0 : Int
 f1 : Int
 f2 : Int
def z85 : S85:=⟨(0 : Int),(0 : Int),(0 : Int)⟩
def k85 : Kd S85:=Kd.iso (Kd.pair (Kd.int .i64) (Kd.pair (Kd.int .i64) (Kd.int .i64))) (fun x : S85=>(x.f0,x.f1,x.f2))
theorem k85_heap : Kd.Heap k85:=Kd.heap_iso _ (Kd.heap_pair (Kd.heap_int .i64) (Kd.heap_pair (Kd.heap_int .i64) (Kd.heap_int .i64)))
theorem k85_open {w : World} {x : S85} {cs : List Value} (h : k85.K w x cs) : cs = [.int .i64 x.f0,.int .i64 x.f1,.int .i64 x.f2]:=by
 obtain ⟨_,_,rfl,rfl,⟨_,_,rfl,rfl,rfl⟩⟩:=h
 exact rfl
theorem k85_mkM (w : World) (base : Nat) (ok : Nat → Prop) (x : S85)  : k85.M w base ok x [.int .i64 x.f0,.int .i64 x.f1,.int .i64 x.f2]:=⟨[.int .i64 x.f0],[.int .i64 x.f1,.int .i64 x.f2],rfl,rfl,⟨[.int .i64 x.f1],[.int .i64 x.f2],rfl,rfl,rfl⟩⟩
def rd_T85 (xs : List S85) (i : Int) : S85:=xs.getD i.toNat z85
theorem at_T85 {w : World} {A : Option Addr} {n : Nat} {xs : List S85} (h : Kd.C k85 w A n xs) (i : Int) (h0 : 0 ≤ i) (h1 : i < n) : ∃ ad ,A = some ad ∧ w.cell? (ad.add (i.toNat * 3)) = some (.int .i64 (rd_T85 xs i).f0) ∧ w.cell? ⟨(ad.add (i.toNat * 3)).block,(ad.add (i.toNat * 3)).off + 1,none⟩ = some (.int .i64 (rd_T85 xs i).f1) ∧ w.cell? ⟨(ad.add (i.toNat * 3)).block,(ad.add (i.toNat * 3)).off + 2,none⟩ = some (.int .i64 (rd_T85 xs i).f2):=by
 obtain ⟨ad,c,e,_,hK,hc0⟩:=Kd.C_get h z85 i h0 h1
 have hc : ∀ j u,c[j]? = some u → w.cell? (ad.add (i.toNat * 3 + j)) = some u:=hc0
 obtain rfl:=k85_open hK
 exact ⟨ad,e,hc 0 _ rfl,by rw [← add_field _ _ 1 (by omega)];exact hc 1 _ rfl,by rw [← add_field _ _ 2 (by omega)];exact hc 2 _ rfl⟩
end Go.Proofs.YtlakdfbfkbndiaaDoor.Q
namespace Go.Proofs.YtlakdfbfkbndiaaDoor.Q
open Go Go.RowKit Go.Proofs.YtlakdfbfkbndiaaDoorW.PrintWords Go.Proofs.YtlakdfbfkbndiaaDoorW.PrintLast Go.Proofs.YtlakdfbfkbndiaaDoorW.PrintMore
structure Tabs (w : World) : Prop where
  bruijn : Lib.TabIs Tryd.prog w "math/bits.deBruijn64tab" .u8 (Lib.deBruijn64tab.map fun n : Nat => (n : Int))
theorem tabIs_heap {P : Program} {w w1 : World} {name : String} {k : IntKind} {zs : List Int} (h : Lib.TabIs P w name k zs) (hb : ∀ i, i < w.heap.size → w1.heap[i]? = w.heap[i]?) : Lib.TabIs P w1 name k zs := by
  unfold Lib.TabIs at h ⊢
  unfold World.var? at h ⊢
  cases hg : P.globalNamed name with
  | none => rw [hg] at h; simp at h
  | some g =>
    rw [hg] at h
    simp only [Option.bind_some] at h ⊢
    by_cases hlt : g < w.heap.size
    · rw [hb g hlt]; exact h
    · rw [Array.getElem?_eq_none (by omega)] at h
      simp at h
theorem Tabs.below {w w1 : World} (h : Tabs w) (hb : Below w.heap.size w w1) : Tabs w1 := ⟨tabIs_heap h.bruijn fun i hi => hb.block i hi⟩
theorem Tabs.drewN {w : World} (h : Tabs w) (n : Nat) : Tabs (w.drewN n) := ⟨tabIs_heap h.bruijn fun _ _ => rfl⟩
theorem Tabs.cell {w : World} (h : Tabs w) (j : Nat) (hj : j < 64) : w.cell? ⟨0, j, none⟩ = some (.int .u8 (Lib.deBruijn64tab.getD j 0 : Nat)) := by
  have := h.bruijn.cell (g := 0) (by kernel_rfl) j (by rw [List.length_map]; exact hj)
  rw [this]
  have hl : j < Lib.deBruijn64tab.length := hj
  simp [List.getD_eq_getElem?_getD, List.getElem?_eq_getElem hl]
theorem tz64_core (x k idx : Nat) (w : World) (hx0 : ((x : Int) == 0) = false)
    (key : IntKind.u64.wrap (bits BinOp.and IntKind.u64 (x : Int) (IntKind.u64.wrap (-(x : Int))) * 285870213051353865) / 288230376151711744 = (idx : Int))
    (hi : idx < 64) (hk : k < 64) (hcell : w.cell? ⟨0, idx, none⟩ = some (.int .u8 k)) :
    Calls Tryd.prog 79 #[.int .u64 x] w fun e w' => e = .returned (.int .i64 k) ∧ w' = w := by
  go_enter Tryd.func79, Tryd.ntmps79
  go_wp2_with (simp only [key])
  go_ret
  exact ⟨rfl, rfl⟩
theorem tz64_key (x a : Nat) (hx : x < 18446744073709551616) (hx0 : x ≠ 0) (hlow : x &&& (18446744073709551616 - x) = a) :
    IntKind.u64.wrap (bits BinOp.and IntKind.u64 (x : Int) (IntKind.u64.wrap (-(x : Int))) * 285870213051353865) / 288230376151711744 = ((a * 285870213051353865 % 18446744073709551616 / 288230376151711744 : Nat) : Int) := by
  have e1 : IntKind.u64.wrap (-(x : Int)) = ((18446744073709551616 - x : Nat) : Int) := by rw [IntKind.wrap_u64]; omega
  rw [e1, bits_and_u64_nat x _ hx (by omega), hlow, IntKind.wrap_u64]
  omega
theorem tz64_any (x : Nat) (hx : x < 18446744073709551616) (hx0 : x ≠ 0) (w : World) (hT : Tabs w) :
    Calls Tryd.prog 79 #[.int .u64 x] w fun e w' => e = .returned (.int .i64 (Lib.ctz 64 x)) ∧ w' = w := by
  obtain ⟨hlow, hk⟩ := Lib.lowest_bit 64 x hx0 hx
  obtain ⟨hi, htab⟩ := Lib.deBruijn64_at _ hk
  have hcell := hT.cell _ hi
  rw [htab] at hcell
  exact tz64_core x _ _ w (by simp; omega) (tz64_key x _ hx hx0 hlow) hi hk hcell
end Go.Proofs.YtlakdfbfkbndiaaDoor.Q
namespace Go.Proofs.YtlakdfbfkbndiaaDoor.Q
open Go Go.RowKit Go.Lib
theorem tabIs_of_reads {P : Program} {W : World} {name : String} {k : IntKind} {zs : List Int} {g : Nat} {t e : TypeId} {n : Nat}
    (hg : P.globalNamed name = some g) (hty : (P.globals[g]?).map (·.type) = some t) (ht : P.underlying t = some (.array n e)) (he : P.underlying e = some (.int k)) (hce : P.cellsOf e = 1) (hct : P.cellsOf t = n)
    (h : VarReads P W name (Lib.tabData k zs)) : Lib.TabIs P W name k zs := by
  obtain ⟨g', t', cs, fuel, p, hg', ht', hvar, hd⟩ := h
  obtain rfl := Option.some.inj (hg.symm.trans hg')
  obtain rfl := Option.some.inj (hty.symm.trans ht')
  unfold Lib.TabIs
  rw [hvar, ← Lib.cells_of_tab ht he hce hct hd]
theorem tabs_of_laid {W : World} {l : List (String × DataW Unit)} (h : laidMet Tryd.prog l W) (hm : ("math/bits.deBruijn64tab", Rows.laid_math_bits_deBruijn64tab) ∈ l) (_hS : W.ShapedOpen Tryd.prog) : Tabs W where
  bruijn := tabIs_of_reads (g := 0) (t := 126) (e := 5) (by kernel_rfl) (by kernel_rfl) Tryd.underlying126 Tryd.underlying5 (by kernel_rfl) (by kernel_rfl)
    ((show Rows.laid_math_bits_deBruijn64tab = Lib.tabData .u8 (Lib.deBruijn64tab.map fun n : Nat => (n : Int)) by kernel_rfl) ▸ laidMet.reads h hm)
end Go.Proofs.YtlakdfbfkbndiaaDoor.Q
namespace Go
variable {H : Type} {enc : TypeId × Value → H}
theorem returnsInHanded_of_change_and_shaped_ytlakdfbfkbndiaadoor {a : Assume} {C : Checked} {os : Os} {f : FuncId} {fn : Func} {s : ChangeSpec} {conds : List PathCond} {apart fresh handsOn again : Bool} {X : World → Array Value → Prop}
    (hX : ∀ (w w' : World) (args : Array Value), w.heap = w'.heap → X w args → X w' args)
    (own : ownKnob C.prog.godebug = none) (started : os.Started) (noInit : C.prog.inits.idxOf? f = none) (hfn : C.prog.funcs[f]? = some fn)
    (witness : ∃ (w : World) (tape : Tape) (i : Input), w.os = os ∧ (w.forCall tape i).Shaped C.prog ∧ i.vars = [] ∧ Input.okWide C.prog (w.forCall tape i) .any w.heap.size f i ∧
      ((s.pre enc C.prog fn conds apart (w.forCall tape i).memory i.args ∧ X (w.forCall tape i).memory i.args) ∧ sizedMet enc C.prog fn (OpenSpec.ofChange s) apart (w.forCall tape i).memory i.args) ∧ a.holds C.prog (lone (Frame.enter C.prog f i.args .normal) [] (w.forCall tape i)))
    (contract : ∀ (W : World) (base : Nat) (args : Array Value) (ds gs : List (DataW H)) (before : List MemPlace),
      (∀ (j : Nat) t v, fn.params[j]? = some t → args[j]? = some v → Value.okWide C.prog W .any base t v) →
      DataW.Whole enc C.prog fn.params.toList s.vars apart W args.toList ds gs before →
      conds.all (PathCond.test C.prog ⟨fn.params.toList, ds, s.plain.varTypes C.prog, gs⟩) = true →
      (DataW.weightsEach C.prog (fn.params.toList ++ s.plain.varTypes C.prog) (ds ++ gs)).all (· ≤ reachBytes) = true → X W args →
      W.ShapedOpen C.prog →
      a.holds C.prog (lone (Frame.enter C.prog f args .normal) [] W) →
      Calls C.prog f args W fun e W' => ∃ v, e = .returned v ∧ s.post enc C.prog fn apart fresh handsOn again W args v W') :
    ReturnsInHanded a C os f .any (fun w args => (s.pre enc C.prog fn conds apart w args ∧ X w args) ∧ sizedMet enc C.prog fn (OpenSpec.ofChange s) apart w args) (s.post enc C.prog fn apart fresh handsOn again) := by
  refine returnsInHanded_of_calls own started noInit witness ?_
  intro w tape i _ hsh _ hok hpre hholds
  obtain ⟨_, _, _, fn', hfn', _, _, _, _, hval⟩ := hok
  have e : fn' = fn := Option.some.inj (hfn'.symm.trans hfn)
  subst e
  obtain ⟨⟨⟨ds, gs, before, hw, hc⟩, hx⟩, hz⟩ := hpre
  have hw' := DataW.Whole.of_heap (w' := w.forCall tape i) (by rfl) hw
  refine (contract (w.forCall tape i) w.heap.size i.args ds gs before hval hw' hc (hz.weights hw) (hX _ _ _ (by rfl) hx) hsh hholds).mono fun e W' ⟨v, he, hp⟩ => ?_
  subst he
  exact ChangeSpec.post_blind hp
end Go
namespace Go.Proofs.YtlakdfbfkbndiaaDoor.Q
open Go.RowKit Go.Proofs.YtlakdfbfkbndiaaDoorW.PrintWords Go.Proofs.YtlakdfbfkbndiaaDoorW.PrintLast Go.Proofs.YtlakdfbfkbndiaaDoorW.PrintMore
attribute [local go_sem] max2_int min2_int max_two min_two max_three min_three max_four min_four   -- for this text's walks alone
set_option linter.unusedVariables false
set_option linter.unusedSimpArgs false
def impl_between.f (a0 : Int) (a1 : Int) (a2 : Int) : Option (Bool):=if a0 ≥ a1 then (some (decide (a0 ≤ a2))) else (some false)
set_option maxHeartbeats 8000000 in
set_option maxRecDepth 100000 in
theorem impl_between.calls (a0 : Int) (a1 : Int) (a2 : Int) (r : Bool) (w : World) (h : impl_between.f a0 a1 a2 = some r) :
  Calls Tryd.prog 44 #[.int .i64 a0,.int .i64 a1,.int .i64 a2] w fun e w'=>e = .returned (.bool r) ∧ Drawn0 w w':=by
 have H : (if a0 ≥ a1 then (some (decide (a0 ≤ a2))) else (some false)) = some r:=h
 clear h
 by_cases c4 : a0 ≥ a1
 ·rw [if_pos c4] at H
  have c4b0 : decide (a1 ≤ a0) = true:=decide_eq_true c4
  clear c4
  obtain rfl:=Option.some.inj H
  go_enter Tryd.func44,Tryd.ntmps44
  go_wp2
  go_ret
  exact ⟨by first|rfl|(simp;done)|(simp [*];done),by repeat (first|exact Drawn0.refl _|apply Drawn0.step)⟩
 ·rw [if_neg c4] at H
  have c4b0 : decide (a1 ≤ a0) = false:=decide_eq_false c4
  clear c4
  obtain rfl:=Option.some.inj H
  go_enter Tryd.func44,Tryd.ntmps44
  go_wp2
  go_ret
  exact ⟨by first|rfl|(simp;done)|(simp [*];done),by repeat (first|exact Drawn0.refl _|apply Drawn0.step)⟩
mutual
def impl_isReNode.j3 : Nat → Bool → Int → Bool → ByteArray → List Int → Option (Bool)
 | 0,_,_,_,_,_=>none
 | k + 1,x58,x102000,x102001,x102002,x102003=>if x58 = true then (some false) else (impl_isReNode.l0 k 0 x102000 x102001 x102002 x102003)
def impl_isReNode.l0 : Nat → Int → Int → Bool → ByteArray → List Int → Option (Bool)
 | 0,_,_,_,_,_=>none
 | k + 1,x3,x102000,x102001,x102002,x102003=>if x3 < (x102002.size : Int) then (if 0 ≤ (wrap64 (x3 + 1)) then (if (wrap64 (x3 + 1)) < (x102002.size : Int) then (if 0 ≤ x3 then (if (bt x102002 (wrap64 (x3 + 1))) < (bt x102002 x3) then (some false) else (impl_isReNode.l0 k (wrap64 (x3 + 2)) x102000 x102001 x102002 x102003)) else (none)) else (none)) else (none)) else (some true)
def impl_isReNode.j0 : Nat → Bool → Int → Bool → ByteArray → List Int → Option (Bool)
 | 0,_,_,_,_,_=>none
 | k + 1,x13,x102000,x102001,x102002,x102003=>if x13 = true then (some false) else (if x102000 = 1 then (impl_isReNode.j1 k x102000 (x102000 == 1) x102000 x102001 x102002 x102003) else (impl_isReNode.j1 k x102000 (x102000 == 2) x102000 x102001 x102002 x102003))
def impl_isReNode.j1 : Nat → Int → Bool → Int → Bool → ByteArray → List Int → Option (Bool)
 | 0,_,_,_,_,_,_=>none
 | k + 1,x15,x16,x102000,x102001,x102002,x102003=>if x16 = true then (some ((x102003.length : Int) == 0)) else (if x15 = 3 then (impl_isReNode.j2 k x15 (x15 == 3) x102000 x102001 x102002 x102003) else (impl_isReNode.j2 k x15 (x15 == 4) x102000 x102001 x102002 x102003))
def impl_isReNode.j2 : Nat → Int → Bool → Int → Bool → ByteArray → List Int → Option (Bool)
 | 0,_,_,_,_,_,_=>none
 | k + 1,x15,x23,x102000,x102001,x102002,x102003=>if x23 = true then (some (decide ((x102003.length : Int) ≥ 2))) else (if x15 = 5 then (some ((x102003.length : Int) == 1)) else (if x15 = 6 then (some ((x102003.length : Int) == 1)) else (if x15 = 7 then (some ((x102003.length : Int) == 1)) else (some false))))
end
def impl_isReNode.f (k : Nat) (a0_0 : Int) (a0_1 : Bool) (a0_2 : ByteArray) (l0_3 : List Int) : Option (Bool):=if a0_0 = 0 then (if ((a0_2.size : Int) % 2) = 0 then (if (l0_3.length : Int) > 0 then (impl_isReNode.j3 k true a0_0 a0_1 a0_2 l0_3) else (if a0_2.toList = ([] : List UInt8) then (impl_isReNode.j3 k (!a0_1) a0_0 a0_1 a0_2 l0_3) else (impl_isReNode.j3 k false a0_0 a0_1 a0_2 l0_3))) else (impl_isReNode.j3 k true a0_0 a0_1 a0_2 l0_3)) else (if a0_1 = true then (impl_isReNode.j0 k true a0_0 a0_1 a0_2 l0_3) else (impl_isReNode.j0 k (a0_2.toList != ([] : List UInt8)) a0_0 a0_1 a0_2 l0_3))
theorem impl_isReNode.mono_l : ∀ k,(∀ y0 y1 y2 y3 y4,LeO (impl_isReNode.j3 k y0 y1 y2 y3 y4) (impl_isReNode.j3 (k + 1) y0 y1 y2 y3 y4)) ∧ (∀ y0 y1 y2 y3 y4,LeO (impl_isReNode.l0 k y0 y1 y2 y3 y4) (impl_isReNode.l0 (k + 1) y0 y1 y2 y3 y4)) ∧ (∀ y0 y1 y2 y3 y4,LeO (impl_isReNode.j0 k y0 y1 y2 y3 y4) (impl_isReNode.j0 (k + 1) y0 y1 y2 y3 y4)) ∧ (∀ y0 y1 y2 y3 y4 y5,LeO (impl_isReNode.j1 k y0 y1 y2 y3 y4 y5) (impl_isReNode.j1 (k + 1) y0 y1 y2 y3 y4 y5)) ∧ (∀ y0 y1 y2 y3 y4 y5,LeO (impl_isReNode.j2 k y0 y1 y2 y3 y4 y5) (impl_isReNode.j2 (k + 1) y0 y1 y2 y3 y4 y5))
 | 0=>⟨fun _ _ _ _ _ r h=>by simp [impl_isReNode.j3] at h,fun _ _ _ _ _ r h=>by simp [impl_isReNode.l0] at h,fun _ _ _ _ _ r h=>by simp [impl_isReNode.j0] at h,fun _ _ _ _ _ _ r h=>by simp [impl_isReNode.j1] at h,fun _ _ _ _ _ _ r h=>by simp [impl_isReNode.j2] at h⟩
 | k + 1=>by
  obtain ⟨ih0,ih1,ih2,ih3,ih4⟩:=impl_isReNode.mono_l k
  refine ⟨?_,?_,?_,?_,?_⟩
  ·intro y0 y1 y2 y3 y4
   unfold impl_isReNode.j3
   repeat' first
   | (with_reducible exact ih0 _ _ _ _ _)
   | (with_reducible exact ih1 _ _ _ _ _)
   | (with_reducible exact ih2 _ _ _ _ _)
   | (with_reducible exact ih3 _ _ _ _ _ _)
   | (with_reducible exact ih4 _ _ _ _ _ _)
   | (with_reducible exact LeO.refl _)
   | (with_reducible exact LeO.none _)
   | (with_reducible refine LeO.ite ?_ ?_)
   | (with_reducible refine LeO.bind ?_ (fun _=>?_))
   | exact ih0 _ _ _ _ _
   | exact ih1 _ _ _ _ _
   | exact ih2 _ _ _ _ _
   | exact ih3 _ _ _ _ _ _
   | exact ih4 _ _ _ _ _ _
   | exact LeO.none _
   | refine LeO.ite ?_ ?_
   | refine LeO.bind ?_ (fun _=>?_)
  ·intro y0 y1 y2 y3 y4
   unfold impl_isReNode.l0
   repeat' first
   | (with_reducible exact ih0 _ _ _ _ _)
   | (with_reducible exact ih1 _ _ _ _ _)
   | (with_reducible exact ih2 _ _ _ _ _)
   | (with_reducible exact ih3 _ _ _ _ _ _)
   | (with_reducible exact ih4 _ _ _ _ _ _)
   | (with_reducible exact LeO.refl _)
   | (with_reducible exact LeO.none _)
   | (with_reducible refine LeO.ite ?_ ?_)
   | (with_reducible refine LeO.bind ?_ (fun _=>?_))
   | exact ih0 _ _ _ _ _
   | exact ih1 _ _ _ _ _
   | exact ih2 _ _ _ _ _
   | exact ih3 _ _ _ _ _ _
   | exact ih4 _ _ _ _ _ _
   | exact LeO.none _
   | refine LeO.ite ?_ ?_
   | refine LeO.bind ?_ (fun _=>?_)
  ·intro y0 y1 y2 y3 y4
   unfold impl_isReNode.j0
   repeat' first
   | (with_reducible exact ih0 _ _ _ _ _)
   | (with_reducible exact ih1 _ _ _ _ _)
   | (with_reducible exact ih2 _ _ _ _ _)
   | (with_reducible exact ih3 _ _ _ _ _ _)
   | (with_reducible exact ih4 _ _ _ _ _ _)
   | (with_reducible exact LeO.refl _)
   | (with_reducible exact LeO.none _)
   | (with_reducible refine LeO.ite ?_ ?_)
   | (with_reducible refine LeO.bind ?_ (fun _=>?_))
   | exact ih0 _ _ _ _ _
   | exact ih1 _ _ _ _ _
   | exact ih2 _ _ _ _ _
   | exact ih3 _ _ _ _ _ _
   | exact ih4 _ _ _ _ _ _
   | exact LeO.none _
   | refine LeO.ite ?_ ?_
   | refine LeO.bind ?_ (fun _=>?_)
  ·intro y0 y1 y2 y3 y4 y5
   unfold impl_isReNode.j1
   repeat' first
   | (with_reducible exact ih0 _ _ _ _ _)
   | (with_reducible exact ih1 _ _ _ _ _)
   | (with_reducible exact ih2 _ _ _ _ _)
   | (with_reducible exact ih3 _ _ _ _ _ _)
   | (with_reducible exact ih4 _ _ _ _ _ _)
   | (with_reducible exact LeO.refl _)
   | (with_reducible exact LeO.none _)
   | (with_reducible refine LeO.ite ?_ ?_)
   | (with_reducible refine LeO.bind ?_ (fun _=>?_))
   | exact ih0 _ _ _ _ _
   | exact ih1 _ _ _ _ _
   | exact ih2 _ _ _ _ _
   | exact ih3 _ _ _ _ _ _
   | exact ih4 _ _ _ _ _ _
   | exact LeO.none _
   | refine LeO.ite ?_ ?_
   | refine LeO.bind ?_ (fun _=>?_)
  ·intro y0 y1 y2 y3 y4 y5
   unfold impl_isReNode.j2
   repeat' first
   | (with_reducible exact ih0 _ _ _ _ _)
   | (with_reducible exact ih1 _ _ _ _ _)
   | (with_reducible exact ih2 _ _ _ _ _)
   | (with_reducible exact ih3 _ _ _ _ _ _)
   | (with_reducible exact ih4 _ _ _ _ _ _)
   | (with_reducible exact LeO.refl _)
   | (with_reducible exact LeO.none _)
   | (with_reducible refine LeO.ite ?_ ?_)
   | (with_reducible refine LeO.bind ?_ (fun _=>?_))
   | exact ih0 _ _ _ _ _
   | exact ih1 _ _ _ _ _
   | exact ih2 _ _ _ _ _
   | exact ih3 _ _ _ _ _ _
   | exact ih4 _ _ _ _ _ _
   | exact LeO.none _
   | refine LeO.ite ?_ ?_
   | refine LeO.bind ?_ (fun _=>?_)
theorem impl_isReNode.mono : ∀ a0 a1 a2 a3 k,LeO (impl_isReNode.f k a0 a1 a2 a3) (impl_isReNode.f (k + 1) a0 a1 a2 a3):=by
 intro a0 a1 a2 a3 k
 obtain ⟨ih0,ih1,ih2,ih3,ih4⟩:=impl_isReNode.mono_l k
 unfold impl_isReNode.f
 repeat' first
   | (with_reducible exact ih0 _ _ _ _ _)
   | (with_reducible exact ih1 _ _ _ _ _)
   | (with_reducible exact ih2 _ _ _ _ _)
   | (with_reducible exact ih3 _ _ _ _ _ _)
   | (with_reducible exact ih4 _ _ _ _ _ _)
   | (with_reducible exact LeO.refl _)
   | (with_reducible exact LeO.none _)
   | (with_reducible refine LeO.ite ?_ ?_)
   | (with_reducible refine LeO.bind ?_ (fun _=>?_))
   | exact ih0 _ _ _ _ _
   | exact ih1 _ _ _ _ _
   | exact ih2 _ _ _ _ _
   | exact ih3 _ _ _ _ _ _
   | exact ih4 _ _ _ _ _ _
   | exact LeO.none _
   | refine LeO.ite ?_ ?_
   | refine LeO.bind ?_ (fun _=>?_)
set_option maxHeartbeats 8000000 in
set_option maxRecDepth 100000 in
theorem impl_isReNode.calls (k : Nat) (a0_0 : Int) (a0_1 : Bool) (a0_2 : ByteArray) (A0_3 : Option Addr) (c0_3 : Nat) (l0_3 : List Int) (r : Bool) (w : World) (hr0_3 : Kd.C (Kd.int .i64) w A0_3 l0_3.length l0_3) (hc0_3 : l0_3.length ≤ c0_3) (h : impl_isReNode.f k a0_0 a0_1 a0_2 l0_3 = some r) :
  Calls Tryd.prog 74 #[.agg #[.int .i64 a0_0,.bool a0_1,.string a0_2,.slice A0_3 l0_3.length c0_3]] w fun e w'=>e = .returned (.bool r) ∧ Below w.heap.size w w':=by
 have hu49:=Tryd.underlying49
 have HR0_3:=Aside0.mk hr0_3
 have HC0_3:=Aside0.mk hc0_3
 clear hr0_3 hc0_3
 have HB:=Aside0.mk (Below.refl w.heap.size w)
 have H : (if a0_0 = 0 then (if ((a0_2.size : Int) % 2) = 0 then (if (l0_3.length : Int) > 0 then (impl_isReNode.j3 k true a0_0 a0_1 a0_2 l0_3) else (if a0_2.toList = ([] : List UInt8) then (impl_isReNode.j3 k (!a0_1) a0_0 a0_1 a0_2 l0_3) else (impl_isReNode.j3 k false a0_0 a0_1 a0_2 l0_3))) else (impl_isReNode.j3 k true a0_0 a0_1 a0_2 l0_3)) else (if a0_1 = true then (impl_isReNode.j0 k true a0_0 a0_1 a0_2 l0_3) else (impl_isReNode.j0 k (a0_2.toList != ([] : List UInt8)) a0_0 a0_1 a0_2 l0_3))) = some r:=h
 clear h
 by_cases c2 : a0_0 = 0
 ·rw [if_pos c2] at H
  have c2b0 : (a0_0 == 0) = true:=beq_iff_eq.mpr c2
  have c2b1 : (a0_0 != 0) = false:=bne_eq_false_iff_eq.mpr c2
  clear c2
  have HC3:=Aside0.mk H
  clear H
  go_enter Tryd.func74,Tryd.ntmps74
  go_upto_region 16 with (first|((with_reducible refine gate_dst (N:=1) rfl ?_);(try (refine gate_guard (by rfl) ?_;dsimp only));refine box_event ?hg (N:=1) ?hd (cs:=#[.int .i64 a0_0,.bool a0_1,.string a0_2,.slice A0_3 l0_3.length c0_3]) (t:=49) ?hr ?_;(case hd=>rfl);(case hg=>rfl);(case hr=>first|(go_simp;done)|(go_simp;rfl));intro gb101 hg w4 hbox hb;have n0_:=Aside0.mk (below_step (by repeat (first|(with_reducible first|exact HB.out|apply below_alloc|apply pw_below_drewN|apply below_drew1)|exact HB.out)) hb);have n1_:=Aside0.mk (hbox);have n2_:=Aside0.mk ((by rw [hg];exact (below_size (by repeat (first|(with_reducible first|exact HB.out|apply below_alloc|apply pw_below_drewN|apply below_drew1)|exact HB.out))) : w.heap.size ≤ gb101));have n3_:=Aside0.mk ((by rw [hg];exact (below_size (by repeat (first|(with_reducible first|exact HB.out|apply below_alloc|apply pw_below_drewN|apply below_drew1)|exact HB.out))) : w.heap.size ≤ gb101));clear HB;have HB:=n0_;have BK101:=n1_;have GW101:=n2_;have GE101:=n3_;clear n0_ n1_ n2_ n3_;clear hb hbox hg;have hcz5_0 : w4.cell? ⟨gb101,0,none⟩ = some (.int .i64 a0_0):=(blk_cell BK101.out 0).trans rfl;have hcz5_1 : w4.cell? ⟨gb101,1,none⟩ = some (.bool a0_1):=(blk_cell BK101.out 1).trans rfl;have hcz5_2 : w4.cell? ⟨gb101,2,none⟩ = some (.string a0_2):=(blk_cell BK101.out 2).trans rfl;have hcz5_3 : w4.cell? ⟨gb101,3,none⟩ = some (.slice A0_3 l0_3.length c0_3):=(blk_cell BK101.out 3).trans rfl;have hfz5_0:=blk_frozen BK101.out 0;have hfz5_1:=blk_frozen BK101.out 1;have hfz5_2:=blk_frozen BK101.out 2;have hfz5_3:=blk_frozen BK101.out 3))
  repeat (go_quiet (first|((with_reducible refine gate_dst (N:=1) rfl ?_);(try (refine gate_guard (by rfl) ?_;dsimp only));refine box_event ?hg (N:=1) ?hd (cs:=#[.int .i64 a0_0,.bool a0_1,.string a0_2,.slice A0_3 l0_3.length c0_3]) (t:=49) ?hr ?_;(case hd=>rfl);(case hg=>rfl);(case hr=>first|(go_simp;done)|(go_simp;rfl));intro gb101 hg w4 hbox hb;have n0_:=Aside0.mk (below_step (by repeat (first|(with_reducible first|exact HB.out|apply below_alloc|apply pw_below_drewN|apply below_drew1)|exact HB.out)) hb);have n1_:=Aside0.mk (hbox);have n2_:=Aside0.mk ((by rw [hg];exact (below_size (by repeat (first|(with_reducible first|exact HB.out|apply below_alloc|apply pw_below_drewN|apply below_drew1)|exact HB.out))) : w.heap.size ≤ gb101));have n3_:=Aside0.mk ((by rw [hg];exact (below_size (by repeat (first|(with_reducible first|exact HB.out|apply below_alloc|apply pw_below_drewN|apply below_drew1)|exact HB.out))) : w.heap.size ≤ gb101));clear HB;have HB:=n0_;have BK101:=n1_;have GW101:=n2_;have GE101:=n3_;clear n0_ n1_ n2_ n3_;clear hb hbox hg;have hcz5_0 : w4.cell? ⟨gb101,0,none⟩ = some (.int .i64 a0_0):=(blk_cell BK101.out 0).trans rfl;have hcz5_1 : w4.cell? ⟨gb101,1,none⟩ = some (.bool a0_1):=(blk_cell BK101.out 1).trans rfl;have hcz5_2 : w4.cell? ⟨gb101,2,none⟩ = some (.string a0_2):=(blk_cell BK101.out 2).trans rfl;have hcz5_3 : w4.cell? ⟨gb101,3,none⟩ = some (.slice A0_3 l0_3.length c0_3):=(blk_cell BK101.out 3).trans rfl;have hfz5_0:=blk_frozen BK101.out 0;have hfz5_1:=blk_frozen BK101.out 1;have hfz5_2:=blk_frozen BK101.out 2;have hfz5_3:=blk_frozen BK101.out 3));go_upto_region 16 with (first|((with_reducible refine gate_dst (N:=1) rfl ?_);(try (refine gate_guard (by rfl) ?_;dsimp only));refine box_event ?hg (N:=1) ?hd (cs:=#[.int .i64 a0_0,.bool a0_1,.string a0_2,.slice A0_3 l0_3.length c0_3]) (t:=49) ?hr ?_;(case hd=>rfl);(case hg=>rfl);(case hr=>first|(go_simp;done)|(go_simp;rfl));intro gb101 hg w4 hbox hb;have n0_:=Aside0.mk (below_step (by repeat (first|(with_reducible first|exact HB.out|apply below_alloc|apply pw_below_drewN|apply below_drew1)|exact HB.out)) hb);have n1_:=Aside0.mk (hbox);have n2_:=Aside0.mk ((by rw [hg];exact (below_size (by repeat (first|(with_reducible first|exact HB.out|apply below_alloc|apply pw_below_drewN|apply below_drew1)|exact HB.out))) : w.heap.size ≤ gb101));have n3_:=Aside0.mk ((by rw [hg];exact (below_size (by repeat (first|(with_reducible first|exact HB.out|apply below_alloc|apply pw_below_drewN|apply below_drew1)|exact HB.out))) : w.heap.size ≤ gb101));clear HB;have HB:=n0_;have BK101:=n1_;have GW101:=n2_;have GE101:=n3_;clear n0_ n1_ n2_ n3_;clear hb hbox hg;have hcz5_0 : w4.cell? ⟨gb101,0,none⟩ = some (.int .i64 a0_0):=(blk_cell BK101.out 0).trans rfl;have hcz5_1 : w4.cell? ⟨gb101,1,none⟩ = some (.bool a0_1):=(blk_cell BK101.out 1).trans rfl;have hcz5_2 : w4.cell? ⟨gb101,2,none⟩ = some (.string a0_2):=(blk_cell BK101.out 2).trans rfl;have hcz5_3 : w4.cell? ⟨gb101,3,none⟩ = some (.slice A0_3 l0_3.length c0_3):=(blk_cell BK101.out 3).trans rfl;have hfz5_0:=blk_frozen BK101.out 0;have hfz5_1:=blk_frozen BK101.out 1;have hfz5_2:=blk_frozen BK101.out 2;have hfz5_3:=blk_frozen BK101.out 3)))
  (try simp only [Act.put,List.setIfInBounds_toArray,List.set_cons_zero,List.set_cons_succ])
  go_cut [58] (fun v58 wc=>∃ (kq : Nat) (x58_2 : Bool),v58 = .bool x58_2 ∧ Aside0 (impl_isReNode.j3 kq x58_2 a0_0 a0_1 a0_2 l0_3 = some r) ∧ Aside0 (kq ≤ k) ∧ Aside0 (wc.heap[gb101]? = some (.cells #[.int .i64 a0_0,.bool a0_1,.string a0_2,(.slice A0_3 l0_3.length c0_3)] 49 (0,0))) ∧ Aside0 (Below w.heap.size w wc))
  case first =>
   have H:=HC3.out
   clear HC3
   by_cases c6 : ((a0_2.size : Int) % 2) = 0
   ·rw [if_pos c6] at H
    have c6b0 : (((a0_2.size : Int) % 2) == 0) = true:=beq_iff_eq.mpr c6
    have c6b1 : (((a0_2.size : Int) % 2) != 0) = false:=bne_eq_false_iff_eq.mpr c6
    clear c6
    (first|rw [c6b0]|(simp only [i64_w,i32_w];rw [c6b0])|skip)
    by_cases c7 : (l0_3.length : Int) > 0
    ·rw [if_pos c7] at H
     have c7b0 : decide (0 < (l0_3.length : Int)) = true:=decide_eq_true c7
     have c7b1 : decide (0 < l0_3.length) = true:=decide_eq_true (by omega)
     clear c7
     have H':=Aside0.mk H
     clear H
     have hcz8_0 : w4.cell? ⟨gb101,0,none⟩ = some (.int .i64 a0_0):=(blk_cell BK101.out 0).trans rfl
     have hcz8_1 : w4.cell? ⟨gb101,1,none⟩ = some (.bool a0_1):=(blk_cell BK101.out 1).trans rfl
     have hcz8_2 : w4.cell? ⟨gb101,2,none⟩ = some (.string a0_2):=(blk_cell BK101.out 2).trans rfl
     have hcz8_3 : w4.cell? ⟨gb101,3,none⟩ = some (.slice A0_3 l0_3.length c0_3):=(blk_cell BK101.out 3).trans rfl
     have hfz8_0:=blk_frozen BK101.out 0
     have hfz8_1:=blk_frozen BK101.out 1
     have hfz8_2:=blk_frozen BK101.out 2
     have hfz8_3:=blk_frozen BK101.out 3
     go_wp2
     repeat (go_quiet (fail);try go_wp2)
     go_meet
     case rel=>exact ⟨_,(true),(by first|rfl|(simp;done)|(simp [*];done)),H',⟨by first|omega|exact Nat.le_refl _⟩,⟨by (with_reducible repeat (first|refine blk_drewN ?_ _|refine blk_drew ?_|refine blk_alloc ?_ _));exact BK101.out⟩,⟨by repeat (first|(with_reducible first|exact HB.out|apply below_alloc|apply pw_below_drewN|apply below_drew1|refine below_set ?_ GE101.out)|exact HB.out)⟩⟩
    ·rw [if_neg c7] at H
     have c7b0 : decide (0 < (l0_3.length : Int)) = false:=decide_eq_false c7
     have c7b1 : decide (0 < l0_3.length) = false:=decide_eq_false (by omega)
     clear c7
     by_cases c9 : a0_2.toList = ([] : List UInt8)
     ·rw [if_pos c9] at H
      have c9b0 : (a0_2.toList == ([] : List UInt8)) = true:=beq_iff_eq.mpr c9
      have c9b1 : (a0_2.toList != ([] : List UInt8)) = false:=bne_eq_false_iff_eq.mpr c9
      clear c9
      have H':=Aside0.mk H
      clear H
      have hcz10_0 : w4.cell? ⟨gb101,0,none⟩ = some (.int .i64 a0_0):=(blk_cell BK101.out 0).trans rfl
      have hcz10_1 : w4.cell? ⟨gb101,1,none⟩ = some (.bool a0_1):=(blk_cell BK101.out 1).trans rfl
      have hcz10_2 : w4.cell? ⟨gb101,2,none⟩ = some (.string a0_2):=(blk_cell BK101.out 2).trans rfl
      have hcz10_3 : w4.cell? ⟨gb101,3,none⟩ = some (.slice A0_3 l0_3.length c0_3):=(blk_cell BK101.out 3).trans rfl
      have hfz10_0:=blk_frozen BK101.out 0
      have hfz10_1:=blk_frozen BK101.out 1
      have hfz10_2:=blk_frozen BK101.out 2
      have hfz10_3:=blk_frozen BK101.out 3
      go_wp2
      repeat (go_quiet (fail);try go_wp2)
      go_meet
      case rel=>exact ⟨_,(!a0_1),(by first|rfl|(simp;done)|(simp [*];done)),H',⟨by first|omega|exact Nat.le_refl _⟩,⟨by (with_reducible repeat (first|refine blk_drewN ?_ _|refine blk_drew ?_|refine blk_alloc ?_ _));exact BK101.out⟩,⟨by repeat (first|(with_reducible first|exact HB.out|apply below_alloc|apply pw_below_drewN|apply below_drew1|refine below_set ?_ GE101.out)|exact HB.out)⟩⟩
     ·rw [if_neg c9] at H
      have c9b0 : (a0_2.toList == ([] : List UInt8)) = false:=beq_eq_false_iff_ne.mpr c9
      have c9b1 : (a0_2.toList != ([] : List UInt8)) = true:=bne_iff_ne.mpr c9
      have H':=Aside0.mk H
      clear H
      have hcz11_0 : w4.cell? ⟨gb101,0,none⟩ = some (.int .i64 a0_0):=(blk_cell BK101.out 0).trans rfl
      have hcz11_1 : w4.cell? ⟨gb101,1,none⟩ = some (.bool a0_1):=(blk_cell BK101.out 1).trans rfl
      have hcz11_2 : w4.cell? ⟨gb101,2,none⟩ = some (.string a0_2):=(blk_cell BK101.out 2).trans rfl
      have hcz11_3 : w4.cell? ⟨gb101,3,none⟩ = some (.slice A0_3 l0_3.length c0_3):=(blk_cell BK101.out 3).trans rfl
      have hfz11_0:=blk_frozen BK101.out 0
      have hfz11_1:=blk_frozen BK101.out 1
      have hfz11_2:=blk_frozen BK101.out 2
      have hfz11_3:=blk_frozen BK101.out 3
      go_wp2
      repeat (go_quiet (fail);try go_wp2)
      go_meet
      case rel=>exact ⟨_,(false),(by first|rfl|(simp;done)|(simp [*];done)),H',⟨by first|omega|exact Nat.le_refl _⟩,⟨by (with_reducible repeat (first|refine blk_drewN ?_ _|refine blk_drew ?_|refine blk_alloc ?_ _));exact BK101.out⟩,⟨by repeat (first|(with_reducible first|exact HB.out|apply below_alloc|apply pw_below_drewN|apply below_drew1|refine below_set ?_ GE101.out)|exact HB.out)⟩⟩
   ·rw [if_neg c6] at H
    have c6b0 : (((a0_2.size : Int) % 2) == 0) = false:=beq_eq_false_iff_ne.mpr c6
    have c6b1 : (((a0_2.size : Int) % 2) != 0) = true:=bne_iff_ne.mpr c6
    (first|rw [c6b0]|(simp only [i64_w,i32_w];rw [c6b0])|skip)
    have H':=Aside0.mk H
    clear H
    have hcz12_0 : w4.cell? ⟨gb101,0,none⟩ = some (.int .i64 a0_0):=(blk_cell BK101.out 0).trans rfl
    have hcz12_1 : w4.cell? ⟨gb101,1,none⟩ = some (.bool a0_1):=(blk_cell BK101.out 1).trans rfl
    have hcz12_2 : w4.cell? ⟨gb101,2,none⟩ = some (.string a0_2):=(blk_cell BK101.out 2).trans rfl
    have hcz12_3 : w4.cell? ⟨gb101,3,none⟩ = some (.slice A0_3 l0_3.length c0_3):=(blk_cell BK101.out 3).trans rfl
    have hfz12_0:=blk_frozen BK101.out 0
    have hfz12_1:=blk_frozen BK101.out 1
    have hfz12_2:=blk_frozen BK101.out 2
    have hfz12_3:=blk_frozen BK101.out 3
    go_wp2
    repeat (go_quiet (fail);try go_wp2)
    go_meet
    case rel=>exact ⟨_,(true),(by first|rfl|(simp;done)|(simp [*];done)),H',⟨by first|omega|exact Nat.le_refl _⟩,⟨by (with_reducible repeat (first|refine blk_drewN ?_ _|refine blk_drew ?_|refine blk_alloc ?_ _));exact BK101.out⟩,⟨by repeat (first|(with_reducible first|exact HB.out|apply below_alloc|apply pw_below_drewN|apply below_drew1|refine below_set ?_ GE101.out)|exact HB.out)⟩⟩
  case rest =>
   clear HC3
   try clear c2
   try clear c2b0
   try clear c2b1
   try clear p2
   try clear c6
   try clear c6b0
   try clear c6b1
   try clear c7
   try clear c7b0
   try clear c7b1
   try clear c9
   try clear c9b0
   try clear c9b1
   try clear hcz10_0
   try clear hcz10_1
   try clear hcz10_2
   try clear hcz10_3
   try clear hcz11_0
   try clear hcz11_1
   try clear hcz11_2
   try clear hcz11_3
   try clear hcz12_0
   try clear hcz12_1
   try clear hcz12_2
   try clear hcz12_3
   try clear hcz5_0
   try clear hcz5_1
   try clear hcz5_2
   try clear hcz5_3
   try clear hcz8_0
   try clear hcz8_1
   try clear hcz8_2
   try clear hcz8_3
   try clear hfz10_0
   try clear hfz10_1
   try clear hfz10_2
   try clear hfz10_3
   try clear hfz11_0
   try clear hfz11_1
   try clear hfz11_2
   try clear hfz11_3
   try clear hfz12_0
   try clear hfz12_1
   try clear hfz12_2
   try clear hfz12_3
   try clear hfz5_0
   try clear hfz5_1
   try clear hfz5_2
   try clear hfz5_3
   try clear hfz8_0
   try clear hfz8_1
   try clear hfz8_2
   try clear hfz8_3
   obtain ⟨kq,x58_2,rfl,HA,HJ2,BK101,HB⟩:=hcut
   cases kq with
   | zero=>exact absurd HA.out (by simp [impl_isReNode.j3])
   | succ kj2 =>
    have H:=HA.out
    clear HA
    simp only [impl_isReNode.j3] at H
    by_cases c13 : x58_2 = true
    ·subst c13
     have H1 : (some false) = some r:=by rw [if_pos rfl] at H;exact H
     clear H
     have H:=H1
     clear H1
     obtain rfl:=Option.some.inj H
     go_wp2
     repeat (go_quiet (fail);try go_wp2)
     go_ret
     exact ⟨by first|rfl|(simp [errW_none,errW_some] <;> rfl)|(simp [*,errW_none,errW_some] <;> rfl)|(congr 2;generalize ByteArray.toList _ = l_;cases l_ <;> rfl),by repeat (first|(with_reducible first|exact HB.out|apply below_alloc|apply pw_below_drewN|apply below_drew1|refine below_set ?_ GE101.out)|exact HB.out)⟩
    ·replace c13:=Bool.eq_false_iff.mpr c13
     subst c13
     have H1 : (impl_isReNode.l0 kj2 0 a0_0 a0_1 a0_2 l0_3) = some r:=by rw [if_neg (show ¬ (false = true) by decide)] at H;exact H
     clear H
     have H:=H1
     clear H1
     have H':=Aside0.mk H
     clear H
     go_wp2
     repeat (go_quiet (fail);try go_wp2)
     go_loopg [3] kj2 (fun kq v3 w'=>∃ (x3_2 : Int),v3 = .int .i64 x3_2 ∧ Aside0 (impl_isReNode.l0 kq x3_2 a0_0 a0_1 a0_2 l0_3 = some r) ∧ Aside0 (kq ≤ kj2) ∧ Aside0 (w'.heap[gb101]? = some (.cells #[.int .i64 a0_0,.bool a0_1,.string a0_2,(.slice A0_3 l0_3.length c0_3)] 49 (0,0))) ∧ Aside0 (Below w.heap.size w w'))
     case atStart=>exact ⟨(0),(by first|rfl|(simp;done)|(simp [*];done)),H',⟨Nat.le_refl _⟩,⟨by (with_reducible repeat (first|refine blk_drewN ?_ _|refine blk_drew ?_|refine blk_alloc ?_ _));exact BK101.out⟩,⟨by repeat (first|(with_reducible first|exact HB.out|apply below_alloc|apply pw_below_drewN|apply below_drew1|refine below_set ?_ GE101.out)|exact HB.out)⟩⟩
     case round =>
      clear H'
      try clear c1
      try clear c2
      try clear c2b0
      try clear c2b1
      try clear p2
      try clear c6
      try clear c6b0
      try clear c6b1
      try clear c7
      try clear c7b0
      try clear c7b1
      try clear c9
      try clear c9b0
      try clear c9b1
      try clear c13
      try clear hcz10_0
      try clear hcz10_1
      try clear hcz10_2
      try clear hcz10_3
      try clear hcz11_0
      try clear hcz11_1
      try clear hcz11_2
      try clear hcz11_3
      try clear hcz12_0
      try clear hcz12_1
      try clear hcz12_2
      try clear hcz12_3
      try clear hcz5_0
      try clear hcz5_1
      try clear hcz5_2
      try clear hcz5_3
      try clear hcz8_0
      try clear hcz8_1
      try clear hcz8_2
      try clear hcz8_3
      try clear hfz10_0
      try clear hfz10_1
      try clear hfz10_2
      try clear hfz10_3
      try clear hfz11_0
      try clear hfz11_1
      try clear hfz11_2
      try clear hfz11_3
      try clear hfz12_0
      try clear hfz12_1
      try clear hfz12_2
      try clear hfz12_3
      try clear hfz5_0
      try clear hfz5_1
      try clear hfz5_2
      try clear hfz5_3
      try clear hfz8_0
      try clear hfz8_1
      try clear hfz8_2
      try clear hfz8_3
      try clear p2
      obtain ⟨x3_2,rfl,HA,HK2,BK101,HB⟩:=hrel
      cases gk with
      | zero=>exact absurd HA.out (by simp [impl_isReNode.l0])
      | succ k2 =>
       have H:=HA.out
       clear HA
       simp only [impl_isReNode.l0] at H
       by_cases c14 : x3_2 < (a0_2.size : Int)
       ·rw [if_pos c14] at H
        have c14b0 : decide (x3_2 < (a0_2.size : Int)) = true:=decide_eq_true c14
        clear c14
        obtain ⟨ji15,hji15⟩ : ∃ j_ : Int,(wrap64 (x3_2 + 1)) = j_:=⟨_,rfl⟩
        replace H : (if 0 ≤ (ji15) then (if (ji15) < (a0_2.size : Int) then (if 0 ≤ x3_2 then (if (bt a0_2 (ji15)) < (bt a0_2 x3_2) then (some false) else (impl_isReNode.l0 k2 (wrap64 (x3_2 + 2)) a0_0 a0_1 a0_2 l0_3)) else (none)) else (none)) else (none)) = some r:=by first|(rw [hji15] at H;exact H)|(simp only [hji15] at H ⊢;exact H)
        have hji15w : (IntKind.i64.wrap (x3_2 + 1)) = ji15:=(i64_w _).trans hji15
        by_cases c16 : 0 ≤ (ji15)
        ·rw [if_pos c16] at H
         have c16b0 : decide (0 ≤ (ji15)) = true:=decide_eq_true c16
         clear c16
         by_cases c17 : (ji15) < (a0_2.size : Int)
         ·rw [if_pos c17] at H
          have c17b0 : decide ((ji15) < (a0_2.size : Int)) = true:=decide_eq_true c17
          clear c17
          by_cases c19 : 0 ≤ x3_2
          ·rw [if_pos c19] at H
           have c19b0 : decide (0 ≤ x3_2) = true:=decide_eq_true c19
           clear c19
           by_cases c21 : (bt a0_2 (ji15)) < (bt a0_2 x3_2)
           ·rw [if_pos c21] at H
            have c21b0 : decide ((bt a0_2 (ji15)) < (bt a0_2 x3_2)) = true:=decide_eq_true c21
            clear c21
            obtain rfl:=Option.some.inj H
            have hcz22_0 : wr.cell? ⟨gb101,0,none⟩ = some (.int .i64 a0_0):=(blk_cell BK101.out 0).trans rfl
            have hcz22_1 : wr.cell? ⟨gb101,1,none⟩ = some (.bool a0_1):=(blk_cell BK101.out 1).trans rfl
            have hcz22_2 : wr.cell? ⟨gb101,2,none⟩ = some (.string a0_2):=(blk_cell BK101.out 2).trans rfl
            have hcz22_3 : wr.cell? ⟨gb101,3,none⟩ = some (.slice A0_3 l0_3.length c0_3):=(blk_cell BK101.out 3).trans rfl
            have hfz22_0:=blk_frozen BK101.out 0
            have hfz22_1:=blk_frozen BK101.out 1
            have hfz22_2:=blk_frozen BK101.out 2
            have hfz22_3:=blk_frozen BK101.out 3
            have p18 : 0 ≤ ((ji15) : Int):=of_decide_eq_true (by first|(with_reducible assumption)|assumption)
            have q18 : (ji15) < (a0_2.size : Int):=of_decide_eq_true (by first|(with_reducible assumption)|assumption)
            have hx18:=bt_at a0_2 (ji15)
            replace p18:=eq_true p18
            replace q18:=eq_true q18
            have p20 : 0 ≤ (x3_2 : Int):=of_decide_eq_true (by first|(with_reducible assumption)|assumption)
            have q20 : x3_2 < (a0_2.size : Int):=of_decide_eq_true (by first|(with_reducible assumption)|assumption)
            have hx20:=bt_at a0_2 x3_2
            replace p20:=eq_true p20
            replace q20:=eq_true q20
            go_wp2
            repeat (go_quiet (fail);try go_wp2)
            go_ret
            exact ⟨by first|rfl|(simp [errW_none,errW_some] <;> rfl)|(simp only [← hji15];first|rfl|(simp [errW_none,errW_some] <;> rfl))|(simp [*,errW_none,errW_some] <;> rfl)|(congr 2;generalize ByteArray.toList _ = l_;cases l_ <;> rfl),by repeat (first|(with_reducible first|exact HB.out|apply below_alloc|apply pw_below_drewN|apply below_drew1|refine below_set ?_ GE101.out)|exact HB.out)⟩
           ·rw [if_neg c21] at H
            have c21b0 : decide ((bt a0_2 (ji15)) < (bt a0_2 x3_2)) = false:=decide_eq_false c21
            clear c21
            have H':=Aside0.mk H
            clear H
            have hcz23_0 : wr.cell? ⟨gb101,0,none⟩ = some (.int .i64 a0_0):=(blk_cell BK101.out 0).trans rfl
            have hcz23_1 : wr.cell? ⟨gb101,1,none⟩ = some (.bool a0_1):=(blk_cell BK101.out 1).trans rfl
            have hcz23_2 : wr.cell? ⟨gb101,2,none⟩ = some (.string a0_2):=(blk_cell BK101.out 2).trans rfl
            have hcz23_3 : wr.cell? ⟨gb101,3,none⟩ = some (.slice A0_3 l0_3.length c0_3):=(blk_cell BK101.out 3).trans rfl
            have hfz23_0:=blk_frozen BK101.out 0
            have hfz23_1:=blk_frozen BK101.out 1
            have hfz23_2:=blk_frozen BK101.out 2
            have hfz23_3:=blk_frozen BK101.out 3
            have p18 : 0 ≤ ((ji15) : Int):=of_decide_eq_true (by first|(with_reducible assumption)|assumption)
            have q18 : (ji15) < (a0_2.size : Int):=of_decide_eq_true (by first|(with_reducible assumption)|assumption)
            have hx18:=bt_at a0_2 (ji15)
            replace p18:=eq_true p18
            replace q18:=eq_true q18
            have p20 : 0 ≤ (x3_2 : Int):=of_decide_eq_true (by first|(with_reducible assumption)|assumption)
            have q20 : x3_2 < (a0_2.size : Int):=of_decide_eq_true (by first|(with_reducible assumption)|assumption)
            have hx20:=bt_at a0_2 x3_2
            replace p20:=eq_true p20
            replace q20:=eq_true q20
            go_wp2
            repeat (go_quiet (fail);try go_wp2)
            go_roundg k2
            case measure=>have:=HJ2.out;have:=HK2.out;omega
            case rel=>exact ⟨(wrap64 (x3_2 + 2)),(by first|rfl|(simp;done)|(simp [*];done)),H',⟨by have:=HJ2.out;have:=HK2.out;omega⟩,⟨by (with_reducible repeat (first|refine blk_drewN ?_ _|refine blk_drew ?_|refine blk_alloc ?_ _));exact BK101.out⟩,⟨by repeat (first|(with_reducible first|exact HB.out|apply below_alloc|apply pw_below_drewN|apply below_drew1|refine below_set ?_ GE101.out)|exact HB.out)⟩⟩
          ·rw [if_neg c19] at H
           exact absurd H (by simp)
         ·rw [if_neg c17] at H
          exact absurd H (by simp)
        ·rw [if_neg c16] at H
         exact absurd H (by simp)
       ·rw [if_neg c14] at H
        have c14b0 : decide (x3_2 < (a0_2.size : Int)) = false:=decide_eq_false c14
        clear c14
        obtain rfl:=Option.some.inj H
        have hcz24_0 : wr.cell? ⟨gb101,0,none⟩ = some (.int .i64 a0_0):=(blk_cell BK101.out 0).trans rfl
        have hcz24_1 : wr.cell? ⟨gb101,1,none⟩ = some (.bool a0_1):=(blk_cell BK101.out 1).trans rfl
        have hcz24_2 : wr.cell? ⟨gb101,2,none⟩ = some (.string a0_2):=(blk_cell BK101.out 2).trans rfl
        have hcz24_3 : wr.cell? ⟨gb101,3,none⟩ = some (.slice A0_3 l0_3.length c0_3):=(blk_cell BK101.out 3).trans rfl
        have hfz24_0:=blk_frozen BK101.out 0
        have hfz24_1:=blk_frozen BK101.out 1
        have hfz24_2:=blk_frozen BK101.out 2
        have hfz24_3:=blk_frozen BK101.out 3
        go_wp2
        repeat (go_quiet (fail);try go_wp2)
        go_ret
        exact ⟨by first|rfl|(simp [errW_none,errW_some] <;> rfl)|(simp [*,errW_none,errW_some] <;> rfl)|(congr 2;generalize ByteArray.toList _ = l_;cases l_ <;> rfl),by repeat (first|(with_reducible first|exact HB.out|apply below_alloc|apply pw_below_drewN|apply below_drew1|refine below_set ?_ GE101.out)|exact HB.out)⟩
 ·rw [if_neg c2] at H
  have c2b0 : (a0_0 == 0) = false:=beq_eq_false_iff_ne.mpr c2
  have c2b1 : (a0_0 != 0) = true:=bne_iff_ne.mpr c2
  have HC25:=Aside0.mk H
  clear H
  go_enter Tryd.func74,Tryd.ntmps74
  go_upto_region 2 with (first|((with_reducible refine gate_dst (N:=1) rfl ?_);(try (refine gate_guard (by rfl) ?_;dsimp only));refine box_event ?hg (N:=1) ?hd (cs:=#[.int .i64 a0_0,.bool a0_1,.string a0_2,.slice A0_3 l0_3.length c0_3]) (t:=49) ?hr ?_;(case hd=>rfl);(case hg=>rfl);(case hr=>first|(go_simp;done)|(go_simp;rfl));intro gb101 hg w26 hbox hb;have n0_:=Aside0.mk (below_step (by repeat (first|(with_reducible first|exact HB.out|apply below_alloc|apply pw_below_drewN|apply below_drew1)|exact HB.out)) hb);have n1_:=Aside0.mk (hbox);have n2_:=Aside0.mk ((by rw [hg];exact (below_size (by repeat (first|(with_reducible first|exact HB.out|apply below_alloc|apply pw_below_drewN|apply below_drew1)|exact HB.out))) : w.heap.size ≤ gb101));have n3_:=Aside0.mk ((by rw [hg];exact (below_size (by repeat (first|(with_reducible first|exact HB.out|apply below_alloc|apply pw_below_drewN|apply below_drew1)|exact HB.out))) : w.heap.size ≤ gb101));clear HB;have HB:=n0_;have BK101:=n1_;have GW101:=n2_;have GE101:=n3_;clear n0_ n1_ n2_ n3_;clear hb hbox hg;have hcz27_0 : w26.cell? ⟨gb101,0,none⟩ = some (.int .i64 a0_0):=(blk_cell BK101.out 0).trans rfl;have hcz27_1 : w26.cell? ⟨gb101,1,none⟩ = some (.bool a0_1):=(blk_cell BK101.out 1).trans rfl;have hcz27_2 : w26.cell? ⟨gb101,2,none⟩ = some (.string a0_2):=(blk_cell BK101.out 2).trans rfl;have hcz27_3 : w26.cell? ⟨gb101,3,none⟩ = some (.slice A0_3 l0_3.length c0_3):=(blk_cell BK101.out 3).trans rfl;have hfz27_0:=blk_frozen BK101.out 0;have hfz27_1:=blk_frozen BK101.out 1;have hfz27_2:=blk_frozen BK101.out 2;have hfz27_3:=blk_frozen BK101.out 3))
  repeat (go_quiet (first|((with_reducible refine gate_dst (N:=1) rfl ?_);(try (refine gate_guard (by rfl) ?_;dsimp only));refine box_event ?hg (N:=1) ?hd (cs:=#[.int .i64 a0_0,.bool a0_1,.string a0_2,.slice A0_3 l0_3.length c0_3]) (t:=49) ?hr ?_;(case hd=>rfl);(case hg=>rfl);(case hr=>first|(go_simp;done)|(go_simp;rfl));intro gb101 hg w26 hbox hb;have n0_:=Aside0.mk (below_step (by repeat (first|(with_reducible first|exact HB.out|apply below_alloc|apply pw_below_drewN|apply below_drew1)|exact HB.out)) hb);have n1_:=Aside0.mk (hbox);have n2_:=Aside0.mk ((by rw [hg];exact (below_size (by repeat (first|(with_reducible first|exact HB.out|apply below_alloc|apply pw_below_drewN|apply below_drew1)|exact HB.out))) : w.heap.size ≤ gb101));have n3_:=Aside0.mk ((by rw [hg];exact (below_size (by repeat (first|(with_reducible first|exact HB.out|apply below_alloc|apply pw_below_drewN|apply below_drew1)|exact HB.out))) : w.heap.size ≤ gb101));clear HB;have HB:=n0_;have BK101:=n1_;have GW101:=n2_;have GE101:=n3_;clear n0_ n1_ n2_ n3_;clear hb hbox hg;have hcz27_0 : w26.cell? ⟨gb101,0,none⟩ = some (.int .i64 a0_0):=(blk_cell BK101.out 0).trans rfl;have hcz27_1 : w26.cell? ⟨gb101,1,none⟩ = some (.bool a0_1):=(blk_cell BK101.out 1).trans rfl;have hcz27_2 : w26.cell? ⟨gb101,2,none⟩ = some (.string a0_2):=(blk_cell BK101.out 2).trans rfl;have hcz27_3 : w26.cell? ⟨gb101,3,none⟩ = some (.slice A0_3 l0_3.length c0_3):=(blk_cell BK101.out 3).trans rfl;have hfz27_0:=blk_frozen BK101.out 0;have hfz27_1:=blk_frozen BK101.out 1;have hfz27_2:=blk_frozen BK101.out 2;have hfz27_3:=blk_frozen BK101.out 3));go_upto_region 2 with (first|((with_reducible refine gate_dst (N:=1) rfl ?_);(try (refine gate_guard (by rfl) ?_;dsimp only));refine box_event ?hg (N:=1) ?hd (cs:=#[.int .i64 a0_0,.bool a0_1,.string a0_2,.slice A0_3 l0_3.length c0_3]) (t:=49) ?hr ?_;(case hd=>rfl);(case hg=>rfl);(case hr=>first|(go_simp;done)|(go_simp;rfl));intro gb101 hg w26 hbox hb;have n0_:=Aside0.mk (below_step (by repeat (first|(with_reducible first|exact HB.out|apply below_alloc|apply pw_below_drewN|apply below_drew1)|exact HB.out)) hb);have n1_:=Aside0.mk (hbox);have n2_:=Aside0.mk ((by rw [hg];exact (below_size (by repeat (first|(with_reducible first|exact HB.out|apply below_alloc|apply pw_below_drewN|apply below_drew1)|exact HB.out))) : w.heap.size ≤ gb101));have n3_:=Aside0.mk ((by rw [hg];exact (below_size (by repeat (first|(with_reducible first|exact HB.out|apply below_alloc|apply pw_below_drewN|apply below_drew1)|exact HB.out))) : w.heap.size ≤ gb101));clear HB;have HB:=n0_;have BK101:=n1_;have GW101:=n2_;have GE101:=n3_;clear n0_ n1_ n2_ n3_;clear hb hbox hg;have hcz27_0 : w26.cell? ⟨gb101,0,none⟩ = some (.int .i64 a0_0):=(blk_cell BK101.out 0).trans rfl;have hcz27_1 : w26.cell? ⟨gb101,1,none⟩ = some (.bool a0_1):=(blk_cell BK101.out 1).trans rfl;have hcz27_2 : w26.cell? ⟨gb101,2,none⟩ = some (.string a0_2):=(blk_cell BK101.out 2).trans rfl;have hcz27_3 : w26.cell? ⟨gb101,3,none⟩ = some (.slice A0_3 l0_3.length c0_3):=(blk_cell BK101.out 3).trans rfl;have hfz27_0:=blk_frozen BK101.out 0;have hfz27_1:=blk_frozen BK101.out 1;have hfz27_2:=blk_frozen BK101.out 2;have hfz27_3:=blk_frozen BK101.out 3)))
  (try simp only [Act.put,List.setIfInBounds_toArray,List.set_cons_zero,List.set_cons_succ])
  go_cut [13] (fun v13 wc=>∃ (kq : Nat) (x13_24 : Bool),v13 = .bool x13_24 ∧ Aside0 (impl_isReNode.j0 kq x13_24 a0_0 a0_1 a0_2 l0_3 = some r) ∧ Aside0 (kq ≤ k) ∧ Aside0 (wc.heap[gb101]? = some (.cells #[.int .i64 a0_0,.bool a0_1,.string a0_2,(.slice A0_3 l0_3.length c0_3)] 49 (0,0))) ∧ Aside0 (Below w.heap.size w wc))
  case first =>
   have H:=HC25.out
   clear HC25
   by_cases c28 : a0_1 = true
   ·subst c28
    have H1 : (impl_isReNode.j0 k true a0_0 true a0_2 l0_3) = some r:=by rw [if_pos rfl] at H;exact H
    clear H
    have H:=H1
    clear H1
    have H':=Aside0.mk H
    clear H
    have hcz29_0 : w26.cell? ⟨gb101,0,none⟩ = some (.int .i64 a0_0):=(blk_cell BK101.out 0).trans rfl
    have hcz29_1 : w26.cell? ⟨gb101,1,none⟩ = some (.bool true):=(blk_cell BK101.out 1).trans rfl
    have hcz29_2 : w26.cell? ⟨gb101,2,none⟩ = some (.string a0_2):=(blk_cell BK101.out 2).trans rfl
    have hcz29_3 : w26.cell? ⟨gb101,3,none⟩ = some (.slice A0_3 l0_3.length c0_3):=(blk_cell BK101.out 3).trans rfl
    have hfz29_0:=blk_frozen BK101.out 0
    have hfz29_1:=blk_frozen BK101.out 1
    have hfz29_2:=blk_frozen BK101.out 2
    have hfz29_3:=blk_frozen BK101.out 3
    go_wp2
    repeat (go_quiet (fail);try go_wp2)
    go_meet
    case rel=>exact ⟨_,(true),(by first|rfl|(simp;done)|(simp [*];done)),H',⟨by first|omega|exact Nat.le_refl _⟩,⟨by (with_reducible repeat (first|refine blk_drewN ?_ _|refine blk_drew ?_|refine blk_alloc ?_ _));exact BK101.out⟩,⟨by repeat (first|(with_reducible first|exact HB.out|apply below_alloc|apply pw_below_drewN|apply below_drew1|refine below_set ?_ GE101.out)|exact HB.out)⟩⟩
   ·replace c28:=Bool.eq_false_iff.mpr c28
    subst c28
    have H1 : (impl_isReNode.j0 k (a0_2.toList != ([] : List UInt8)) a0_0 false a0_2 l0_3) = some r:=by rw [if_neg (show ¬ (false = true) by decide)] at H;exact H
    clear H
    have H:=H1
    clear H1
    have H':=Aside0.mk H
    clear H
    have hcz30_0 : w26.cell? ⟨gb101,0,none⟩ = some (.int .i64 a0_0):=(blk_cell BK101.out 0).trans rfl
    have hcz30_1 : w26.cell? ⟨gb101,1,none⟩ = some (.bool false):=(blk_cell BK101.out 1).trans rfl
    have hcz30_2 : w26.cell? ⟨gb101,2,none⟩ = some (.string a0_2):=(blk_cell BK101.out 2).trans rfl
    have hcz30_3 : w26.cell? ⟨gb101,3,none⟩ = some (.slice A0_3 l0_3.length c0_3):=(blk_cell BK101.out 3).trans rfl
    have hfz30_0:=blk_frozen BK101.out 0
    have hfz30_1:=blk_frozen BK101.out 1
    have hfz30_2:=blk_frozen BK101.out 2
    have hfz30_3:=blk_frozen BK101.out 3
    go_wp2
    repeat (go_quiet (fail);try go_wp2)
    go_meet
    case rel=>exact ⟨_,((a0_2.toList != ([] : List UInt8))),(by first|rfl|(simp;done)|(simp [*];done)|(congr 1;generalize ByteArray.toList _ = l_;cases l_ <;> rfl)|(generalize ByteArray.toList _ = l_;cases l_ <;> rfl)),H',⟨by first|omega|exact Nat.le_refl _⟩,⟨by (with_reducible repeat (first|refine blk_drewN ?_ _|refine blk_drew ?_|refine blk_alloc ?_ _));exact BK101.out⟩,⟨by repeat (first|(with_reducible first|exact HB.out|apply below_alloc|apply pw_below_drewN|apply below_drew1|refine below_set ?_ GE101.out)|exact HB.out)⟩⟩
  case rest =>
   clear HC25
   try clear c1
   try clear p1
   try clear q1
   try clear hx1
   try clear c2
   try clear c2b0
   try clear c2b1
   try clear p2
   try clear q2
   try clear hx2
   try clear c6
   try clear c6b0
   try clear c6b1
   try clear p6
   try clear c7
   try clear c7b0
   try clear c7b1
   try clear c9
   try clear c9b0
   try clear c9b1
   try clear c13
   try clear c14
   try clear c14b0
   try clear c16
   try clear c16b0
   try clear c17
   try clear c17b0
   try clear p18
   try clear q18
   try clear hx18
   try clear c19
   try clear c19b0
   try clear p20
   try clear q20
   try clear hx20
   try clear c21
   try clear c21b0
   try clear c28
   try clear hcz10_0
   try clear hcz10_1
   try clear hcz10_2
   try clear hcz10_3
   try clear hcz11_0
   try clear hcz11_1
   try clear hcz11_2
   try clear hcz11_3
   try clear hcz12_0
   try clear hcz12_1
   try clear hcz12_2
   try clear hcz12_3
   try clear hcz22_0
   try clear hcz22_1
   try clear hcz22_2
   try clear hcz22_3
   try clear hcz23_0
   try clear hcz23_1
   try clear hcz23_2
   try clear hcz23_3
   try clear hcz24_0
   try clear hcz24_1
   try clear hcz24_2
   try clear hcz24_3
   try clear hcz27_0
   try clear hcz27_1
   try clear hcz27_2
   try clear hcz27_3
   try clear hcz29_0
   try clear hcz29_1
   try clear hcz29_2
   try clear hcz29_3
   try clear hcz30_0
   try clear hcz30_1
   try clear hcz30_2
   try clear hcz30_3
   try clear hcz5_0
   try clear hcz5_1
   try clear hcz5_2
   try clear hcz5_3
   try clear hcz8_0
   try clear hcz8_1
   try clear hcz8_2
   try clear hcz8_3
   try clear hfz10_0
   try clear hfz10_1
   try clear hfz10_2
   try clear hfz10_3
   try clear hfz11_0
   try clear hfz11_1
   try clear hfz11_2
   try clear hfz11_3
   try clear hfz12_0
   try clear hfz12_1
   try clear hfz12_2
   try clear hfz12_3
   try clear hfz22_0
   try clear hfz22_1
   try clear hfz22_2
   try clear hfz22_3
   try clear hfz23_0
   try clear hfz23_1
   try clear hfz23_2
   try clear hfz23_3
   try clear hfz24_0
   try clear hfz24_1
   try clear hfz24_2
   try clear hfz24_3
   try clear hfz27_0
   try clear hfz27_1
   try clear hfz27_2
   try clear hfz27_3
   try clear hfz29_0
   try clear hfz29_1
   try clear hfz29_2
   try clear hfz29_3
   try clear hfz30_0
   try clear hfz30_1
   try clear hfz30_2
   try clear hfz30_3
   try clear hfz5_0
   try clear hfz5_1
   try clear hfz5_2
   try clear hfz5_3
   try clear hfz8_0
   try clear hfz8_1
   try clear hfz8_2
   try clear hfz8_3
   try clear p18
   try clear p2
   try clear p20
   try clear q18
   try clear q20
   obtain ⟨kq,x13_24,rfl,HA,HJ24,BK101,HB⟩:=hcut
   cases kq with
   | zero=>exact absurd HA.out (by simp [impl_isReNode.j0])
   | succ kj24 =>
    have H:=HA.out
    clear HA
    simp only [impl_isReNode.j0] at H
    by_cases c31 : x13_24 = true
    ·subst c31
     have H1 : (some false) = some r:=by rw [if_pos rfl] at H;exact H
     clear H
     have H:=H1
     clear H1
     obtain rfl:=Option.some.inj H
     go_wp2
     repeat (go_quiet (fail);try go_wp2)
     go_ret
     exact ⟨by first|rfl|(simp [errW_none,errW_some] <;> rfl)|(simp [*,errW_none,errW_some] <;> rfl)|(congr 2;generalize ByteArray.toList _ = l_;cases l_ <;> rfl),by repeat (first|(with_reducible first|exact HB.out|apply below_alloc|apply pw_below_drewN|apply below_drew1|refine below_set ?_ GE101.out)|exact HB.out)⟩
    ·replace c31:=Bool.eq_false_iff.mpr c31
     subst c31
     have H1 : (if a0_0 = 1 then (impl_isReNode.j1 kj24 a0_0 (a0_0 == 1) a0_0 a0_1 a0_2 l0_3) else (impl_isReNode.j1 kj24 a0_0 (a0_0 == 2) a0_0 a0_1 a0_2 l0_3)) = some r:=by rw [if_neg (show ¬ (false = true) by decide)] at H;exact H
     clear H
     have H:=H1
     clear H1
     have HC32:=Aside0.mk H
     clear H
     have hcz33_0 : wc.cell? ⟨gb101,0,none⟩ = some (.int .i64 a0_0):=(blk_cell BK101.out 0).trans rfl
     have hcz33_1 : wc.cell? ⟨gb101,1,none⟩ = some (.bool a0_1):=(blk_cell BK101.out 1).trans rfl
     have hcz33_2 : wc.cell? ⟨gb101,2,none⟩ = some (.string a0_2):=(blk_cell BK101.out 2).trans rfl
     have hcz33_3 : wc.cell? ⟨gb101,3,none⟩ = some (.slice A0_3 l0_3.length c0_3):=(blk_cell BK101.out 3).trans rfl
     have hfz33_0:=blk_frozen BK101.out 0
     have hfz33_1:=blk_frozen BK101.out 1
     have hfz33_2:=blk_frozen BK101.out 2
     have hfz33_3:=blk_frozen BK101.out 3
     go_upto_if 16 with (fail)
     repeat (go_quiet (fail);go_upto_if 16 with (fail))
     go_cut [16] (fun v16 wc=>∃ (kq : Nat) (x16_31 : Bool),v16 = .bool x16_31 ∧ Aside0 (impl_isReNode.j1 kq a0_0 x16_31 a0_0 a0_1 a0_2 l0_3 = some r) ∧ Aside0 (kq ≤ kj24) ∧ Aside0 (wc.heap[gb101]? = some (.cells #[.int .i64 a0_0,.bool a0_1,.string a0_2,(.slice A0_3 l0_3.length c0_3)] 49 (0,0))) ∧ Aside0 (Below w.heap.size w wc))
     case first =>
      have H:=HC32.out
      clear HC32
      by_cases c34 : a0_0 = 1
      ·rw [if_pos c34] at H
       have c34b0 : (a0_0 == 1) = true:=beq_iff_eq.mpr c34
       have c34b1 : (a0_0 != 1) = false:=bne_eq_false_iff_eq.mpr c34
       clear c34
       (first|rw [c34b0]|(simp only [i64_w,i32_w];rw [c34b0])|skip)
       have H':=Aside0.mk H
       clear H
       go_wp2
       repeat (go_quiet (fail);try go_wp2)
       go_meet
       case rel=>exact ⟨_,((a0_0 == 1)),(by first|rfl|(simp;done)|(simp [*];done)),H',⟨by have:=HJ24.out;first|omega|exact Nat.le_refl _⟩,⟨by (with_reducible repeat (first|refine blk_drewN ?_ _|refine blk_drew ?_|refine blk_alloc ?_ _));exact BK101.out⟩,⟨by repeat (first|(with_reducible first|exact HB.out|apply below_alloc|apply pw_below_drewN|apply below_drew1|refine below_set ?_ GE101.out)|exact HB.out)⟩⟩
      ·rw [if_neg c34] at H
       have c34b0 : (a0_0 == 1) = false:=beq_eq_false_iff_ne.mpr c34
       have c34b1 : (a0_0 != 1) = true:=bne_iff_ne.mpr c34
       (first|rw [c34b0]|(simp only [i64_w,i32_w];rw [c34b0])|skip)
       have H':=Aside0.mk H
       clear H
       go_wp2
       repeat (go_quiet (fail);try go_wp2)
       go_meet
       case rel=>exact ⟨_,((a0_0 == 2)),(by first|rfl|(simp;done)|(simp [*];done)),H',⟨by have:=HJ24.out;first|omega|exact Nat.le_refl _⟩,⟨by (with_reducible repeat (first|refine blk_drewN ?_ _|refine blk_drew ?_|refine blk_alloc ?_ _));exact BK101.out⟩,⟨by repeat (first|(with_reducible first|exact HB.out|apply below_alloc|apply pw_below_drewN|apply below_drew1|refine below_set ?_ GE101.out)|exact HB.out)⟩⟩
     case rest =>
      clear HC32
      try clear c1
      try clear p1
      try clear q1
      try clear hx1
      try clear c2
      try clear c2b0
      try clear c2b1
      try clear p2
      try clear q2
      try clear hx2
      try clear c3
      try clear c6
      try clear c6b0
      try clear c6b1
      try clear p6
      try clear c7
      try clear c7b0
      try clear c7b1
      try clear c9
      try clear c9b0
      try clear c9b1
      try clear c13
      try clear c14
      try clear c14b0
      try clear c16
      try clear c16b0
      try clear c17
      try clear c17b0
      try clear p18
      try clear q18
      try clear hx18
      try clear c19
      try clear c19b0
      try clear p20
      try clear q20
      try clear hx20
      try clear c21
      try clear c21b0
      try clear c28
      try clear c31
      try clear c34
      try clear c34b0
      try clear c34b1
      try clear hcz10_0
      try clear hcz10_1
      try clear hcz10_2
      try clear hcz10_3
      try clear hcz11_0
      try clear hcz11_1
      try clear hcz11_2
      try clear hcz11_3
      try clear hcz12_0
      try clear hcz12_1
      try clear hcz12_2
      try clear hcz12_3
      try clear hcz22_0
      try clear hcz22_1
      try clear hcz22_2
      try clear hcz22_3
      try clear hcz23_0
      try clear hcz23_1
      try clear hcz23_2
      try clear hcz23_3
      try clear hcz24_0
      try clear hcz24_1
      try clear hcz24_2
      try clear hcz24_3
      try clear hcz27_0
      try clear hcz27_1
      try clear hcz27_2
      try clear hcz27_3
      try clear hcz29_0
      try clear hcz29_1
      try clear hcz29_2
      try clear hcz29_3
      try clear hcz30_0
      try clear hcz30_1
      try clear hcz30_2
      try clear hcz30_3
      try clear hcz33_0
      try clear hcz33_1
      try clear hcz33_2
      try clear hcz33_3
      try clear hcz5_0
      try clear hcz5_1
      try clear hcz5_2
      try clear hcz5_3
      try clear hcz8_0
      try clear hcz8_1
      try clear hcz8_2
      try clear hcz8_3
      try clear hfz10_0
      try clear hfz10_1
      try clear hfz10_2
      try clear hfz10_3
      try clear hfz11_0
      try clear hfz11_1
      try clear hfz11_2
      try clear hfz11_3
      try clear hfz12_0
      try clear hfz12_1
      try clear hfz12_2
      try clear hfz12_3
      try clear hfz22_0
      try clear hfz22_1
      try clear hfz22_2
      try clear hfz22_3
      try clear hfz23_0
      try clear hfz23_1
      try clear hfz23_2
      try clear hfz23_3
      try clear hfz24_0
      try clear hfz24_1
      try clear hfz24_2
      try clear hfz24_3
      try clear hfz27_0
      try clear hfz27_1
      try clear hfz27_2
      try clear hfz27_3
      try clear hfz29_0
      try clear hfz29_1
      try clear hfz29_2
      try clear hfz29_3
      try clear hfz30_0
      try clear hfz30_1
      try clear hfz30_2
      try clear hfz30_3
      try clear hfz33_0
      try clear hfz33_1
      try clear hfz33_2
      try clear hfz33_3
      try clear hfz5_0
      try clear hfz5_1
      try clear hfz5_2
      try clear hfz5_3
      try clear hfz8_0
      try clear hfz8_1
      try clear hfz8_2
      try clear hfz8_3
      try clear p1
      try clear p18
      try clear p2
      try clear p20
      try clear p6
      try clear q1
      try clear q18
      try clear q2
      try clear q20
      obtain ⟨kq,x16_31,rfl,HA,HJ31,BK101,HB⟩:=hcut
      cases kq with
      | zero=>exact absurd HA.out (by simp [impl_isReNode.j1])
      | succ kj31 =>
       have H:=HA.out
       clear HA
       simp only [impl_isReNode.j1] at H
       by_cases c35 : x16_31 = true
       ·subst c35
        have H1 : (some ((l0_3.length : Int) == 0)) = some r:=by rw [if_pos rfl] at H;exact H
        clear H
        have H:=H1
        clear H1
        obtain rfl:=Option.some.inj H
        have hcz36_0 : wc.cell? ⟨gb101,0,none⟩ = some (.int .i64 a0_0):=(blk_cell BK101.out 0).trans rfl
        have hcz36_1 : wc.cell? ⟨gb101,1,none⟩ = some (.bool a0_1):=(blk_cell BK101.out 1).trans rfl
        have hcz36_2 : wc.cell? ⟨gb101,2,none⟩ = some (.string a0_2):=(blk_cell BK101.out 2).trans rfl
        have hcz36_3 : wc.cell? ⟨gb101,3,none⟩ = some (.slice A0_3 l0_3.length c0_3):=(blk_cell BK101.out 3).trans rfl
        have hfz36_0:=blk_frozen BK101.out 0
        have hfz36_1:=blk_frozen BK101.out 1
        have hfz36_2:=blk_frozen BK101.out 2
        have hfz36_3:=blk_frozen BK101.out 3
        go_wp2
        repeat (go_quiet (fail);try go_wp2)
        go_ret
        exact ⟨by first|rfl|(simp [errW_none,errW_some] <;> rfl)|(simp [*,errW_none,errW_some] <;> rfl)|(congr 2;generalize ByteArray.toList _ = l_;cases l_ <;> rfl),by repeat (first|(with_reducible first|exact HB.out|apply below_alloc|apply pw_below_drewN|apply below_drew1|refine below_set ?_ GE101.out)|exact HB.out)⟩
       ·replace c35:=Bool.eq_false_iff.mpr c35
        subst c35
        have H1 : (if a0_0 = 3 then (impl_isReNode.j2 kj31 a0_0 (a0_0 == 3) a0_0 a0_1 a0_2 l0_3) else (impl_isReNode.j2 kj31 a0_0 (a0_0 == 4) a0_0 a0_1 a0_2 l0_3)) = some r:=by rw [if_neg (show ¬ (false = true) by decide)] at H;exact H
        clear H
        have H:=H1
        clear H1
        have HC37:=Aside0.mk H
        clear H
        go_upto_if 23 with (fail)
        repeat (go_quiet (fail);go_upto_if 23 with (fail))
        go_cut [23] (fun v23 wc=>∃ (kq : Nat) (x23_36 : Bool),v23 = .bool x23_36 ∧ Aside0 (impl_isReNode.j2 kq a0_0 x23_36 a0_0 a0_1 a0_2 l0_3 = some r) ∧ Aside0 (kq ≤ kj31) ∧ Aside0 (wc.heap[gb101]? = some (.cells #[.int .i64 a0_0,.bool a0_1,.string a0_2,(.slice A0_3 l0_3.length c0_3)] 49 (0,0))) ∧ Aside0 (Below w.heap.size w wc))
        case first =>
         have H:=HC37.out
         clear HC37
         by_cases c38 : a0_0 = 3
         ·rw [if_pos c38] at H
          have c38b0 : (a0_0 == 3) = true:=beq_iff_eq.mpr c38
          have c38b1 : (a0_0 != 3) = false:=bne_eq_false_iff_eq.mpr c38
          clear c38
          (first|rw [c38b0]|(simp only [i64_w,i32_w];rw [c38b0])|skip)
          have H':=Aside0.mk H
          clear H
          go_wp2
          repeat (go_quiet (fail);try go_wp2)
          go_meet
          case rel=>exact ⟨_,((a0_0 == 3)),(by first|rfl|(simp;done)|(simp [*];done)),H',⟨by have:=HJ24.out;have:=HJ31.out;first|omega|exact Nat.le_refl _⟩,⟨by (with_reducible repeat (first|refine blk_drewN ?_ _|refine blk_drew ?_|refine blk_alloc ?_ _));exact BK101.out⟩,⟨by repeat (first|(with_reducible first|exact HB.out|apply below_alloc|apply pw_below_drewN|apply below_drew1|refine below_set ?_ GE101.out)|exact HB.out)⟩⟩
         ·rw [if_neg c38] at H
          have c38b0 : (a0_0 == 3) = false:=beq_eq_false_iff_ne.mpr c38
          have c38b1 : (a0_0 != 3) = true:=bne_iff_ne.mpr c38
          (first|rw [c38b0]|(simp only [i64_w,i32_w];rw [c38b0])|skip)
          have H':=Aside0.mk H
          clear H
          go_wp2
          repeat (go_quiet (fail);try go_wp2)
          go_meet
          case rel=>exact ⟨_,((a0_0 == 4)),(by first|rfl|(simp;done)|(simp [*];done)),H',⟨by have:=HJ24.out;have:=HJ31.out;first|omega|exact Nat.le_refl _⟩,⟨by (with_reducible repeat (first|refine blk_drewN ?_ _|refine blk_drew ?_|refine blk_alloc ?_ _));exact BK101.out⟩,⟨by repeat (first|(with_reducible first|exact HB.out|apply below_alloc|apply pw_below_drewN|apply below_drew1|refine below_set ?_ GE101.out)|exact HB.out)⟩⟩
        case rest =>
         clear HC37
         try clear c1
         try clear p1
         try clear q1
         try clear hx1
         try clear c2
         try clear c2b0
         try clear c2b1
         try clear p2
         try clear q2
         try clear hx2
         try clear c3
         try clear c6
         try clear c6b0
         try clear c6b1
         try clear p6
         try clear c7
         try clear c7b0
         try clear c7b1
         try clear c9
         try clear c9b0
         try clear c9b1
         try clear c13
         try clear c14
         try clear c14b0
         try clear c16
         try clear c16b0
         try clear c17
         try clear c17b0
         try clear p18
         try clear q18
         try clear hx18
         try clear c19
         try clear c19b0
         try clear p20
         try clear q20
         try clear hx20
         try clear c21
         try clear c21b0
         try clear c28
         try clear c31
         try clear c34
         try clear c34b0
         try clear c34b1
         try clear c35
         try clear c38
         try clear c38b0
         try clear c38b1
         try clear hcz10_0
         try clear hcz10_1
         try clear hcz10_2
         try clear hcz10_3
         try clear hcz11_0
         try clear hcz11_1
         try clear hcz11_2
         try clear hcz11_3
         try clear hcz12_0
         try clear hcz12_1
         try clear hcz12_2
         try clear hcz12_3
         try clear hcz22_0
         try clear hcz22_1
         try clear hcz22_2
         try clear hcz22_3
         try clear hcz23_0
         try clear hcz23_1
         try clear hcz23_2
         try clear hcz23_3
         try clear hcz24_0
         try clear hcz24_1
         try clear hcz24_2
         try clear hcz24_3
         try clear hcz27_0
         try clear hcz27_1
         try clear hcz27_2
         try clear hcz27_3
         try clear hcz29_0
         try clear hcz29_1
         try clear hcz29_2
         try clear hcz29_3
         try clear hcz30_0
         try clear hcz30_1
         try clear hcz30_2
         try clear hcz30_3
         try clear hcz33_0
         try clear hcz33_1
         try clear hcz33_2
         try clear hcz33_3
         try clear hcz36_0
         try clear hcz36_1
         try clear hcz36_2
         try clear hcz36_3
         try clear hcz5_0
         try clear hcz5_1
         try clear hcz5_2
         try clear hcz5_3
         try clear hcz8_0
         try clear hcz8_1
         try clear hcz8_2
         try clear hcz8_3
         try clear hfz10_0
         try clear hfz10_1
         try clear hfz10_2
         try clear hfz10_3
         try clear hfz11_0
         try clear hfz11_1
         try clear hfz11_2
         try clear hfz11_3
         try clear hfz12_0
         try clear hfz12_1
         try clear hfz12_2
         try clear hfz12_3
         try clear hfz22_0
         try clear hfz22_1
         try clear hfz22_2
         try clear hfz22_3
         try clear hfz23_0
         try clear hfz23_1
         try clear hfz23_2
         try clear hfz23_3
         try clear hfz24_0
         try clear hfz24_1
         try clear hfz24_2
         try clear hfz24_3
         try clear hfz27_0
         try clear hfz27_1
         try clear hfz27_2
         try clear hfz27_3
         try clear hfz29_0
         try clear hfz29_1
         try clear hfz29_2
         try clear hfz29_3
         try clear hfz30_0
         try clear hfz30_1
         try clear hfz30_2
         try clear hfz30_3
         try clear hfz33_0
         try clear hfz33_1
         try clear hfz33_2
         try clear hfz33_3
         try clear hfz36_0
         try clear hfz36_1
         try clear hfz36_2
         try clear hfz36_3
         try clear hfz5_0
         try clear hfz5_1
         try clear hfz5_2
         try clear hfz5_3
         try clear hfz8_0
         try clear hfz8_1
         try clear hfz8_2
         try clear hfz8_3
         try clear p1
         try clear p18
         try clear p2
         try clear p20
         try clear p6
         try clear q1
         try clear q18
         try clear q2
         try clear q20
         obtain ⟨kq,x23_36,rfl,HA,HJ36,BK101,HB⟩:=hcut
         cases kq with
         | zero=>exact absurd HA.out (by simp [impl_isReNode.j2])
         | succ kj36 =>
          have H:=HA.out
          clear HA
          simp only [impl_isReNode.j2] at H
          by_cases c39 : x23_36 = true
          ·subst c39
           have H1 : (some (decide ((l0_3.length : Int) ≥ 2))) = some r:=by rw [if_pos rfl] at H;exact H
           clear H
           have H:=H1
           clear H1
           obtain rfl:=Option.some.inj H
           have hcz40_0 : wc.cell? ⟨gb101,0,none⟩ = some (.int .i64 a0_0):=(blk_cell BK101.out 0).trans rfl
           have hcz40_1 : wc.cell? ⟨gb101,1,none⟩ = some (.bool a0_1):=(blk_cell BK101.out 1).trans rfl
           have hcz40_2 : wc.cell? ⟨gb101,2,none⟩ = some (.string a0_2):=(blk_cell BK101.out 2).trans rfl
           have hcz40_3 : wc.cell? ⟨gb101,3,none⟩ = some (.slice A0_3 l0_3.length c0_3):=(blk_cell BK101.out 3).trans rfl
           have hfz40_0:=blk_frozen BK101.out 0
           have hfz40_1:=blk_frozen BK101.out 1
           have hfz40_2:=blk_frozen BK101.out 2
           have hfz40_3:=blk_frozen BK101.out 3
           go_wp2
           repeat (go_quiet (fail);try go_wp2)
           go_ret
           exact ⟨by first|rfl|(simp [errW_none,errW_some] <;> rfl)|(simp [*,errW_none,errW_some] <;> rfl)|(congr 2;generalize ByteArray.toList _ = l_;cases l_ <;> rfl),by repeat (first|(with_reducible first|exact HB.out|apply below_alloc|apply pw_below_drewN|apply below_drew1|refine below_set ?_ GE101.out)|exact HB.out)⟩
          ·replace c39:=Bool.eq_false_iff.mpr c39
           subst c39
           have H1 : (if a0_0 = 5 then (some ((l0_3.length : Int) == 1)) else (if a0_0 = 6 then (some ((l0_3.length : Int) == 1)) else (if a0_0 = 7 then (some ((l0_3.length : Int) == 1)) else (some false)))) = some r:=by rw [if_neg (show ¬ (false = true) by decide)] at H;exact H
           clear H
           have H:=H1
           clear H1
           by_cases c41 : a0_0 = 5
           ·rw [if_pos c41] at H
            have c41b0 : (a0_0 == 5) = true:=beq_iff_eq.mpr c41
            have c41b1 : (a0_0 != 5) = false:=bne_eq_false_iff_eq.mpr c41
            clear c41
            obtain rfl:=Option.some.inj H
            have hcz42_0 : wc.cell? ⟨gb101,0,none⟩ = some (.int .i64 a0_0):=(blk_cell BK101.out 0).trans rfl
            have hcz42_1 : wc.cell? ⟨gb101,1,none⟩ = some (.bool a0_1):=(blk_cell BK101.out 1).trans rfl
            have hcz42_2 : wc.cell? ⟨gb101,2,none⟩ = some (.string a0_2):=(blk_cell BK101.out 2).trans rfl
            have hcz42_3 : wc.cell? ⟨gb101,3,none⟩ = some (.slice A0_3 l0_3.length c0_3):=(blk_cell BK101.out 3).trans rfl
            have hfz42_0:=blk_frozen BK101.out 0
            have hfz42_1:=blk_frozen BK101.out 1
            have hfz42_2:=blk_frozen BK101.out 2
            have hfz42_3:=blk_frozen BK101.out 3
            go_wp2
            repeat (go_quiet (fail);try go_wp2)
            go_ret
            exact ⟨by first|rfl|(simp [errW_none,errW_some] <;> rfl)|(simp [*,errW_none,errW_some] <;> rfl)|(congr 2;generalize ByteArray.toList _ = l_;cases l_ <;> rfl),by repeat (first|(with_reducible first|exact HB.out|apply below_alloc|apply pw_below_drewN|apply below_drew1|refine below_set ?_ GE101.out)|exact HB.out)⟩
           ·rw [if_neg c41] at H
            have c41b0 : (a0_0 == 5) = false:=beq_eq_false_iff_ne.mpr c41
            have c41b1 : (a0_0 != 5) = true:=bne_iff_ne.mpr c41
            by_cases c43 : a0_0 = 6
            ·rw [if_pos c43] at H
             have c43b0 : (a0_0 == 6) = true:=beq_iff_eq.mpr c43
             have c43b1 : (a0_0 != 6) = false:=bne_eq_false_iff_eq.mpr c43
             clear c43
             obtain rfl:=Option.some.inj H
             have hcz44_0 : wc.cell? ⟨gb101,0,none⟩ = some (.int .i64 a0_0):=(blk_cell BK101.out 0).trans rfl
             have hcz44_1 : wc.cell? ⟨gb101,1,none⟩ = some (.bool a0_1):=(blk_cell BK101.out 1).trans rfl
             have hcz44_2 : wc.cell? ⟨gb101,2,none⟩ = some (.string a0_2):=(blk_cell BK101.out 2).trans rfl
             have hcz44_3 : wc.cell? ⟨gb101,3,none⟩ = some (.slice A0_3 l0_3.length c0_3):=(blk_cell BK101.out 3).trans rfl
             have hfz44_0:=blk_frozen BK101.out 0
             have hfz44_1:=blk_frozen BK101.out 1
             have hfz44_2:=blk_frozen BK101.out 2
             have hfz44_3:=blk_frozen BK101.out 3
             go_wp2
             repeat (go_quiet (fail);try go_wp2)
             go_ret
             exact ⟨by first|rfl|(simp [errW_none,errW_some] <;> rfl)|(simp [*,errW_none,errW_some] <;> rfl)|(congr 2;generalize ByteArray.toList _ = l_;cases l_ <;> rfl),by repeat (first|(with_reducible first|exact HB.out|apply below_alloc|apply pw_below_drewN|apply below_drew1|refine below_set ?_ GE101.out)|exact HB.out)⟩
            ·rw [if_neg c43] at H
             have c43b0 : (a0_0 == 6) = false:=beq_eq_false_iff_ne.mpr c43
             have c43b1 : (a0_0 != 6) = true:=bne_iff_ne.mpr c43
             by_cases c45 : a0_0 = 7
             ·rw [if_pos c45] at H
              have c45b0 : (a0_0 == 7) = true:=beq_iff_eq.mpr c45
              have c45b1 : (a0_0 != 7) = false:=bne_eq_false_iff_eq.mpr c45
              clear c45
              obtain rfl:=Option.some.inj H
              have hcz46_0 : wc.cell? ⟨gb101,0,none⟩ = some (.int .i64 a0_0):=(blk_cell BK101.out 0).trans rfl
              have hcz46_1 : wc.cell? ⟨gb101,1,none⟩ = some (.bool a0_1):=(blk_cell BK101.out 1).trans rfl
              have hcz46_2 : wc.cell? ⟨gb101,2,none⟩ = some (.string a0_2):=(blk_cell BK101.out 2).trans rfl
              have hcz46_3 : wc.cell? ⟨gb101,3,none⟩ = some (.slice A0_3 l0_3.length c0_3):=(blk_cell BK101.out 3).trans rfl
              have hfz46_0:=blk_frozen BK101.out 0
              have hfz46_1:=blk_frozen BK101.out 1
              have hfz46_2:=blk_frozen BK101.out 2
              have hfz46_3:=blk_frozen BK101.out 3
              go_wp2
              repeat (go_quiet (fail);try go_wp2)
              go_ret
              exact ⟨by first|rfl|(simp [errW_none,errW_some] <;> rfl)|(simp [*,errW_none,errW_some] <;> rfl)|(congr 2;generalize ByteArray.toList _ = l_;cases l_ <;> rfl),by repeat (first|(with_reducible first|exact HB.out|apply below_alloc|apply pw_below_drewN|apply below_drew1|refine below_set ?_ GE101.out)|exact HB.out)⟩
             ·rw [if_neg c45] at H
              have c45b0 : (a0_0 == 7) = false:=beq_eq_false_iff_ne.mpr c45
              have c45b1 : (a0_0 != 7) = true:=bne_iff_ne.mpr c45
              obtain rfl:=Option.some.inj H
              go_wp2
              repeat (go_quiet (fail);try go_wp2)
              go_ret
              exact ⟨by first|rfl|(simp [errW_none,errW_some] <;> rfl)|(simp [*,errW_none,errW_some] <;> rfl)|(congr 2;generalize ByteArray.toList _ = l_;cases l_ <;> rfl),by repeat (first|(with_reducible first|exact HB.out|apply below_alloc|apply pw_below_drewN|apply below_drew1|refine below_set ?_ GE101.out)|exact HB.out)⟩
end Go.Proofs.YtlakdfbfkbndiaaDoor.Q
namespace Go.Proofs.YtlakdfbfkbndiaaDoor.Q
open Go.Shelf Go.RowKit Go.Proofs.YtlakdfbfkbndiaaDoorW.PrintWords Go.Proofs.YtlakdfbfkbndiaaDoorW.PrintLast Go.Proofs.YtlakdfbfkbndiaaDoorW.PrintMore
def slices_ContainsFunc_int_int.f (l : List Int) (fn : Nat) : Option Bool := if fn = 76 then some (l.any fun n => n != 1) else none
theorem notOne_any (n : Int) (w : World) : Calls Tryd.prog 76 #[.int .i64 n] w fun e w' => e = .returned (.bool (n != 1)) ∧ w' = w := by
  go_enter Tryd.func76, Tryd.ntmps76
  go_wp2_with fail
  go_ret
  exact ⟨rfl, rfl⟩
def firstNot : List Int → Nat → Int
  | [], _ => -1
  | n :: l, i => if (n != 1) = true then (i : Int) else firstNot l (i + 1)
theorem firstNot_any : ∀ (l : List Int) (i : Nat), (0 ≤ firstNot l i ↔ (l.any fun n => n != 1) = true)
  | [], i => by simp [firstNot]
  | n :: l, i => by
    by_cases h : (n != 1) = true
    · have e : firstNot (n :: l) i = (i : Int) := if_pos h
      rw [e, List.any_cons, h]
      simp
    · have e : firstNot (n :: l) i = firstNot l (i + 1) := if_neg h
      have h2 : (n != 1) = false := by simpa using h
      rw [e, firstNot_any l (i + 1), List.any_cons, h2, Bool.false_or]
set_option maxRecDepth 100000 in
theorem indexFunc_any (A0 : Option Addr) (c0 : Nat) (l : List Int) (w : World) (hr : Kd.C (Kd.int .i64) w A0 l.length l) (hc : l.length ≤ c0) (hl : l.length ≤ 9223372036854775807) :
    Calls Tryd.prog 88 #[.slice A0 l.length c0, .func (.func 76) #[] #[]] w fun e w' => e = .returned (.int .i64 (firstNot l 0)) ∧ w' = w := by
  have eg : ∀ args w, (callFunc 76 args).run Tryd.prog w = .ok (.enter 76 args) w := enters_of Tryd.func76 (by kernel_rfl) rfl
  have HR := Aside0.mk hr
  clear hr
  go_enter Tryd.func88, Tryd.ntmps88
  go_wp2_with fail
  go_loopg [8] l.length (fun gg v8 wr => ∃ k : Nat, v8 = .int .i64 k ∧ k ≤ l.length ∧ l.length - k ≤ gg ∧ Aside0 (firstNot l 0 = firstNot (l.drop k) k) ∧ wr = w)
  case atStart => exact ⟨0, rfl, by omega, by omega, ⟨by simp⟩, rfl⟩
  case round =>
    obtain ⟨k, rfl, hk, hg, HF, rfl⟩ := hrel
    by_cases hlt : k < l.length
    · have hlt0 : (k : Int) < (l.length : Int) := by omega
      obtain ⟨ad, c, e0, _, hK, hcell⟩ := Kd.C_get HR.out (0 : Int) k (by omega) (by omega)
      subst e0
      have hK : c = [.int .i64 (l.getD ((k : Int)).toNat 0)] := hK
      subst hK
      have hc0 := hcell 0 _ rfl
      have hc0 : wr.cell? (ad.add k) = some (.int .i64 (l.getD k 0)) := by simpa [Kd.int, Kd.scalar] using hc0
      have HD : Aside0 (l.drop k = l.getD k 0 :: l.drop (k + 1)) := ⟨by
        rw [List.drop_eq_getElem_cons hlt, List.getD_eq_getElem?_getD, List.getElem?_eq_getElem hlt]; rfl⟩
      clear hcell
      obtain ⟨z, hz⟩ : ∃ z, z = l.getD k 0 := ⟨_, rfl⟩
      rw [← hz] at hc0 HD
      clear hz
      have hcall := notOne_any z wr
      cases hq : (z != 1) with
      | true =>
        rw [hq] at hcall
        have HN : Aside0 (firstNot l 0 = k) := ⟨by rw [HF.out, HD.out]; simp only [firstNot]; rw [if_pos hq]⟩
        clear hq
        go_wp2_with fail
        refine hcall.mono ?_
        rintro e w' ⟨rfl, rfl⟩
        go_wp2_with fail
        go_ret
        exact ⟨by rw [HN.out] <;> rfl, rfl⟩
      | false =>
        rw [hq] at hcall
        have HN : Aside0 (firstNot l 0 = firstNot (l.drop (k + 1)) (k + 1)) := ⟨by rw [HF.out, HD.out]; simp only [firstNot]; rw [if_neg (by rw [hq]; decide)]⟩
        clear hq
        go_wp2_with fail
        refine hcall.mono ?_
        rintro e w' ⟨rfl, rfl⟩
        go_wp2_with fail
        go_roundg (l.length - (k + 1))
        case measure => omega
        case rel => exact ⟨k + 1, by go_num, by omega, by omega, HN, rfl⟩
    · have hlt0 : ¬ (k : Int) < (l.length : Int) := by omega
      have HN : Aside0 (firstNot l 0 = -1) := ⟨by rw [HF.out, List.drop_eq_nil_of_le (by omega)]; rfl⟩
      go_wp2_with fail
      go_ret
      exact ⟨by rw [HN.out] <;> rfl, rfl⟩
theorem slices_ContainsFunc_int_int.calls (A0 : Option Addr) (c0 : Nat) (l0 : List Int) (a1 : Nat) (r : Bool) (w : World) (hr0 : Kd.C (Kd.int .i64) w A0 l0.length l0) (hc0 : l0.length ≤ c0) (h : slices_ContainsFunc_int_int.f l0 a1 = some r) :
    Calls Tryd.prog 75 #[.slice A0 l0.length c0, .func (.func a1) #[] #[]] w fun e w' => e = .returned (.bool r) ∧ Drawn0 w w' := by
  unfold slices_ContainsFunc_int_int.f at h
  by_cases hf : a1 = 76
  case neg => rw [if_neg hf] at h; cases h
  rw [if_pos hf] at h
  subst hf
  have hl : l0.length ≤ 9223372036854775807 := by have := hr0.2.1; first | omega | simpa using this
  have hcall := indexFunc_any A0 c0 l0 w hr0 hc0 hl
  have HRes : Aside0 (decide (firstNot l0 0 ≥ 0) = r) := ⟨by rw [← Option.some.inj h, Bool.eq_iff_iff, decide_eq_true_eq]; exact firstNot_any l0 0⟩
  clear h hr0
  go_enter Tryd.func75, Tryd.ntmps75
  go_wp2_with fail
  refine hcall.mono ?_
  rintro e w' ⟨rfl, rfl⟩
  go_wp2_with fail
  go_ret
  exact ⟨by rw [HRes.out] <;> rfl, Drawn0.refl _⟩
end Go.Proofs.YtlakdfbfkbndiaaDoor.Q
namespace Go.Proofs.YtlakdfbfkbndiaaDoor.Q
open Go.RowKit Go.Proofs.YtlakdfbfkbndiaaDoorW.PrintWords Go.Proofs.YtlakdfbfkbndiaaDoorW.PrintLast Go.Proofs.YtlakdfbfkbndiaaDoorW.PrintMore
attribute [local go_sem] max2_int min2_int max_two min_two max_three min_three max_four min_four   -- for this text's walks alone
set_option linter.unusedVariables false
set_option linter.unusedSimpArgs false
mutual
def impl_ReOk.l0 : Nat → List (S49) → List Int → List (S49) → Int → Int → Option (Bool)
 | 0,_,_,_,_,_=>none
 | k + 1,x0,x3,x16,x17,x18=>if x18 < x17 then (if 0 ≤ x18 then (if x18 < (x16.length : Int) then ((impl_isReNode.f k ((rd_T49 x16 x18).f0) ((rd_T49 x16 x18).f1) ((rd_T49 x16 x18).f2) ((rd_T49 x16 x18).f3)).bind fun t113=>(if t113 = true then (impl_ReOk.l1 k x0 x3 x18 x16 x17 x18 ((rd_T49 x16 x18).f3) (((rd_T49 x16 x18).f3).length : Int) 0) else (some false))) else (none)) else (none)) else (if 0 ≤ (wrap64 ((x0.length : Int) - 1)) then (if (wrap64 ((x0.length : Int) - 1)) ≤ (x3.length : Int) then ((slices_ContainsFunc_int_int.f (x3.take ((wrap64 ((x0.length : Int) - 1)) : Int).toNat) 76).bind fun t110=>(some (!t110))) else (none)) else (none))
def impl_ReOk.l1 : Nat → List (S49) → List Int → Int → List (S49) → Int → Int → List Int → Int → Int → Option (Bool)
 | 0,_,_,_,_,_,_,_,_,_=>none
 | k + 1,x0,x3,x4,x16,x17,x18,x27,x28,x29=>if x29 < x28 then (if 0 ≤ x29 then (if x29 < (x27.length : Int) then ((impl_between.f (rd x27 x29) 0 (wrap64 (x4 - 1))).bind fun t115=>(if t115 = true then (if 0 ≤ (rd x27 x29) then (if (rd x27 x29) < (x3.length : Int) then (impl_ReOk.l1 k x0 (x3.set ((rd x27 x29) : Int).toNat (wrap64 ((rd x3 (rd x27 x29)) + 1))) x4 x16 x17 x18 x27 x28 (wrap64 (x29 + 1))) else (none)) else (none)) else (some false))) else (none)) else (none)) else (impl_ReOk.l0 k x0 x3 x16 x17 (wrap64 (x18 + 1)))
end
def impl_ReOk.f (k : Nat) (l0 : List (S49)) : Option (Bool):=(impl_between.f (l0.length : Int) 1 200).bind fun t102=>(if t102 = true then (if 0 ≤ (l0.length : Int) then (if ((l0.length : Int) : Int).toNat ≤ 35184372088832 then (impl_ReOk.l0 k l0 (List.replicate ((l0.length : Int) : Int).toNat 0) l0 (l0.length : Int) 0) else (none)) else (none)) else (some false))
theorem impl_ReOk.mono_l : ∀ k,(∀ y0 y1 y2 y3 y4,LeO (impl_ReOk.l0 k y0 y1 y2 y3 y4) (impl_ReOk.l0 (k + 1) y0 y1 y2 y3 y4)) ∧ (∀ y0 y1 y2 y3 y4 y5 y6 y7 y8,LeO (impl_ReOk.l1 k y0 y1 y2 y3 y4 y5 y6 y7 y8) (impl_ReOk.l1 (k + 1) y0 y1 y2 y3 y4 y5 y6 y7 y8))
 | 0=>⟨fun _ _ _ _ _ r h=>by simp [impl_ReOk.l0] at h,fun _ _ _ _ _ _ _ _ _ r h=>by simp [impl_ReOk.l1] at h⟩
 | k + 1=>by
  obtain ⟨ih0,ih1⟩:=impl_ReOk.mono_l k
  refine ⟨?_,?_⟩
  ·intro y0 y1 y2 y3 y4
   unfold impl_ReOk.l0
   repeat' first
   | (with_reducible exact ih0 _ _ _ _ _)
   | (with_reducible exact ih1 _ _ _ _ _ _ _ _ _)
   | (with_reducible exact impl_isReNode.mono _ _ _ _ _)
   | (with_reducible exact LeO.refl _)
   | (with_reducible exact LeO.none _)
   | (with_reducible refine LeO.ite ?_ ?_)
   | (with_reducible refine LeO.bind ?_ (fun _=>?_))
   | exact ih0 _ _ _ _ _
   | exact ih1 _ _ _ _ _ _ _ _ _
   | exact impl_isReNode.mono _ _ _ _ _
   | exact LeO.none _
   | refine LeO.ite ?_ ?_
   | refine LeO.bind ?_ (fun _=>?_)
  ·intro y0 y1 y2 y3 y4 y5 y6 y7 y8
   unfold impl_ReOk.l1
   repeat' first
   | (with_reducible exact ih0 _ _ _ _ _)
   | (with_reducible exact ih1 _ _ _ _ _ _ _ _ _)
   | (with_reducible exact impl_isReNode.mono _ _ _ _ _)
   | (with_reducible exact LeO.refl _)
   | (with_reducible exact LeO.none _)
   | (with_reducible refine LeO.ite ?_ ?_)
   | (with_reducible refine LeO.bind ?_ (fun _=>?_))
   | exact ih0 _ _ _ _ _
   | exact ih1 _ _ _ _ _ _ _ _ _
   | exact impl_isReNode.mono _ _ _ _ _
   | exact LeO.none _
   | refine LeO.ite ?_ ?_
   | refine LeO.bind ?_ (fun _=>?_)
theorem impl_ReOk.mono : ∀ a0 k,LeO (impl_ReOk.f k a0) (impl_ReOk.f (k + 1) a0):=by
 intro a0 k
 obtain ⟨ih0,ih1⟩:=impl_ReOk.mono_l k
 unfold impl_ReOk.f
 repeat' first
   | (with_reducible exact ih0 _ _ _ _ _)
   | (with_reducible exact ih1 _ _ _ _ _ _ _ _ _)
   | (with_reducible exact impl_isReNode.mono _ _ _ _ _)
   | (with_reducible exact LeO.refl _)
   | (with_reducible exact LeO.none _)
   | (with_reducible refine LeO.ite ?_ ?_)
   | (with_reducible refine LeO.bind ?_ (fun _=>?_))
   | exact ih0 _ _ _ _ _
   | exact ih1 _ _ _ _ _ _ _ _ _
   | exact impl_isReNode.mono _ _ _ _ _
   | exact LeO.none _
   | refine LeO.ite ?_ ?_
   | refine LeO.bind ?_ (fun _=>?_)
set_option maxHeartbeats 8000000 in
set_option maxRecDepth 100000 in
theorem impl_ReOk.calls (k : Nat) (A0 : Option Addr) (c0 : Nat) (l0 : List (S49)) (r : Bool) (w : World) (hr0 : Kd.C k49 w A0 l0.length l0) (hc0 : l0.length ≤ c0) (h : impl_ReOk.f k l0 = some r) :
  Calls Tryd.prog 60 #[.slice A0 l0.length c0] w fun e w'=>e = .returned (.bool r) ∧ Below w.heap.size w w':=by
 have hu49:=Tryd.underlying49
 have HR0:=Aside0.mk hr0
 have HC0:=Aside0.mk hc0
 clear hr0 hc0
 have HB:=Aside0.mk (Below.refl w.heap.size w)
 have H : ((impl_between.f (l0.length : Int) 1 200).bind fun t102=>(if t102 = true then (if 0 ≤ (l0.length : Int) then (if ((l0.length : Int) : Int).toNat ≤ 35184372088832 then (impl_ReOk.l0 k l0 (List.replicate ((l0.length : Int) : Int).toNat 0) l0 (l0.length : Int) 0) else (none)) else (none)) else (some false))) = some r:=h
 clear h
 replace H:=Option.bind_eq_some_iff.mp H
 obtain ⟨t102,A20,H⟩:=H
 replace H : (if t102 = true then (if 0 ≤ (l0.length : Int) then (if ((l0.length : Int) : Int).toNat ≤ 35184372088832 then (impl_ReOk.l0 k l0 (List.replicate ((l0.length : Int) : Int).toNat 0) l0 (l0.length : Int) 0) else (none)) else (none)) else (some false)) = some r:=H
 have A2:=Aside0.mk A20
 clear A20
 by_cases c3 : t102 = true
 ·subst c3
  have H1 : (if 0 ≤ (l0.length : Int) then (if ((l0.length : Int) : Int).toNat ≤ 35184372088832 then (impl_ReOk.l0 k l0 (List.replicate ((l0.length : Int) : Int).toNat 0) l0 (l0.length : Int) 0) else (none)) else (none)) = some r:=by rw [if_pos rfl] at H;exact H
  clear H
  have H:=H1
  clear H1
  by_cases c4 : 0 ≤ (l0.length : Int)
  ·rw [if_pos c4] at H
   have c4b0:=eq_true c4
   have c4b1 : decide (0 ≤ (l0.length : Int)) = true:=decide_eq_true c4
   clear c4
   by_cases c5 : ((l0.length : Int) : Int).toNat ≤ 35184372088832
   ·rw [if_pos c5] at H
    have c5b0:=eq_true c5
    have c5b1 : decide (((l0.length : Int) : Int).toNat ≤ 35184372088832) = true:=decide_eq_true c5
    clear c5
    obtain ⟨y103,hy103⟩ : ∃ y_ : List Int,y_ = (List.replicate ((l0.length : Int) : Int).toNat 0):=⟨_,rfl⟩
    replace H : (impl_ReOk.l0 k l0 y103 l0 (l0.length : Int) 0) = some r:=by first|(rw [hy103];with_reducible exact H)|(have H2_:=(Option.bind_some _ _).symm.trans H;rw [hy103];with_reducible exact H2_)|(have H2_:=(Option.bind_some _ _).symm.trans H;with_reducible exact H2_)|with_reducible exact H|(rw [hy103];exact H)|exact H
    have Ny103:=Aside0.mk hy103
    clear hy103
    have H':=Aside0.mk H
    clear H
    go_enter Tryd.func60,Tryd.ntmps60
    go_wp2_with (first|((with_reducible refine gate_callee (f:=44) rfl ?_);refine goesL_ (some 11) rfl rfl Tryd.func44 (by kernel_rfl) rfl #[.int .i64 (l0.length : Int),.int .i64 1,.int .i64 200] rfl (by (try simp only [List.map_toArray,List.map_cons,List.map_nil]);first|done|rfl|(simp only [List.length_drop,List.length_take];rfl)) ?_;(with_reducible refine (impl_between.calls (l0.length : Int) 1 200 true _ A2.out).mono ?_);rintro e w' ⟨rfl,⟨nd,rfl⟩⟩;refine ⟨_,rfl,?_⟩)|((with_reducible refine gate_dst (N:=15) rfl ?_);refine Kd.R_make (Kd.int .i64) _ 3 rfl (N:=15) rfl 31 _ _ rfl (l0.length : Int) rfl rfl Tryd.underlying31 (.int .i64 0) 8 info3 rfl (by decide) (by omega) 0 (ok:=fun _=>True) (okp:=fun _=>True) rfl (fun _ hk=>hk) trivial (of_decide_eq_true (by first|(with_reducible assumption)|assumption)) (Nat.le_trans (Nat.mul_le_mul_right _ (of_decide_eq_true (by first|(with_reducible assumption)|assumption) : (l0.length : Int).toNat ≤ 35184372088832)) (by omega)) (Below.refl _ _) (Nat.le_refl _) ?_;intro v104 w6 ho7 hb hg_ hnew_;clear hg_ hnew_;(first|rw [← Ny103.out] at ho7|(simp only [Int.reduceToNat] at ho7;rw [← Ny103.out] at ho7));have n0_:=Aside0.mk (Kd.R_lower ho7 (below_size (by repeat (first|(with_reducible first|exact HB.out|apply below_alloc|apply pw_below_drewN|apply below_drew1)|exact HB.out))));have n1_:=Aside0.mk (below_step (by repeat (first|(with_reducible first|exact HB.out|apply below_alloc|apply pw_below_drewN|apply below_drew1)|exact HB.out)) hb);clear HB;have HO105:=n0_;have HB:=n1_;clear n0_ n1_;clear hb ho7))
    go_loopg [18] k (fun kq v18 w'=>∃ (x3_1 : List Int) (x18_1 : Int),v18 = .int .i64 x18_1 ∧ Aside0 (impl_ReOk.l0 kq l0 x3_1 l0 (l0.length : Int) x18_1 = some r) ∧ Aside0 (kq ≤ k) ∧ Aside0 (Kd.R (Kd.int .i64) 3 w' w.heap.size (fun _=>True) v104 x3_1) ∧ Aside0 (Below w.heap.size w w'))
    case atStart=>exact ⟨(y103),(0),(by first|rfl|(simp;done)|(simp [*];done)),H',⟨Nat.le_refl _⟩,⟨by (with_reducible repeat (first|apply Kd.R_alloc|apply Kd.R_drewN|apply Kd.R_drew));exact HO105.out⟩,⟨by repeat (first|(with_reducible first|exact HB.out|apply below_alloc|apply pw_below_drewN|apply below_drew1)|exact HB.out)⟩⟩
    case round =>
     clear H'
     try clear p2
     try clear c3
     try clear c4
     try clear c4b0
     try clear c4b1
     try clear c5
     try clear c5b0
     try clear c5b1
     try clear c6
     obtain ⟨x3_1,x18_1,rfl,HA,HK1,HO_3,HB⟩:=hrel
     cases gk with
     | zero=>exact absurd HA.out (by simp [impl_ReOk.l0])
     | succ k1 =>
      have H:=HA.out
      clear HA
      simp only [impl_ReOk.l0] at H
      by_cases c8 : x18_1 < (l0.length : Int)
      ·rw [if_pos c8] at H
       have c8b0 : decide (x18_1 < (l0.length : Int)) = true:=decide_eq_true c8
       clear c8
       by_cases c9 : 0 ≤ x18_1
       ·rw [if_pos c9] at H
        have c9b0 : decide (0 ≤ x18_1) = true:=decide_eq_true c9
        clear c9
        by_cases c10 : x18_1 < (l0.length : Int)
        ·rw [if_pos c10] at H
         have c10b0 : decide (x18_1 < (l0.length : Int)) = true:=decide_eq_true c10
         clear c10
         replace H:=Option.bind_eq_some_iff.mp H
         obtain ⟨t113,A110,H⟩:=H
         replace H : (if t113 = true then (impl_ReOk.l1 k1 l0 x3_1 x18_1 l0 (l0.length : Int) x18_1 ((rd_T49 l0 x18_1).f3) (((rd_T49 l0 x18_1).f3).length : Int) 0) else (some false)) = some r:=H
         have A11:=Aside0.mk A110
         clear A110
         by_cases c12 : t113 = true
         ·subst c12
          have H1 : (impl_ReOk.l1 k1 l0 x3_1 x18_1 l0 (l0.length : Int) x18_1 ((rd_T49 l0 x18_1).f3) (((rd_T49 l0 x18_1).f3).length : Int) 0) = some r:=by rw [if_pos rfl] at H;exact H
          clear H
          have H:=H1
          clear H1
          have H':=Aside0.mk H
          clear H
          have p111 : 0 ≤ (x18_1 : Int):=of_decide_eq_true (by first|(with_reducible assumption)|assumption)
          have q111 : x18_1 < (l0.length : Int):=of_decide_eq_true (by first|(with_reducible assumption)|assumption)
          obtain ⟨ad111,A111_3,c111_3,e111,hx111_0,hx111_1,hx111_2,hx111_3,hl111_3,hi111_3⟩:=at_T49 HR0.out x18_1 p111 q111
          cases e111
          replace hx111_0:=(HB.out.cell (World.block_lt_of_cell? w _ hx111_0)).trans hx111_0
          replace hx111_1:=(HB.out.cell (World.block_lt_of_cell? w _ hx111_1)).trans hx111_1
          replace hx111_2:=(HB.out.cell (World.block_lt_of_cell? w _ hx111_2)).trans hx111_2
          replace hx111_3:=(HB.out.cell (World.block_lt_of_cell? w _ hx111_3)).trans hx111_3
          have HR111_3:=Aside0.mk hi111_3
          have HC111_3:=Aside0.mk hl111_3
          clear hi111_3 hl111_3
          replace p111:=eq_true p111
          replace q111:=eq_true q111
          go_wp2_with (first|((with_reducible refine gate_dst (N:=5) rfl ?_);refine box_event ?hg (N:=5) ?hd (cs:=#[.int .i64 0,.bool false,.string (⟨#[]⟩ : ByteArray),.slice none 0 0]) (t:=49) ?hr ?_;(case hd=>rfl);(case hg=>rfl);(case hr=>first|(go_simp;done)|(go_simp;rfl));intro gb112 hg w13 hbox hb;have n0_:=Aside0.mk (Kd.R_below (by (with_reducible repeat (first|apply Kd.R_alloc|apply Kd.R_drewN|apply Kd.R_drew));exact HO_3.out) hb);have n1_:=Aside0.mk (below_step (by repeat (first|(with_reducible first|exact HB.out|apply below_alloc|apply pw_below_drewN|apply below_drew1)|exact HB.out)) hb);have n2_:=Aside0.mk (hbox);have n3_:=Aside0.mk ((by rw [hg];exact (below_size (by repeat (first|(with_reducible first|exact HB.out|apply below_alloc|apply pw_below_drewN|apply below_drew1)|exact HB.out))) : w.heap.size ≤ gb112));have n4_:=Aside0.mk ((by rw [hg];exact (below_size (by repeat (first|(with_reducible first|exact HB.out|apply below_alloc|apply pw_below_drewN|apply below_drew1)|exact HB.out))) : w.heap.size ≤ gb112));clear HO_3;clear HB;have HO_3:=n0_;have HB:=n1_;have BK112:=n2_;have GW112:=n3_;have GE112:=n4_;clear n0_ n1_ n2_ n3_ n4_;clear hb hbox hg;have hcz14_0 : w13.cell? ⟨gb112,0,none⟩ = some (.int .i64 0):=(blk_cell BK112.out 0).trans rfl;have hcz14_1 : w13.cell? ⟨gb112,1,none⟩ = some (.bool false):=(blk_cell BK112.out 1).trans rfl;have hcz14_2 : w13.cell? ⟨gb112,2,none⟩ = some (.string (⟨#[]⟩ : ByteArray)):=(blk_cell BK112.out 2).trans rfl;have hcz14_3 : w13.cell? ⟨gb112,3,none⟩ = some (.slice none 0 0):=(blk_cell BK112.out 3).trans rfl;have hfz14_0:=blk_frozen BK112.out 0;have hfz14_1:=blk_frozen BK112.out 1;have hfz14_2:=blk_frozen BK112.out 2;have hfz14_3:=blk_frozen BK112.out 3)|((with_reducible refine gate_callee (f:=74) rfl ?_);refine goesL_ (some 24) rfl rfl Tryd.func74 (by kernel_rfl) rfl #[.agg #[.int .i64 ((rd_T49 l0 x18_1).f0),.bool ((rd_T49 l0 x18_1).f1),.string ((rd_T49 l0 x18_1).f2),.slice A111_3 ((rd_T49 l0 x18_1).f3).length c111_3]] rfl (by (try simp only [List.map_toArray,List.map_cons,List.map_nil]);first|done|rfl|(simp only [List.length_drop,List.length_take];rfl)) ?_;(with_reducible refine (impl_isReNode.calls k1 ((rd_T49 l0 x18_1).f0) ((rd_T49 l0 x18_1).f1) ((rd_T49 l0 x18_1).f2) _ _ ((rd_T49 l0 x18_1).f3) true _ ?side1 ?side2 A11.out).mono ?_);(case side1=>exact Kd.C_below HR111_3.out (by repeat (first|(with_reducible first|exact HB.out|apply below_alloc|apply pw_below_drewN|apply below_drew1|refine below_set ?_ GE112.out)|exact HB.out)));(case side2=>exact HC111_3.out);rintro e w15 ⟨rfl,hb⟩;refine ⟨_,rfl,?_⟩;have n0_:=Aside0.mk (Kd.R_below (by (with_reducible repeat (first|apply Kd.R_alloc|apply Kd.R_drewN|apply Kd.R_drew));exact (Kd.R_mono (Kd.R_far (p:=⟨gb112,3,none⟩) (Kd.R_far (p:=⟨gb112,2,none⟩) (Kd.R_far (p:=⟨gb112,1,none⟩) (Kd.R_far (p:=⟨gb112,0,none⟩) (Kd.R_types HO_3.out BK112.out (by decide)) (fun _ hk=>hk.2) (.int .i64 ((rd_T49 l0 x18_1).f0))) (fun _ hk=>hk.2) (.bool ((rd_T49 l0 x18_1).f1))) (fun _ hk=>hk.2) (.string ((rd_T49 l0 x18_1).f2))) (fun _ hk=>hk.2) (.slice A111_3 ((rd_T49 l0 x18_1).f3).length c111_3)) (fun _ h_=>h_.1))) hb);have n1_:=Aside0.mk (blk_below (g:=gb112) (o:=.cells #[.int .i64 ((rd_T49 l0 x18_1).f0),.bool ((rd_T49 l0 x18_1).f1),.string ((rd_T49 l0 x18_1).f2),.slice A111_3 ((rd_T49 l0 x18_1).f3).length c111_3] 49 (0,0)) (by (with_reducible repeat (first|refine blk_drewN ?_ _|refine blk_drew ?_|refine blk_alloc ?_ _));refine blk_put (cs:=#[.int .i64 ((rd_T49 l0 x18_1).f0),.bool ((rd_T49 l0 x18_1).f1),.string ((rd_T49 l0 x18_1).f2),.slice none 0 0]) ?_ 3 _ rfl;(with_reducible repeat (first|refine blk_drewN ?_ _|refine blk_drew ?_|refine blk_alloc ?_ _));refine blk_put (cs:=#[.int .i64 ((rd_T49 l0 x18_1).f0),.bool ((rd_T49 l0 x18_1).f1),.string (⟨#[]⟩ : ByteArray),.slice none 0 0]) ?_ 2 _ rfl;(with_reducible repeat (first|refine blk_drewN ?_ _|refine blk_drew ?_|refine blk_alloc ?_ _));refine blk_put (cs:=#[.int .i64 ((rd_T49 l0 x18_1).f0),.bool false,.string (⟨#[]⟩ : ByteArray),.slice none 0 0]) ?_ 1 _ rfl;(with_reducible repeat (first|refine blk_drewN ?_ _|refine blk_drew ?_|refine blk_alloc ?_ _));refine blk_put (cs:=#[.int .i64 0,.bool false,.string (⟨#[]⟩ : ByteArray),.slice none 0 0]) ?_ 0 _ rfl;(with_reducible repeat (first|refine blk_drewN ?_ _|refine blk_drew ?_|refine blk_alloc ?_ _));exact BK112.out) hb);have n2_:=Aside0.mk (below_step (by repeat (first|(with_reducible first|exact HB.out|apply below_alloc|apply pw_below_drewN|apply below_drew1|refine below_set ?_ GE112.out)|exact HB.out)) hb);clear HO_3;clear BK112;clear HB;have HO_3:=n0_;have BK112:=n1_;have HB:=n2_;clear n0_ n1_ n2_;(try clear hb);(try clear hb2);(try clear hk);(try clear hi);have hcz16_0 : w15.cell? ⟨gb112,0,none⟩ = some (.int .i64 ((rd_T49 l0 x18_1).f0)):=(blk_cell BK112.out 0).trans rfl;have hcz16_1 : w15.cell? ⟨gb112,1,none⟩ = some (.bool ((rd_T49 l0 x18_1).f1)):=(blk_cell BK112.out 1).trans rfl;have hcz16_2 : w15.cell? ⟨gb112,2,none⟩ = some (.string ((rd_T49 l0 x18_1).f2)):=(blk_cell BK112.out 2).trans rfl;have hcz16_3 : w15.cell? ⟨gb112,3,none⟩ = some (.slice A111_3 ((rd_T49 l0 x18_1).f3).length c111_3):=(blk_cell BK112.out 3).trans rfl;have hfz16_0:=blk_frozen BK112.out 0;have hfz16_1:=blk_frozen BK112.out 1;have hfz16_2:=blk_frozen BK112.out 2;have hfz16_3:=blk_frozen BK112.out 3))
          go_loopg [29] k1 (fun kq v29 w'=>∃ (x3_2 : List Int) (x29_2 : Int),v29 = .int .i64 x29_2 ∧ Aside0 (impl_ReOk.l1 kq l0 x3_2 x18_1 l0 (l0.length : Int) x18_1 ((rd_T49 l0 x18_1).f3) (((rd_T49 l0 x18_1).f3).length : Int) x29_2 = some r) ∧ Aside0 (kq ≤ k1) ∧ Aside0 (Kd.R (Kd.int .i64) 3 w' w.heap.size (fun _=>True) v104 x3_2) ∧ Aside0 (w'.heap[gb112]? = some (.cells #[.int .i64 ((rd_T49 l0 x18_1).f0),.bool ((rd_T49 l0 x18_1).f1),.string ((rd_T49 l0 x18_1).f2),(.slice A111_3 ((rd_T49 l0 x18_1).f3).length c111_3)] 49 (0,0))) ∧ Aside0 (Below w.heap.size w w'))
          case atStart=>exact ⟨(x3_1),(0),(by first|rfl|(simp;done)|(simp [*];done)),H',⟨Nat.le_refl _⟩,⟨by (with_reducible repeat (first|apply Kd.R_alloc|apply Kd.R_drewN|apply Kd.R_drew));exact HO_3.out⟩,⟨by (with_reducible repeat (first|refine blk_drewN ?_ _|refine blk_drew ?_|refine blk_alloc ?_ _));exact BK112.out⟩,⟨by repeat (first|(with_reducible first|exact HB.out|apply below_alloc|apply pw_below_drewN|apply below_drew1|refine below_set ?_ GE112.out)|exact HB.out)⟩⟩
          case round =>
           clear H'
           try clear c1
           try clear p1
           try clear q1
           try clear hx1
           try clear p2
           try clear c3
           try clear c4
           try clear c4b0
           try clear c4b1
           try clear c5
           try clear c5b0
           try clear c5b1
           try clear c6
           try clear c7
           try clear c8
           try clear c8b0
           try clear c9
           try clear c9b0
           try clear c10
           try clear c10b0
           try clear c11
           try clear p11
           try clear q11
           try clear hx11
           try clear c12
           try clear hcz14_0
           try clear hcz14_1
           try clear hcz14_2
           try clear hcz14_3
           try clear hcz16_0
           try clear hcz16_1
           try clear hcz16_2
           try clear hcz16_3
           try clear hfz14_0
           try clear hfz14_1
           try clear hfz14_2
           try clear hfz14_3
           try clear hfz16_0
           try clear hfz16_1
           try clear hfz16_2
           try clear hfz16_3
           try clear hx111_0
           try clear hx111_1
           try clear hx111_2
           try clear hx111_3
           try clear p111
           try clear p2
           try clear q111
           obtain ⟨x3_2,x29_2,rfl,HA,HK2,HO_3,BK112,HB⟩:=hrel
           cases gk with
           | zero=>exact absurd HA.out (by simp [impl_ReOk.l1])
           | succ k2 =>
            have H:=HA.out
            clear HA
            simp only [impl_ReOk.l1] at H
            by_cases c17 : x29_2 < (((rd_T49 l0 x18_1).f3).length : Int)
            ·rw [if_pos c17] at H
             have c17b0 : decide (x29_2 < (((rd_T49 l0 x18_1).f3).length : Int)) = true:=decide_eq_true c17
             clear c17
             by_cases c18 : 0 ≤ x29_2
             ·rw [if_pos c18] at H
              have c18b0 : decide (0 ≤ x29_2) = true:=decide_eq_true c18
              clear c18
              by_cases c19 : x29_2 < (((rd_T49 l0 x18_1).f3).length : Int)
              ·rw [if_pos c19] at H
               have c19b0 : decide (x29_2 < (((rd_T49 l0 x18_1).f3).length : Int)) = true:=decide_eq_true c19
               clear c19
               replace H:=Option.bind_eq_some_iff.mp H
               obtain ⟨t115,A200,H⟩:=H
               replace H : (if t115 = true then (if 0 ≤ (rd ((rd_T49 l0 x18_1).f3) x29_2) then (if (rd ((rd_T49 l0 x18_1).f3) x29_2) < (x3_2.length : Int) then (impl_ReOk.l1 k2 l0 (x3_2.set ((rd ((rd_T49 l0 x18_1).f3) x29_2) : Int).toNat (wrap64 ((rd x3_2 (rd ((rd_T49 l0 x18_1).f3) x29_2)) + 1))) x18_1 l0 (l0.length : Int) x18_1 ((rd_T49 l0 x18_1).f3) (((rd_T49 l0 x18_1).f3).length : Int) (wrap64 (x29_2 + 1))) else (none)) else (none)) else (some false)) = some r:=H
               have A20:=Aside0.mk A200
               clear A200
               by_cases c21 : t115 = true
               ·subst c21
                have H1 : (if 0 ≤ (rd ((rd_T49 l0 x18_1).f3) x29_2) then (if (rd ((rd_T49 l0 x18_1).f3) x29_2) < (x3_2.length : Int) then (impl_ReOk.l1 k2 l0 (x3_2.set ((rd ((rd_T49 l0 x18_1).f3) x29_2) : Int).toNat (wrap64 ((rd x3_2 (rd ((rd_T49 l0 x18_1).f3) x29_2)) + 1))) x18_1 l0 (l0.length : Int) x18_1 ((rd_T49 l0 x18_1).f3) (((rd_T49 l0 x18_1).f3).length : Int) (wrap64 (x29_2 + 1))) else (none)) else (none)) = some r:=by rw [if_pos rfl] at H;exact H
                clear H
                have H:=H1
                clear H1
                by_cases c22 : 0 ≤ (rd ((rd_T49 l0 x18_1).f3) x29_2)
                ·rw [if_pos c22] at H
                 have c22b0 : decide (0 ≤ (rd ((rd_T49 l0 x18_1).f3) x29_2)) = true:=decide_eq_true c22
                 clear c22
                 by_cases c23 : (rd ((rd_T49 l0 x18_1).f3) x29_2) < (x3_2.length : Int)
                 ·rw [if_pos c23] at H
                  have c23b0 : decide ((rd ((rd_T49 l0 x18_1).f3) x29_2) < (x3_2.length : Int)) = true:=decide_eq_true c23
                  clear c23
                  obtain ⟨y117,hy117⟩ : ∃ y_ : List Int,y_ = (x3_2.set ((rd ((rd_T49 l0 x18_1).f3) x29_2) : Int).toNat (wrap64 ((rd x3_2 (rd ((rd_T49 l0 x18_1).f3) x29_2)) + 1))):=⟨_,rfl⟩
                  replace H : (impl_ReOk.l1 k2 l0 y117 x18_1 l0 (l0.length : Int) x18_1 ((rd_T49 l0 x18_1).f3) (((rd_T49 l0 x18_1).f3).length : Int) (wrap64 (x29_2 + 1))) = some r:=by first|(rw [hy117];with_reducible exact H)|(have H2_:=(Option.bind_some _ _).symm.trans H;rw [hy117];with_reducible exact H2_)|(have H2_:=(Option.bind_some _ _).symm.trans H;with_reducible exact H2_)|with_reducible exact H|(rw [hy117];exact H)|exact H
                  have Ny117:=Aside0.mk hy117
                  clear hy117
                  have H':=Aside0.mk H
                  clear H
                  have p114 : 0 ≤ (x29_2 : Int):=of_decide_eq_true (by first|(with_reducible assumption)|assumption)
                  have q114 : x29_2 < (((rd_T49 l0 x18_1).f3).length : Int):=of_decide_eq_true (by first|(with_reducible assumption)|assumption)
                  obtain ⟨ad114,e114,hx114_0⟩:=Kd.at_int HR111_3.out x29_2 p114 q114
                  cases e114
                  replace hx114_0:=(HB.out.cell (World.block_lt_of_cell? w _ hx114_0)).trans hx114_0
                  replace p114:=eq_true p114
                  replace q114:=eq_true q114
                  go_wp2_with (first|((with_reducible refine gate_callee (f:=44) rfl ?_);refine goesL_ (some 36) rfl rfl Tryd.func44 (by kernel_rfl) rfl #[.int .i64 (rd ((rd_T49 l0 x18_1).f3) x29_2),.int .i64 0,.int .i64 (wrap64 (x18_1 - 1))] rfl (by (try simp only [List.map_toArray,List.map_cons,List.map_nil]);first|done|rfl|(simp only [List.length_drop,List.length_take];rfl)) ?_;(with_reducible refine (impl_between.calls (rd ((rd_T49 l0 x18_1).f3) x29_2) 0 (wrap64 (x18_1 - 1)) true _ A20.out).mono ?_);rintro e w' ⟨rfl,⟨nd,rfl⟩⟩;refine ⟨_,rfl,?_⟩;(try (rw [drewN_self wr];generalize hq_ : World.drewN wr _ = wr;have n0_ : Aside0 (Kd.R (Kd.int .i64) 3 wr w.heap.size (fun _=>True) v104 x3_2):=⟨by rw [← hq_];exact (by (with_reducible repeat (first|apply Kd.R_alloc|apply Kd.R_drewN|apply Kd.R_drew));exact HO_3.out)⟩;have n1_ : Aside0 (wr.heap[gb112]? = some (.cells #[.int .i64 ((rd_T49 l0 x18_1).f0),.bool ((rd_T49 l0 x18_1).f1),.string ((rd_T49 l0 x18_1).f2),.slice (some ad114) ((rd_T49 l0 x18_1).f3).length c111_3] 49 (0,0))):=⟨by rw [← hq_];exact (by (with_reducible repeat (first|refine blk_drewN ?_ _|refine blk_drew ?_|refine blk_alloc ?_ _));exact BK112.out)⟩;have n2_ : Aside0 (Below w.heap.size w wr):=⟨by rw [← hq_];exact (by repeat (first|(with_reducible first|exact HB.out|apply below_alloc|apply pw_below_drewN|apply below_drew1|refine below_set ?_ GE112.out)|exact HB.out))⟩;clear HO_3 BK112 HB hq_;have HO_3:=n0_;have BK112:=n1_;have HB:=n2_;clear n0_ n1_ n2_));obtain ⟨Ao25,co25,eo25⟩:=Kd.R_slice HO_3.out;subst eo25;have p116 : 0 ≤ ((rd ((rd_T49 l0 x18_1).f3) x29_2) : Int):=of_decide_eq_true (by first|(with_reducible assumption)|assumption);have q116 : (rd ((rd_T49 l0 x18_1).f3) x29_2) < (x3_2.length : Int):=of_decide_eq_true (by first|(with_reducible assumption)|assumption);obtain ⟨ad116,e116,hx116_0⟩:=Kd.at_int (Kd.R_reads' HO_3.out).2.2 (rd ((rd_T49 l0 x18_1).f3) x29_2) p116 q116;cases e116;replace p116:=eq_true p116;replace q116:=eq_true q116;have p24 : 0 ≤ ((rd ((rd_T49 l0 x18_1).f3) x29_2) : Int):=of_decide_eq_true (by first|(with_reducible assumption)|assumption);have q24 : ((rd ((rd_T49 l0 x18_1).f3) x29_2) : Int) < ((x3_2.length : Int) : Int):=of_decide_eq_true (by first|(with_reducible assumption)|assumption);obtain ⟨go24,co24,eo24,gb24,gl24,cl24,HG24⟩:=Kd.R_form HO_3.out (by omega);(first|cases eo24|(injection eo24 with ea_ en_ ec_;(first|subst ea_|(injection ea_ with ea_;subst ea_));subst ec_;clear en_));have GB24:=Aside0.mk gb24;have GG24:=Aside0.mk HG24;clear gb24 gl24 HG24;(first|simp only [add_plain] at hx116_0|skip);obtain ⟨hx24_0,hf24_0⟩:=Kd.R_celln 0 HO_3.out ((rd ((rd_T49 l0 x18_1).f3) x29_2) : Int) p24 q24;replace p24:=eq_true p24;replace q24:=eq_true q24;obtain ⟨hy26_,hz26_⟩:=Kd.R_celln 0 HO_3.out ((rd ((rd_T49 l0 x18_1).f3) x29_2) : Int) (of_decide_eq_true (by first|(with_reducible assumption)|assumption)) (of_decide_eq_true (by first|(with_reducible assumption)|assumption));have HP26:=Kd.R_putg HO_3.out ((rd ((rd_T49 l0 x18_1).f3) x29_2) : Int) (wrap64 ((rd x3_2 (rd ((rd_T49 l0 x18_1).f3) x29_2)) + 1)))|((with_reducible refine gate_store (t:=3) (p:=43) rfl ?_);refine store_event (t:=3) (p:=43) (v:=?vo_w27) (w1:=(wr.setCell ⟨go24,((rd ((rd_T49 l0 x18_1).f3) x29_2) : Int).toNat,none⟩ (.int .i64 (wrap64 ((rd x3_2 (rd ((rd_T49 l0 x18_1).f3) x29_2)) + 1))))) ?hg ?ho ?hn ?hr ?_;(case ho=>rfl);(case hg=>rfl);(case hn=>rfl);(case hr=>first|(go_simp;done)|(go_simp;rfl));intro w27 hw;have hg : wr.grownBy w27 (some go24):=(by rw [hw];exact HP26.2);have hp_ : Kd.R (Kd.int .i64) 3 w27 w.heap.size (fun _=>True) (.slice (some ⟨go24,0,none⟩) x3_2.length co25) y117:=(by rw [hw,Ny117.out];exact HP26.1);clear HP26;have n0_:=Aside0.mk (hp_);have n1_:=Aside0.mk (blk_grown (g:=gb112) (o:=.cells #[.int .i64 ((rd_T49 l0 x18_1).f0),.bool ((rd_T49 l0 x18_1).f1),.string ((rd_T49 l0 x18_1).f2),.slice (some ad114) ((rd_T49 l0 x18_1).f3).length c111_3] 49 (0,0)) (by (with_reducible repeat (first|refine blk_drewN ?_ _|refine blk_drew ?_|refine blk_alloc ?_ _));exact BK112.out) hg (Kd.R_ne HO_3.out BK112.out (by decide)));have n2_:=Aside0.mk ((by rw [hw];exact below_set (HB.out) GB24.out : Below w.heap.size w w27));clear HO_3;clear BK112;clear HB;have HO_3:=n0_;have BK112:=n1_;have HB:=n2_;clear n0_ n1_ n2_;clear hg hw hp_))
                  go_roundg k2
                  case measure=>have:=HK1.out;have:=HK2.out;omega
                  case rel=>exact ⟨(y117),(wrap64 (x29_2 + 1)),(by first|rfl|(simp;done)|(simp [*];done)),H',⟨by have:=HK1.out;have:=HK2.out;omega⟩,⟨by (with_reducible repeat (first|apply Kd.R_alloc|apply Kd.R_drewN|apply Kd.R_drew));exact HO_3.out⟩,⟨by (with_reducible repeat (first|refine blk_drewN ?_ _|refine blk_drew ?_|refine blk_alloc ?_ _));exact BK112.out⟩,⟨by repeat (first|(with_reducible first|exact HB.out|apply below_alloc|apply pw_below_drewN|apply below_drew1|refine below_set ?_ GE112.out)|exact HB.out)⟩⟩
                 ·rw [if_neg c23] at H
                  exact absurd H (by simp)
                ·rw [if_neg c22] at H
                 exact absurd H (by simp)
               ·replace c21:=Bool.eq_false_iff.mpr c21
                subst c21
                have H1 : (some false) = some r:=by rw [if_neg (show ¬ (false = true) by decide)] at H;exact H
                clear H
                have H:=H1
                clear H1
                obtain rfl:=Option.some.inj H
                have p114 : 0 ≤ (x29_2 : Int):=of_decide_eq_true (by first|(with_reducible assumption)|assumption)
                have q114 : x29_2 < (((rd_T49 l0 x18_1).f3).length : Int):=of_decide_eq_true (by first|(with_reducible assumption)|assumption)
                obtain ⟨ad114,e114,hx114_0⟩:=Kd.at_int HR111_3.out x29_2 p114 q114
                cases e114
                replace hx114_0:=(HB.out.cell (World.block_lt_of_cell? w _ hx114_0)).trans hx114_0
                replace p114:=eq_true p114
                replace q114:=eq_true q114
                go_wp2_with (first|((with_reducible refine gate_callee (f:=44) rfl ?_);refine goesL_ (some 36) rfl rfl Tryd.func44 (by kernel_rfl) rfl #[.int .i64 (rd ((rd_T49 l0 x18_1).f3) x29_2),.int .i64 0,.int .i64 (wrap64 (x18_1 - 1))] rfl (by (try simp only [List.map_toArray,List.map_cons,List.map_nil]);first|done|rfl|(simp only [List.length_drop,List.length_take];rfl)) ?_;(with_reducible refine (impl_between.calls (rd ((rd_T49 l0 x18_1).f3) x29_2) 0 (wrap64 (x18_1 - 1)) false _ A20.out).mono ?_);rintro e w' ⟨rfl,⟨nd,rfl⟩⟩;refine ⟨_,rfl,?_⟩))
                go_ret
                exact ⟨by first|rfl|(simp [errW_none,errW_some] <;> rfl)|(simp [*,errW_none,errW_some] <;> rfl),by repeat (first|(with_reducible first|exact HB.out|apply below_alloc|apply pw_below_drewN|apply below_drew1|refine below_set ?_ GE112.out)|exact HB.out)⟩
              ·rw [if_neg c19] at H
               exact absurd H (by simp)
             ·rw [if_neg c18] at H
              exact absurd H (by simp)
            ·rw [if_neg c17] at H
             have c17b0 : decide (x29_2 < (((rd_T49 l0 x18_1).f3).length : Int)) = false:=decide_eq_false c17
             clear c17
             have H':=Aside0.mk H
             clear H
             go_wp2
             go_roundg k2
             case measure=>have:=HK1.out;have:=HK2.out;omega
             case rel=>exact ⟨(x3_2),(wrap64 (x18_1 + 1)),(by first|rfl|(simp;done)|(simp [*];done)),H',⟨by have:=HK1.out;have:=HK2.out;omega⟩,⟨by (with_reducible repeat (first|apply Kd.R_alloc|apply Kd.R_drewN|apply Kd.R_drew));exact HO_3.out⟩,⟨by repeat (first|(with_reducible first|exact HB.out|apply below_alloc|apply pw_below_drewN|apply below_drew1|refine below_set ?_ GE112.out)|exact HB.out)⟩⟩
         ·replace c12:=Bool.eq_false_iff.mpr c12
          subst c12
          have H1 : (some false) = some r:=by rw [if_neg (show ¬ (false = true) by decide)] at H;exact H
          clear H
          have H:=H1
          clear H1
          obtain rfl:=Option.some.inj H
          have p111 : 0 ≤ (x18_1 : Int):=of_decide_eq_true (by first|(with_reducible assumption)|assumption)
          have q111 : x18_1 < (l0.length : Int):=of_decide_eq_true (by first|(with_reducible assumption)|assumption)
          obtain ⟨ad111,A111_3,c111_3,e111,hx111_0,hx111_1,hx111_2,hx111_3,hl111_3,hi111_3⟩:=at_T49 HR0.out x18_1 p111 q111
          cases e111
          replace hx111_0:=(HB.out.cell (World.block_lt_of_cell? w _ hx111_0)).trans hx111_0
          replace hx111_1:=(HB.out.cell (World.block_lt_of_cell? w _ hx111_1)).trans hx111_1
          replace hx111_2:=(HB.out.cell (World.block_lt_of_cell? w _ hx111_2)).trans hx111_2
          replace hx111_3:=(HB.out.cell (World.block_lt_of_cell? w _ hx111_3)).trans hx111_3
          have HR111_3:=Aside0.mk hi111_3
          have HC111_3:=Aside0.mk hl111_3
          clear hi111_3 hl111_3
          replace p111:=eq_true p111
          replace q111:=eq_true q111
          go_wp2_with (first|((with_reducible refine gate_dst (N:=5) rfl ?_);refine box_event ?hg (N:=5) ?hd (cs:=#[.int .i64 0,.bool false,.string (⟨#[]⟩ : ByteArray),.slice none 0 0]) (t:=49) ?hr ?_;(case hd=>rfl);(case hg=>rfl);(case hr=>first|(go_simp;done)|(go_simp;rfl));intro gb112 hg w28 hbox hb;have n0_:=Aside0.mk (Kd.R_below (by (with_reducible repeat (first|apply Kd.R_alloc|apply Kd.R_drewN|apply Kd.R_drew));exact HO_3.out) hb);have n1_:=Aside0.mk (below_step (by repeat (first|(with_reducible first|exact HB.out|apply below_alloc|apply pw_below_drewN|apply below_drew1)|exact HB.out)) hb);have n2_:=Aside0.mk (hbox);have n3_:=Aside0.mk ((by rw [hg];exact (below_size (by repeat (first|(with_reducible first|exact HB.out|apply below_alloc|apply pw_below_drewN|apply below_drew1)|exact HB.out))) : w.heap.size ≤ gb112));have n4_:=Aside0.mk ((by rw [hg];exact (below_size (by repeat (first|(with_reducible first|exact HB.out|apply below_alloc|apply pw_below_drewN|apply below_drew1)|exact HB.out))) : w.heap.size ≤ gb112));clear HO_3;clear HB;have HO_3:=n0_;have HB:=n1_;have BK112:=n2_;have GW112:=n3_;have GE112:=n4_;clear n0_ n1_ n2_ n3_ n4_;clear hb hbox hg;have hcz29_0 : w28.cell? ⟨gb112,0,none⟩ = some (.int .i64 0):=(blk_cell BK112.out 0).trans rfl;have hcz29_1 : w28.cell? ⟨gb112,1,none⟩ = some (.bool false):=(blk_cell BK112.out 1).trans rfl;have hcz29_2 : w28.cell? ⟨gb112,2,none⟩ = some (.string (⟨#[]⟩ : ByteArray)):=(blk_cell BK112.out 2).trans rfl;have hcz29_3 : w28.cell? ⟨gb112,3,none⟩ = some (.slice none 0 0):=(blk_cell BK112.out 3).trans rfl;have hfz29_0:=blk_frozen BK112.out 0;have hfz29_1:=blk_frozen BK112.out 1;have hfz29_2:=blk_frozen BK112.out 2;have hfz29_3:=blk_frozen BK112.out 3)|((with_reducible refine gate_callee (f:=74) rfl ?_);refine goesL_ (some 24) rfl rfl Tryd.func74 (by kernel_rfl) rfl #[.agg #[.int .i64 ((rd_T49 l0 x18_1).f0),.bool ((rd_T49 l0 x18_1).f1),.string ((rd_T49 l0 x18_1).f2),.slice A111_3 ((rd_T49 l0 x18_1).f3).length c111_3]] rfl (by (try simp only [List.map_toArray,List.map_cons,List.map_nil]);first|done|rfl|(simp only [List.length_drop,List.length_take];rfl)) ?_;(with_reducible refine (impl_isReNode.calls k1 ((rd_T49 l0 x18_1).f0) ((rd_T49 l0 x18_1).f1) ((rd_T49 l0 x18_1).f2) _ _ ((rd_T49 l0 x18_1).f3) false _ ?side1 ?side2 A11.out).mono ?_);(case side1=>exact Kd.C_below HR111_3.out (by repeat (first|(with_reducible first|exact HB.out|apply below_alloc|apply pw_below_drewN|apply below_drew1|refine below_set ?_ GE112.out)|exact HB.out)));(case side2=>exact HC111_3.out);rintro e w30 ⟨rfl,hb⟩;refine ⟨_,rfl,?_⟩;have n0_:=Aside0.mk (Kd.R_below (by (with_reducible repeat (first|apply Kd.R_alloc|apply Kd.R_drewN|apply Kd.R_drew));exact (Kd.R_mono (Kd.R_far (p:=⟨gb112,3,none⟩) (Kd.R_far (p:=⟨gb112,2,none⟩) (Kd.R_far (p:=⟨gb112,1,none⟩) (Kd.R_far (p:=⟨gb112,0,none⟩) (Kd.R_types HO_3.out BK112.out (by decide)) (fun _ hk=>hk.2) (.int .i64 ((rd_T49 l0 x18_1).f0))) (fun _ hk=>hk.2) (.bool ((rd_T49 l0 x18_1).f1))) (fun _ hk=>hk.2) (.string ((rd_T49 l0 x18_1).f2))) (fun _ hk=>hk.2) (.slice A111_3 ((rd_T49 l0 x18_1).f3).length c111_3)) (fun _ h_=>h_.1))) hb);have n1_:=Aside0.mk (blk_below (g:=gb112) (o:=.cells #[.int .i64 ((rd_T49 l0 x18_1).f0),.bool ((rd_T49 l0 x18_1).f1),.string ((rd_T49 l0 x18_1).f2),.slice A111_3 ((rd_T49 l0 x18_1).f3).length c111_3] 49 (0,0)) (by (with_reducible repeat (first|refine blk_drewN ?_ _|refine blk_drew ?_|refine blk_alloc ?_ _));refine blk_put (cs:=#[.int .i64 ((rd_T49 l0 x18_1).f0),.bool ((rd_T49 l0 x18_1).f1),.string ((rd_T49 l0 x18_1).f2),.slice none 0 0]) ?_ 3 _ rfl;(with_reducible repeat (first|refine blk_drewN ?_ _|refine blk_drew ?_|refine blk_alloc ?_ _));refine blk_put (cs:=#[.int .i64 ((rd_T49 l0 x18_1).f0),.bool ((rd_T49 l0 x18_1).f1),.string (⟨#[]⟩ : ByteArray),.slice none 0 0]) ?_ 2 _ rfl;(with_reducible repeat (first|refine blk_drewN ?_ _|refine blk_drew ?_|refine blk_alloc ?_ _));refine blk_put (cs:=#[.int .i64 ((rd_T49 l0 x18_1).f0),.bool false,.string (⟨#[]⟩ : ByteArray),.slice none 0 0]) ?_ 1 _ rfl;(with_reducible repeat (first|refine blk_drewN ?_ _|refine blk_drew ?_|refine blk_alloc ?_ _));refine blk_put (cs:=#[.int .i64 0,.bool false,.string (⟨#[]⟩ : ByteArray),.slice none 0 0]) ?_ 0 _ rfl;(with_reducible repeat (first|refine blk_drewN ?_ _|refine blk_drew ?_|refine blk_alloc ?_ _));exact BK112.out) hb);have n2_:=Aside0.mk (below_step (by repeat (first|(with_reducible first|exact HB.out|apply below_alloc|apply pw_below_drewN|apply below_drew1|refine below_set ?_ GE112.out)|exact HB.out)) hb);clear HO_3;clear BK112;clear HB;have HO_3:=n0_;have BK112:=n1_;have HB:=n2_;clear n0_ n1_ n2_;(try clear hb);(try clear hb2);(try clear hk);(try clear hi)))
          go_ret
          exact ⟨by first|rfl|(simp [errW_none,errW_some] <;> rfl)|(simp [*,errW_none,errW_some] <;> rfl),by repeat (first|(with_reducible first|exact HB.out|apply below_alloc|apply pw_below_drewN|apply below_drew1|refine below_set ?_ GE112.out)|exact HB.out)⟩
        ·rw [if_neg c10] at H
         exact absurd H (by simp)
       ·rw [if_neg c9] at H
        exact absurd H (by simp)
      ·rw [if_neg c8] at H
       have c8b0 : decide (x18_1 < (l0.length : Int)) = false:=decide_eq_false c8
       clear c8
       obtain ⟨ji31,hji31⟩ : ∃ j_ : Int,(wrap64 ((l0.length : Int) - 1)) = j_:=⟨_,rfl⟩
       replace H : (if 0 ≤ (ji31) then (if (ji31) ≤ (x3_1.length : Int) then ((slices_ContainsFunc_int_int.f (x3_1.take ((ji31) : Int).toNat) 76).bind fun t110=>(some (!t110))) else (none)) else (none)) = some r:=by first|(rw [hji31] at H;exact H)|(simp only [hji31] at H ⊢;exact H)
       have hji31w : (IntKind.i64.wrap ((l0.length : Int) - 1)) = ji31:=(i64_w _).trans hji31
       by_cases c32 : 0 ≤ (ji31)
       ·rw [if_pos c32] at H
        have c32b0:=eq_true c32
        have c32b1 : decide (0 ≤ (ji31)) = true:=decide_eq_true c32
        clear c32
        by_cases c33 : (ji31) ≤ (x3_1.length : Int)
        ·rw [if_pos c33] at H
         have c33b0:=eq_true c33
         have c33b1 : decide ((ji31) ≤ (x3_1.length : Int)) = true:=decide_eq_true c33
         clear c33
         obtain ⟨y106,hy106⟩ : ∃ y_ : List Int,y_ = (x3_1.take ((ji31) : Int).toNat):=⟨_,rfl⟩
         replace H : ((slices_ContainsFunc_int_int.f y106 76).bind fun t110=>(some (!t110))) = some r:=by first|(rw [hy106];with_reducible exact H)|(have H2_:=(Option.bind_some _ _).symm.trans H;rw [hy106];with_reducible exact H2_)|(have H2_:=(Option.bind_some _ _).symm.trans H;with_reducible exact H2_)|with_reducible exact H|(rw [hy106];exact H)|exact H
         have Ny106:=Aside0.mk hy106
         clear hy106
         replace H:=Option.bind_eq_some_iff.mp H
         obtain ⟨t110,A340,H⟩:=H
         replace H : (some (!t110)) = some r:=H
         have A34:=Aside0.mk A340
         clear A340
         obtain rfl:=Option.some.inj H
         obtain ⟨Ao36,co36,eo36⟩:=Kd.R_slice HO_3.out
         subst eo36
         have q35 : ((ji31) : Int) ≤ ((x3_1.length : Int) : Int):=of_decide_eq_true (by first|(with_reducible assumption)|assumption)
         obtain ⟨i035,hi035,_,hsz35,_⟩:=info_parts info3
         have hroom35 : x3_1.length ≤ co36:=(Kd.R_reads' HO_3.out).2.1
         have hC35 : Kd.C (Kd.int .i64) _ Ao36 x3_1.length x3_1:=(Kd.R_reads' HO_3.out).2.2
         have hcut35:=cut_to (P:=Tryd.prog) 31 3 .i64 Tryd.underlying31 hi035 Ao36 x3_1.length co36 (ji31) (of_decide_eq_true (by first|(with_reducible assumption)|assumption)) q35 hroom35
         have hr35:=Kd.C_take (m:=((ji31) : Int).toNat) hC35 (by omega)
         have hy35 : y106.length = ((ji31) : Int).toNat:=(by rw [Ny106.out,List.length_take];omega)
         rw [← Ny106.out] at hr35
         rw [← hy35] at hcut35
         have HR109:=Aside0.mk hr35
         have HC109:=Aside0.mk (show y106.length ≤ co36 from by omega)
         clear hr35 hC35 hroom35 hi035 hsz35
         have KY35:=Aside0.mk hy35
         clear hy35
         have KL35:=Aside0.mk (show ((ji31) : Int).toNat ≤ x3_1.length from by omega)
         replace q35:=eq_true q35
         go_wp2_with (first|((with_reducible refine gate_callee (f:=75) rfl ?_);refine goesL_ (some 52) rfl rfl Tryd.func75 (by kernel_rfl) rfl #[.slice Ao36 y106.length co36,.func (.func 76) #[] #[]] rfl (by (try simp only [List.map_toArray,List.map_cons,List.map_nil]);first|done|rfl|(simp only [List.length_drop,List.length_take];rfl)) ?_;(with_reducible refine (slices_ContainsFunc_int_int.calls _ _ y106 76 t110 _ ?side1 ?side2 A34.out).mono ?_);(case side1=>repeat (first|exact (by repeat (first|(with_reducible exact HR109.out)|(with_reducible refine Kd.C_alloc ?_ _)|(with_reducible refine Kd.C_drewN ?_ _)|(with_reducible refine Kd.C_drew ?_)|exact HR109.out))|(with_reducible refine Kd.C_alloc ?_ _)|(with_reducible refine Kd.C_drewN ?_ _)|(with_reducible refine Kd.C_drew ?_)));(case side2=>exact HC109.out);rintro e w' ⟨rfl,⟨nd,rfl⟩⟩;refine ⟨_,rfl,?_⟩))
         go_ret
         exact ⟨by first|rfl|(simp [errW_none,errW_some] <;> rfl)|(simp only [← hji31];first|rfl|(simp [errW_none,errW_some] <;> rfl))|(simp [*,errW_none,errW_some] <;> rfl),by repeat (first|(with_reducible first|exact HB.out|apply below_alloc|apply pw_below_drewN|apply below_drew1)|exact HB.out)⟩
        ·rw [if_neg c33] at H
         exact absurd H (by simp)
       ·rw [if_neg c32] at H
        exact absurd H (by simp)
   ·rw [if_neg c5] at H
    exact absurd H (by simp)
  ·rw [if_neg c4] at H
   exact absurd H (by simp)
 ·replace c3:=Bool.eq_false_iff.mpr c3
  subst c3
  have H1 : (some false) = some r:=by rw [if_neg (show ¬ (false = true) by decide)] at H;exact H
  clear H
  have H:=H1
  clear H1
  obtain rfl:=Option.some.inj H
  go_enter Tryd.func60,Tryd.ntmps60
  go_wp2_with (first|((with_reducible refine gate_callee (f:=44) rfl ?_);refine goesL_ (some 11) rfl rfl Tryd.func44 (by kernel_rfl) rfl #[.int .i64 (l0.length : Int),.int .i64 1,.int .i64 200] rfl (by (try simp only [List.map_toArray,List.map_cons,List.map_nil]);first|done|rfl|(simp only [List.length_drop,List.length_take];rfl)) ?_;(with_reducible refine (impl_between.calls (l0.length : Int) 1 200 false _ A2.out).mono ?_);rintro e w' ⟨rfl,⟨nd,rfl⟩⟩;refine ⟨_,rfl,?_⟩))
  go_ret
  exact ⟨by first|rfl|(simp [errW_none,errW_some] <;> rfl)|(simp [*,errW_none,errW_some] <;> rfl),by repeat (first|(with_reducible first|exact HB.out|apply below_alloc|apply pw_below_drewN|apply below_drew1)|exact HB.out)⟩
def impl_inSet.l0 : Nat → Int → Int → Int → Bool → ByteArray → List Int → Option (Bool)
 | 0,_,_,_,_,_,_=>none
 | k + 1,x1,x5,x119000,x119001,x119002,x119003=>if x5 < (x119002.size : Int) then (if 0 ≤ x5 then (if x1 ≥ (bt x119002 x5) then (if 0 ≤ (wrap64 (x5 + 1)) then (if (wrap64 (x5 + 1)) < (x119002.size : Int) then (if x1 ≤ (bt x119002 (wrap64 (x5 + 1))) then (some (!x119001)) else (impl_inSet.l0 k x1 (wrap64 (x5 + 2)) x119000 x119001 x119002 x119003)) else (none)) else (none)) else (impl_inSet.l0 k x1 (wrap64 (x5 + 2)) x119000 x119001 x119002 x119003)) else (none)) else (some x119001)
def impl_inSet.f (k : Nat) (a0_0 : Int) (a0_1 : Bool) (a0_2 : ByteArray) (l0_3 : List Int) (a1 : Int) : Option (Bool):=impl_inSet.l0 k a1 0 a0_0 a0_1 a0_2 l0_3
set_option maxHeartbeats 8000000 in
set_option maxRecDepth 100000 in
theorem impl_inSet.calls (k : Nat) (a0_0 : Int) (a0_1 : Bool) (a0_2 : ByteArray) (A0_3 : Option Addr) (c0_3 : Nat) (l0_3 : List Int) (a1 : Int) (r : Bool) (w : World) (hr0_3 : Kd.C (Kd.int .i64) w A0_3 l0_3.length l0_3) (hc0_3 : l0_3.length ≤ c0_3) (h : impl_inSet.f k a0_0 a0_1 a0_2 l0_3 a1 = some r) :
  Calls Tryd.prog 77 #[.agg #[.int .i64 a0_0,.bool a0_1,.string a0_2,.slice A0_3 l0_3.length c0_3],.int .u8 a1] w fun e w'=>e = .returned (.bool r) ∧ Below w.heap.size w w':=by
 have hu49:=Tryd.underlying49
 have HR0_3:=Aside0.mk hr0_3
 have HC0_3:=Aside0.mk hc0_3
 clear hr0_3 hc0_3
 have HB:=Aside0.mk (Below.refl w.heap.size w)
 have H : (impl_inSet.l0 k a1 0 a0_0 a0_1 a0_2 l0_3) = some r:=h
 clear h
 have H':=Aside0.mk H
 clear H
 go_enter Tryd.func77,Tryd.ntmps77
 go_wp2_with (first|((with_reducible refine gate_dst (N:=2) rfl ?_);refine box_event ?hg (N:=2) ?hd (cs:=#[.int .i64 a0_0,.bool a0_1,.string a0_2,.slice A0_3 l0_3.length c0_3]) (t:=49) ?hr ?_;(case hd=>rfl);(case hg=>rfl);(case hr=>first|(go_simp;done)|(go_simp;rfl));intro gb118 hg w3 hbox hb;have n0_:=Aside0.mk (below_step (by repeat (first|(with_reducible first|exact HB.out|apply below_alloc|apply pw_below_drewN|apply below_drew1)|exact HB.out)) hb);have n1_:=Aside0.mk (hbox);have n2_:=Aside0.mk ((by rw [hg];exact (below_size (by repeat (first|(with_reducible first|exact HB.out|apply below_alloc|apply pw_below_drewN|apply below_drew1)|exact HB.out))) : w.heap.size ≤ gb118));have n3_:=Aside0.mk ((by rw [hg];exact (below_size (by repeat (first|(with_reducible first|exact HB.out|apply below_alloc|apply pw_below_drewN|apply below_drew1)|exact HB.out))) : w.heap.size ≤ gb118));clear HB;have HB:=n0_;have BK118:=n1_;have GW118:=n2_;have GE118:=n3_;clear n0_ n1_ n2_ n3_;clear hb hbox hg))
 go_loopg [5] k (fun kq v5 w'=>∃ (x5_1 : Int),v5 = .int .i64 x5_1 ∧ Aside0 (impl_inSet.l0 kq a1 x5_1 a0_0 a0_1 a0_2 l0_3 = some r) ∧ Aside0 (kq ≤ k) ∧ Aside0 (w'.heap[gb118]? = some (.cells #[.int .i64 a0_0,.bool a0_1,.string a0_2,(.slice A0_3 l0_3.length c0_3)] 49 (0,0))) ∧ Aside0 (Below w.heap.size w w'))
 case atStart=>exact ⟨(0),(by first|rfl|(simp;done)|(simp [*];done)),H',⟨Nat.le_refl _⟩,⟨by (with_reducible repeat (first|refine blk_drewN ?_ _|refine blk_drew ?_|refine blk_alloc ?_ _));exact BK118.out⟩,⟨by repeat (first|(with_reducible first|exact HB.out|apply below_alloc|apply pw_below_drewN|apply below_drew1|refine below_set ?_ GE118.out)|exact HB.out)⟩⟩
 case round =>
  clear H'
  try clear p2
  obtain ⟨x5_1,rfl,HA,HK1,BK118,HB⟩:=hrel
  cases gk with
  | zero=>exact absurd HA.out (by simp [impl_inSet.l0])
  | succ k1 =>
   have H:=HA.out
   clear HA
   simp only [impl_inSet.l0] at H
   by_cases c4 : x5_1 < (a0_2.size : Int)
   ·rw [if_pos c4] at H
    have c4b0 : decide (x5_1 < (a0_2.size : Int)) = true:=decide_eq_true c4
    clear c4
    by_cases c5 : 0 ≤ x5_1
    ·rw [if_pos c5] at H
     have c5b0 : decide (0 ≤ x5_1) = true:=decide_eq_true c5
     clear c5
     by_cases c7 : a1 ≥ (bt a0_2 x5_1)
     ·rw [if_pos c7] at H
      have c7b0 : decide ((bt a0_2 x5_1) ≤ a1) = true:=decide_eq_true c7
      clear c7
      obtain ⟨ji8,hji8⟩ : ∃ j_ : Int,(wrap64 (x5_1 + 1)) = j_:=⟨_,rfl⟩
      replace H : (if 0 ≤ (ji8) then (if (ji8) < (a0_2.size : Int) then (if a1 ≤ (bt a0_2 (ji8)) then (some (!a0_1)) else (impl_inSet.l0 k1 a1 (wrap64 (x5_1 + 2)) a0_0 a0_1 a0_2 l0_3)) else (none)) else (none)) = some r:=by first|(rw [hji8] at H;exact H)|(simp only [hji8] at H ⊢;exact H)
      have hji8w : (IntKind.i64.wrap (x5_1 + 1)) = ji8:=(i64_w _).trans hji8
      by_cases c9 : 0 ≤ (ji8)
      ·rw [if_pos c9] at H
       have c9b0 : decide (0 ≤ (ji8)) = true:=decide_eq_true c9
       clear c9
       by_cases c10 : (ji8) < (a0_2.size : Int)
       ·rw [if_pos c10] at H
        have c10b0 : decide ((ji8) < (a0_2.size : Int)) = true:=decide_eq_true c10
        clear c10
        by_cases c12 : a1 ≤ (bt a0_2 (ji8))
        ·rw [if_pos c12] at H
         have c12b0 : decide (a1 ≤ (bt a0_2 (ji8))) = true:=decide_eq_true c12
         clear c12
         obtain rfl:=Option.some.inj H
         have hcz13_0 : wr.cell? ⟨gb118,0,none⟩ = some (.int .i64 a0_0):=(blk_cell BK118.out 0).trans rfl
         have hcz13_1 : wr.cell? ⟨gb118,1,none⟩ = some (.bool a0_1):=(blk_cell BK118.out 1).trans rfl
         have hcz13_2 : wr.cell? ⟨gb118,2,none⟩ = some (.string a0_2):=(blk_cell BK118.out 2).trans rfl
         have hcz13_3 : wr.cell? ⟨gb118,3,none⟩ = some (.slice A0_3 l0_3.length c0_3):=(blk_cell BK118.out 3).trans rfl
         have hfz13_0:=blk_frozen BK118.out 0
         have hfz13_1:=blk_frozen BK118.out 1
         have hfz13_2:=blk_frozen BK118.out 2
         have hfz13_3:=blk_frozen BK118.out 3
         have p6 : 0 ≤ (x5_1 : Int):=of_decide_eq_true (by first|(with_reducible assumption)|assumption)
         have q6 : x5_1 < (a0_2.size : Int):=of_decide_eq_true (by first|(with_reducible assumption)|assumption)
         have hx6:=bt_at a0_2 x5_1
         replace p6:=eq_true p6
         replace q6:=eq_true q6
         have p11 : 0 ≤ ((ji8) : Int):=of_decide_eq_true (by first|(with_reducible assumption)|assumption)
         have q11 : (ji8) < (a0_2.size : Int):=of_decide_eq_true (by first|(with_reducible assumption)|assumption)
         have hx11:=bt_at a0_2 (ji8)
         replace p11:=eq_true p11
         replace q11:=eq_true q11
         go_wp2
         go_ret
         exact ⟨by first|rfl|(simp [errW_none,errW_some] <;> rfl)|(simp only [← hji8];first|rfl|(simp [errW_none,errW_some] <;> rfl))|(simp [*,errW_none,errW_some] <;> rfl),by repeat (first|(with_reducible first|exact HB.out|apply below_alloc|apply pw_below_drewN|apply below_drew1|refine below_set ?_ GE118.out)|exact HB.out)⟩
        ·rw [if_neg c12] at H
         have c12b0 : decide (a1 ≤ (bt a0_2 (ji8))) = false:=decide_eq_false c12
         clear c12
         have H':=Aside0.mk H
         clear H
         have hcz14_0 : wr.cell? ⟨gb118,0,none⟩ = some (.int .i64 a0_0):=(blk_cell BK118.out 0).trans rfl
         have hcz14_1 : wr.cell? ⟨gb118,1,none⟩ = some (.bool a0_1):=(blk_cell BK118.out 1).trans rfl
         have hcz14_2 : wr.cell? ⟨gb118,2,none⟩ = some (.string a0_2):=(blk_cell BK118.out 2).trans rfl
         have hcz14_3 : wr.cell? ⟨gb118,3,none⟩ = some (.slice A0_3 l0_3.length c0_3):=(blk_cell BK118.out 3).trans rfl
         have hfz14_0:=blk_frozen BK118.out 0
         have hfz14_1:=blk_frozen BK118.out 1
         have hfz14_2:=blk_frozen BK118.out 2
         have hfz14_3:=blk_frozen BK118.out 3
         have p6 : 0 ≤ (x5_1 : Int):=of_decide_eq_true (by first|(with_reducible assumption)|assumption)
         have q6 : x5_1 < (a0_2.size : Int):=of_decide_eq_true (by first|(with_reducible assumption)|assumption)
         have hx6:=bt_at a0_2 x5_1
         replace p6:=eq_true p6
         replace q6:=eq_true q6
         have p11 : 0 ≤ ((ji8) : Int):=of_decide_eq_true (by first|(with_reducible assumption)|assumption)
         have q11 : (ji8) < (a0_2.size : Int):=of_decide_eq_true (by first|(with_reducible assumption)|assumption)
         have hx11:=bt_at a0_2 (ji8)
         replace p11:=eq_true p11
         replace q11:=eq_true q11
         go_wp2
         go_roundg k1
         case measure=>have:=HK1.out;omega
         case rel=>exact ⟨(wrap64 (x5_1 + 2)),(by first|rfl|(simp;done)|(simp [*];done)),H',⟨by have:=HK1.out;omega⟩,⟨by (with_reducible repeat (first|refine blk_drewN ?_ _|refine blk_drew ?_|refine blk_alloc ?_ _));exact BK118.out⟩,⟨by repeat (first|(with_reducible first|exact HB.out|apply below_alloc|apply pw_below_drewN|apply below_drew1|refine below_set ?_ GE118.out)|exact HB.out)⟩⟩
       ·rw [if_neg c10] at H
        exact absurd H (by simp)
      ·rw [if_neg c9] at H
       exact absurd H (by simp)
     ·rw [if_neg c7] at H
      have c7b0 : decide ((bt a0_2 x5_1) ≤ a1) = false:=decide_eq_false c7
      clear c7
      have H':=Aside0.mk H
      clear H
      have hcz15_0 : wr.cell? ⟨gb118,0,none⟩ = some (.int .i64 a0_0):=(blk_cell BK118.out 0).trans rfl
      have hcz15_1 : wr.cell? ⟨gb118,1,none⟩ = some (.bool a0_1):=(blk_cell BK118.out 1).trans rfl
      have hcz15_2 : wr.cell? ⟨gb118,2,none⟩ = some (.string a0_2):=(blk_cell BK118.out 2).trans rfl
      have hcz15_3 : wr.cell? ⟨gb118,3,none⟩ = some (.slice A0_3 l0_3.length c0_3):=(blk_cell BK118.out 3).trans rfl
      have hfz15_0:=blk_frozen BK118.out 0
      have hfz15_1:=blk_frozen BK118.out 1
      have hfz15_2:=blk_frozen BK118.out 2
      have hfz15_3:=blk_frozen BK118.out 3
      have p6 : 0 ≤ (x5_1 : Int):=of_decide_eq_true (by first|(with_reducible assumption)|assumption)
      have q6 : x5_1 < (a0_2.size : Int):=of_decide_eq_true (by first|(with_reducible assumption)|assumption)
      have hx6:=bt_at a0_2 x5_1
      replace p6:=eq_true p6
      replace q6:=eq_true q6
      go_wp2
      go_roundg k1
      case measure=>have:=HK1.out;omega
      case rel=>exact ⟨(wrap64 (x5_1 + 2)),(by first|rfl|(simp;done)|(simp [*];done)),H',⟨by have:=HK1.out;omega⟩,⟨by (with_reducible repeat (first|refine blk_drewN ?_ _|refine blk_drew ?_|refine blk_alloc ?_ _));exact BK118.out⟩,⟨by repeat (first|(with_reducible first|exact HB.out|apply below_alloc|apply pw_below_drewN|apply below_drew1|refine below_set ?_ GE118.out)|exact HB.out)⟩⟩
    ·rw [if_neg c5] at H
     exact absurd H (by simp)
   ·rw [if_neg c4] at H
    have c4b0 : decide (x5_1 < (a0_2.size : Int)) = false:=decide_eq_false c4
    clear c4
    obtain rfl:=Option.some.inj H
    have hcz16_0 : wr.cell? ⟨gb118,0,none⟩ = some (.int .i64 a0_0):=(blk_cell BK118.out 0).trans rfl
    have hcz16_1 : wr.cell? ⟨gb118,1,none⟩ = some (.bool a0_1):=(blk_cell BK118.out 1).trans rfl
    have hcz16_2 : wr.cell? ⟨gb118,2,none⟩ = some (.string a0_2):=(blk_cell BK118.out 2).trans rfl
    have hcz16_3 : wr.cell? ⟨gb118,3,none⟩ = some (.slice A0_3 l0_3.length c0_3):=(blk_cell BK118.out 3).trans rfl
    have hfz16_0:=blk_frozen BK118.out 0
    have hfz16_1:=blk_frozen BK118.out 1
    have hfz16_2:=blk_frozen BK118.out 2
    have hfz16_3:=blk_frozen BK118.out 3
    go_wp2
    go_ret
    exact ⟨by first|rfl|(simp [errW_none,errW_some] <;> rfl)|(simp [*,errW_none,errW_some] <;> rfl),by repeat (first|(with_reducible first|exact HB.out|apply below_alloc|apply pw_below_drewN|apply below_drew1|refine below_set ?_ GE118.out)|exact HB.out)⟩
def laws_szIntS.f (l0 : List Int) (a1 : Int) : Option (Int):=if (wrap64 (a1 - (l0.length : Int))) < 0 then (some (-1)) else (some (wrap64 (a1 - (l0.length : Int))))
set_option maxHeartbeats 8000000 in
set_option maxRecDepth 100000 in
theorem laws_szIntS.calls (A0 : Option Addr) (c0 : Nat) (l0 : List Int) (a1 : Int) (r : Int) (w : World) (hr0 : Kd.C (Kd.int .i64) w A0 l0.length l0) (hc0 : l0.length ≤ c0) (h : laws_szIntS.f l0 a1 = some r) :
  Calls Tryd.prog 55 #[.slice A0 l0.length c0,.int .i64 a1] w fun e w'=>e = .returned (.int .i64 r) ∧ Drawn0 w w':=by
 have HR0:=Aside0.mk hr0
 have HC0:=Aside0.mk hc0
 clear hr0 hc0
 have H : (if (wrap64 (a1 - (l0.length : Int))) < 0 then (some (-1)) else (some (wrap64 (a1 - (l0.length : Int))))) = some r:=h
 clear h
 by_cases c3 : (wrap64 (a1 - (l0.length : Int))) < 0
 ·rw [if_pos c3] at H
  have c3b0 : decide ((wrap64 (a1 - (l0.length : Int))) < 0) = true:=decide_eq_true c3
  clear c3
  obtain rfl:=Option.some.inj H
  go_enter Tryd.func55,Tryd.ntmps55
  go_wp2
  go_ret
  exact ⟨by first|rfl|(simp;done)|(simp [*];done),by repeat (first|exact Drawn0.refl _|apply Drawn0.step)⟩
 ·rw [if_neg c3] at H
  have c3b0 : decide ((wrap64 (a1 - (l0.length : Int))) < 0) = false:=decide_eq_false c3
  clear c3
  obtain rfl:=Option.some.inj H
  go_enter Tryd.func55,Tryd.ntmps55
  go_wp2
  go_ret
  exact ⟨by first|rfl|(simp;done)|(simp [*];done),by repeat (first|exact Drawn0.refl _|apply Drawn0.step)⟩
def laws_szReNode.f (a0_0 : Int) (a0_1 : Bool) (a0_2 : ByteArray) (l0_3 : List Int) (a1 : Int) : Option (Int):=if (wrap64 (a1 - (a0_2.size : Int))) < 0 then (some (-1)) else ((laws_szIntS.f l0_3 (wrap64 (a1 - (a0_2.size : Int)))).bind fun t120=>(if t120 < 0 then (some (-1)) else (some t120)))
set_option maxHeartbeats 8000000 in
set_option maxRecDepth 100000 in
theorem laws_szReNode.calls (a0_0 : Int) (a0_1 : Bool) (a0_2 : ByteArray) (A0_3 : Option Addr) (c0_3 : Nat) (l0_3 : List Int) (a1 : Int) (r : Int) (w : World) (hr0_3 : Kd.C (Kd.int .i64) w A0_3 l0_3.length l0_3) (hc0_3 : l0_3.length ≤ c0_3) (h : laws_szReNode.f a0_0 a0_1 a0_2 l0_3 a1 = some r) :
  Calls Tryd.prog 37 #[.agg #[.int .i64 a0_0,.bool a0_1,.string a0_2,.slice A0_3 l0_3.length c0_3],.int .i64 a1] w fun e w'=>e = .returned (.int .i64 r) ∧ Below w.heap.size w w':=by
 have hu56:=Tryd.underlying56
 have HR0_3:=Aside0.mk hr0_3
 have HC0_3:=Aside0.mk hc0_3
 clear hr0_3 hc0_3
 have HB:=Aside0.mk (Below.refl w.heap.size w)
 have H : (if (wrap64 (a1 - (a0_2.size : Int))) < 0 then (some (-1)) else ((laws_szIntS.f l0_3 (wrap64 (a1 - (a0_2.size : Int)))).bind fun t120=>(if t120 < 0 then (some (-1)) else (some t120)))) = some r:=h
 clear h
 by_cases c3 : (wrap64 (a1 - (a0_2.size : Int))) < 0
 ·rw [if_pos c3] at H
  have c3b0 : decide ((wrap64 (a1 - (a0_2.size : Int))) < 0) = true:=decide_eq_true c3
  clear c3
  obtain rfl:=Option.some.inj H
  go_enter Tryd.func37,Tryd.ntmps37
  go_wp2_with (first|((with_reducible refine gate_dst (N:=2) rfl ?_);refine box_event ?hg (N:=2) ?hd (cs:=#[.int .i64 a0_0,.bool a0_1,.string a0_2,.slice A0_3 l0_3.length c0_3]) (t:=56) ?hr ?_;(case hd=>rfl);(case hg=>rfl);(case hr=>first|(go_simp;done)|(go_simp;rfl));intro gb119 hg w4 hbox hb;have n0_:=Aside0.mk (below_step (by repeat (first|(with_reducible first|exact HB.out|apply below_alloc|apply pw_below_drewN|apply below_drew1)|exact HB.out)) hb);have n1_:=Aside0.mk (hbox);have n2_:=Aside0.mk ((by rw [hg];exact (below_size (by repeat (first|(with_reducible first|exact HB.out|apply below_alloc|apply pw_below_drewN|apply below_drew1)|exact HB.out))) : w.heap.size ≤ gb119));have n3_:=Aside0.mk ((by rw [hg];exact (below_size (by repeat (first|(with_reducible first|exact HB.out|apply below_alloc|apply pw_below_drewN|apply below_drew1)|exact HB.out))) : w.heap.size ≤ gb119));clear HB;have HB:=n0_;have BK119:=n1_;have GW119:=n2_;have GE119:=n3_;clear n0_ n1_ n2_ n3_;clear hb hbox hg;have hcz5_0 : w4.cell? ⟨gb119,0,none⟩ = some (.int .i64 a0_0):=(blk_cell BK119.out 0).trans rfl;have hcz5_1 : w4.cell? ⟨gb119,1,none⟩ = some (.bool a0_1):=(blk_cell BK119.out 1).trans rfl;have hcz5_2 : w4.cell? ⟨gb119,2,none⟩ = some (.string a0_2):=(blk_cell BK119.out 2).trans rfl;have hcz5_3 : w4.cell? ⟨gb119,3,none⟩ = some (.slice A0_3 l0_3.length c0_3):=(blk_cell BK119.out 3).trans rfl;have hfz5_0:=blk_frozen BK119.out 0;have hfz5_1:=blk_frozen BK119.out 1;have hfz5_2:=blk_frozen BK119.out 2;have hfz5_3:=blk_frozen BK119.out 3))
  go_ret
  exact ⟨by first|rfl|(simp [errW_none,errW_some] <;> rfl)|(simp [*,errW_none,errW_some] <;> rfl),by repeat (first|(with_reducible first|exact HB.out|apply below_alloc|apply pw_below_drewN|apply below_drew1|refine below_set ?_ GE119.out)|exact HB.out)⟩
 ·rw [if_neg c3] at H
  have c3b0 : decide ((wrap64 (a1 - (a0_2.size : Int))) < 0) = false:=decide_eq_false c3
  clear c3
  replace H:=Option.bind_eq_some_iff.mp H
  obtain ⟨t120,A60,H⟩:=H
  replace H : (if t120 < 0 then (some (-1)) else (some t120)) = some r:=H
  have A6:=Aside0.mk A60
  clear A60
  by_cases c7 : t120 < 0
  ·rw [if_pos c7] at H
   have c7b0 : decide (t120 < 0) = true:=decide_eq_true c7
   clear c7
   obtain rfl:=Option.some.inj H
   go_enter Tryd.func37,Tryd.ntmps37
   go_wp2_with (first|((with_reducible refine gate_dst (N:=2) rfl ?_);refine box_event ?hg (N:=2) ?hd (cs:=#[.int .i64 a0_0,.bool a0_1,.string a0_2,.slice A0_3 l0_3.length c0_3]) (t:=56) ?hr ?_;(case hd=>rfl);(case hg=>rfl);(case hr=>first|(go_simp;done)|(go_simp;rfl));intro gb119 hg w8 hbox hb;have n0_:=Aside0.mk (below_step (by repeat (first|(with_reducible first|exact HB.out|apply below_alloc|apply pw_below_drewN|apply below_drew1)|exact HB.out)) hb);have n1_:=Aside0.mk (hbox);have n2_:=Aside0.mk ((by rw [hg];exact (below_size (by repeat (first|(with_reducible first|exact HB.out|apply below_alloc|apply pw_below_drewN|apply below_drew1)|exact HB.out))) : w.heap.size ≤ gb119));have n3_:=Aside0.mk ((by rw [hg];exact (below_size (by repeat (first|(with_reducible first|exact HB.out|apply below_alloc|apply pw_below_drewN|apply below_drew1)|exact HB.out))) : w.heap.size ≤ gb119));clear HB;have HB:=n0_;have BK119:=n1_;have GW119:=n2_;have GE119:=n3_;clear n0_ n1_ n2_ n3_;clear hb hbox hg;have hcz9_0 : w8.cell? ⟨gb119,0,none⟩ = some (.int .i64 a0_0):=(blk_cell BK119.out 0).trans rfl;have hcz9_1 : w8.cell? ⟨gb119,1,none⟩ = some (.bool a0_1):=(blk_cell BK119.out 1).trans rfl;have hcz9_2 : w8.cell? ⟨gb119,2,none⟩ = some (.string a0_2):=(blk_cell BK119.out 2).trans rfl;have hcz9_3 : w8.cell? ⟨gb119,3,none⟩ = some (.slice A0_3 l0_3.length c0_3):=(blk_cell BK119.out 3).trans rfl;have hfz9_0:=blk_frozen BK119.out 0;have hfz9_1:=blk_frozen BK119.out 1;have hfz9_2:=blk_frozen BK119.out 2;have hfz9_3:=blk_frozen BK119.out 3)|((with_reducible refine gate_callee (f:=55) rfl ?_);refine goesL_ (some 15) rfl rfl Tryd.func55 (by kernel_rfl) rfl #[.slice A0_3 l0_3.length c0_3,.int .i64 (wrap64 (a1 - (a0_2.size : Int)))] rfl (by (try simp only [List.map_toArray,List.map_cons,List.map_nil]);first|done|rfl|(simp only [List.length_drop,List.length_take];rfl)) ?_;(with_reducible refine (laws_szIntS.calls _ _ l0_3 (wrap64 (a1 - (a0_2.size : Int))) t120 _ ?side1 ?side2 A6.out).mono ?_);(case side1=>repeat (first|exact (Kd.C_below HR0_3.out HB.out)|(with_reducible refine Kd.C_alloc ?_ _)|(with_reducible refine Kd.C_drewN ?_ _)|(with_reducible refine Kd.C_drew ?_)));(case side2=>exact HC0_3.out);rintro e w' ⟨rfl,⟨nd,rfl⟩⟩;refine ⟨_,rfl,?_⟩))
   go_ret
   exact ⟨by first|rfl|(simp [errW_none,errW_some] <;> rfl)|(simp [*,errW_none,errW_some] <;> rfl),by repeat (first|(with_reducible first|exact HB.out|apply below_alloc|apply pw_below_drewN|apply below_drew1|refine below_set ?_ GE119.out)|exact HB.out)⟩
  ·rw [if_neg c7] at H
   have c7b0 : decide (t120 < 0) = false:=decide_eq_false c7
   clear c7
   obtain rfl:=Option.some.inj H
   go_enter Tryd.func37,Tryd.ntmps37
   go_wp2_with (first|((with_reducible refine gate_dst (N:=2) rfl ?_);refine box_event ?hg (N:=2) ?hd (cs:=#[.int .i64 a0_0,.bool a0_1,.string a0_2,.slice A0_3 l0_3.length c0_3]) (t:=56) ?hr ?_;(case hd=>rfl);(case hg=>rfl);(case hr=>first|(go_simp;done)|(go_simp;rfl));intro gb119 hg w10 hbox hb;have n0_:=Aside0.mk (below_step (by repeat (first|(with_reducible first|exact HB.out|apply below_alloc|apply pw_below_drewN|apply below_drew1)|exact HB.out)) hb);have n1_:=Aside0.mk (hbox);have n2_:=Aside0.mk ((by rw [hg];exact (below_size (by repeat (first|(with_reducible first|exact HB.out|apply below_alloc|apply pw_below_drewN|apply below_drew1)|exact HB.out))) : w.heap.size ≤ gb119));have n3_:=Aside0.mk ((by rw [hg];exact (below_size (by repeat (first|(with_reducible first|exact HB.out|apply below_alloc|apply pw_below_drewN|apply below_drew1)|exact HB.out))) : w.heap.size ≤ gb119));clear HB;have HB:=n0_;have BK119:=n1_;have GW119:=n2_;have GE119:=n3_;clear n0_ n1_ n2_ n3_;clear hb hbox hg;have hcz11_0 : w10.cell? ⟨gb119,0,none⟩ = some (.int .i64 a0_0):=(blk_cell BK119.out 0).trans rfl;have hcz11_1 : w10.cell? ⟨gb119,1,none⟩ = some (.bool a0_1):=(blk_cell BK119.out 1).trans rfl;have hcz11_2 : w10.cell? ⟨gb119,2,none⟩ = some (.string a0_2):=(blk_cell BK119.out 2).trans rfl;have hcz11_3 : w10.cell? ⟨gb119,3,none⟩ = some (.slice A0_3 l0_3.length c0_3):=(blk_cell BK119.out 3).trans rfl;have hfz11_0:=blk_frozen BK119.out 0;have hfz11_1:=blk_frozen BK119.out 1;have hfz11_2:=blk_frozen BK119.out 2;have hfz11_3:=blk_frozen BK119.out 3)|((with_reducible refine gate_callee (f:=55) rfl ?_);refine goesL_ (some 15) rfl rfl Tryd.func55 (by kernel_rfl) rfl #[.slice A0_3 l0_3.length c0_3,.int .i64 (wrap64 (a1 - (a0_2.size : Int)))] rfl (by (try simp only [List.map_toArray,List.map_cons,List.map_nil]);first|done|rfl|(simp only [List.length_drop,List.length_take];rfl)) ?_;(with_reducible refine (laws_szIntS.calls _ _ l0_3 (wrap64 (a1 - (a0_2.size : Int))) t120 _ ?side1 ?side2 A6.out).mono ?_);(case side1=>repeat (first|exact (Kd.C_below HR0_3.out HB.out)|(with_reducible refine Kd.C_alloc ?_ _)|(with_reducible refine Kd.C_drewN ?_ _)|(with_reducible refine Kd.C_drew ?_)));(case side2=>exact HC0_3.out);rintro e w' ⟨rfl,⟨nd,rfl⟩⟩;refine ⟨_,rfl,?_⟩))
   go_ret
   exact ⟨by first|rfl|(simp [errW_none,errW_some] <;> rfl)|(simp [*,errW_none,errW_some] <;> rfl),by repeat (first|(with_reducible first|exact HB.out|apply below_alloc|apply pw_below_drewN|apply below_drew1|refine below_set ?_ GE119.out)|exact HB.out)⟩
def laws_szReNodeS.l0 : Nat → List (S56) → Int → Int → Option (Int)
 | 0,_,_,_=>none
 | k + 1,x0,x1,x5=>if x5 < (x0.length : Int) then (if 0 ≤ x5 then ((laws_szReNode.f ((rd_T56 x0 x5).f0) ((rd_T56 x0 x5).f1) ((rd_T56 x0 x5).f2) ((rd_T56 x0 x5).f3) x1).bind fun t122=>(if t122 < 0 then (some (-1)) else (laws_szReNodeS.l0 k x0 t122 (wrap64 (x5 + 1))))) else (none)) else (some x1)
def laws_szReNodeS.f (k : Nat) (l0 : List (S56)) (a1 : Int) : Option (Int):=if (wrap64 (a1 - (l0.length : Int))) < 0 then (some (-1)) else (laws_szReNodeS.l0 k l0 (wrap64 (a1 - (l0.length : Int))) 0)
set_option maxHeartbeats 8000000 in
set_option maxRecDepth 100000 in
theorem laws_szReNodeS.calls (k : Nat) (A0 : Option Addr) (c0 : Nat) (l0 : List (S56)) (a1 : Int) (r : Int) (w : World) (hr0 : Kd.C k56 w A0 l0.length l0) (hc0 : l0.length ≤ c0) (h : laws_szReNodeS.f k l0 a1 = some r) :
  Calls Tryd.prog 11 #[.slice A0 l0.length c0,.int .i64 a1] w fun e w'=>e = .returned (.int .i64 r) ∧ Below w.heap.size w w':=by
 have hu56:=Tryd.underlying56
 have HR0:=Aside0.mk hr0
 have HC0:=Aside0.mk hc0
 clear hr0 hc0
 have HB:=Aside0.mk (Below.refl w.heap.size w)
 have H : (if (wrap64 (a1 - (l0.length : Int))) < 0 then (some (-1)) else (laws_szReNodeS.l0 k l0 (wrap64 (a1 - (l0.length : Int))) 0)) = some r:=h
 clear h
 by_cases c3 : (wrap64 (a1 - (l0.length : Int))) < 0
 ·rw [if_pos c3] at H
  have c3b0 : decide ((wrap64 (a1 - (l0.length : Int))) < 0) = true:=decide_eq_true c3
  clear c3
  obtain rfl:=Option.some.inj H
  go_enter Tryd.func11,Tryd.ntmps11
  go_wp2
  go_ret
  exact ⟨by first|rfl|(simp [errW_none,errW_some] <;> rfl)|(simp [*,errW_none,errW_some] <;> rfl),by repeat (first|(with_reducible first|exact HB.out|apply below_alloc|apply pw_below_drewN|apply below_drew1)|exact HB.out)⟩
 ·rw [if_neg c3] at H
  have c3b0 : decide ((wrap64 (a1 - (l0.length : Int))) < 0) = false:=decide_eq_false c3
  clear c3
  have H':=Aside0.mk H
  clear H
  go_enter Tryd.func11,Tryd.ntmps11
  go_wp2
  go_loopg [1,5] k (fun kq v1 v5 w'=>∃ (x1_1 : Int) (x5_1 : Int),v1 = .int .i64 x1_1 ∧ v5 = .int .i64 x5_1 ∧ Aside0 (laws_szReNodeS.l0 kq l0 x1_1 x5_1 = some r) ∧ Aside0 (kq ≤ k) ∧ Aside0 (Below w.heap.size w w'))
  case atStart=>exact ⟨(wrap64 (a1 - (l0.length : Int))),(0),(by first|rfl|(simp;done)|(simp [*];done)),(by first|rfl|(simp;done)|(simp [*];done)),H',⟨Nat.le_refl _⟩,⟨by repeat (first|(with_reducible first|exact HB.out|apply below_alloc|apply pw_below_drewN|apply below_drew1)|exact HB.out)⟩⟩
  case round =>
   clear H'
   try clear c1
   try clear p2
   try clear c3
   try clear c3b0
   obtain ⟨x1_1,x5_1,rfl,rfl,HA,HK1,HB⟩:=hrel
   cases gk with
   | zero=>exact absurd HA.out (by simp [laws_szReNodeS.l0])
   | succ k1 =>
    have H:=HA.out
    clear HA
    simp only [laws_szReNodeS.l0] at H
    by_cases c4 : x5_1 < (l0.length : Int)
    ·rw [if_pos c4] at H
     have c4b0 : decide (x5_1 < (l0.length : Int)) = true:=decide_eq_true c4
     clear c4
     by_cases c5 : 0 ≤ x5_1
     ·rw [if_pos c5] at H
      have c5b0 : decide (0 ≤ x5_1) = true:=decide_eq_true c5
      clear c5
      replace H:=Option.bind_eq_some_iff.mp H
      obtain ⟨t122,A60,H⟩:=H
      replace H : (if t122 < 0 then (some (-1)) else (laws_szReNodeS.l0 k1 l0 t122 (wrap64 (x5_1 + 1)))) = some r:=H
      have A6:=Aside0.mk A60
      clear A60
      by_cases c7 : t122 < 0
      ·rw [if_pos c7] at H
       have c7b0 : decide (t122 < 0) = true:=decide_eq_true c7
       clear c7
       obtain rfl:=Option.some.inj H
       have p121 : 0 ≤ (x5_1 : Int):=of_decide_eq_true (by first|(with_reducible assumption)|assumption)
       have q121 : x5_1 < (l0.length : Int):=of_decide_eq_true (by first|(with_reducible assumption)|assumption)
       obtain ⟨ad121,A121_3,c121_3,e121,hx121_0,hx121_1,hx121_2,hx121_3,hl121_3,hi121_3⟩:=at_T56 HR0.out x5_1 p121 q121
       cases e121
       replace hx121_0:=(HB.out.cell (World.block_lt_of_cell? w _ hx121_0)).trans hx121_0
       replace hx121_1:=(HB.out.cell (World.block_lt_of_cell? w _ hx121_1)).trans hx121_1
       replace hx121_2:=(HB.out.cell (World.block_lt_of_cell? w _ hx121_2)).trans hx121_2
       replace hx121_3:=(HB.out.cell (World.block_lt_of_cell? w _ hx121_3)).trans hx121_3
       have HR121_3:=Aside0.mk hi121_3
       have HC121_3:=Aside0.mk hl121_3
       clear hi121_3 hl121_3
       replace p121:=eq_true p121
       replace q121:=eq_true q121
       go_wp2_with (first|((with_reducible refine gate_callee (f:=37) rfl ?_);refine goesL_ (some 23) rfl rfl Tryd.func37 (by kernel_rfl) rfl #[.agg #[.int .i64 ((rd_T56 l0 x5_1).f0),.bool ((rd_T56 l0 x5_1).f1),.string ((rd_T56 l0 x5_1).f2),.slice A121_3 ((rd_T56 l0 x5_1).f3).length c121_3],.int .i64 x1_1] rfl (by (try simp only [List.map_toArray,List.map_cons,List.map_nil]);first|done|rfl|(simp only [List.length_drop,List.length_take];rfl)) ?_;(with_reducible refine (laws_szReNode.calls ((rd_T56 l0 x5_1).f0) ((rd_T56 l0 x5_1).f1) ((rd_T56 l0 x5_1).f2) _ _ ((rd_T56 l0 x5_1).f3) x1_1 t122 _ ?side1 ?side2 A6.out).mono ?_);(case side1=>repeat (first|exact (Kd.C_below HR121_3.out HB.out)|(with_reducible refine Kd.C_alloc ?_ _)|(with_reducible refine Kd.C_drewN ?_ _)|(with_reducible refine Kd.C_drew ?_)));(case side2=>exact HC121_3.out);rintro e w8 ⟨rfl,hb⟩;refine ⟨_,rfl,?_⟩;have n0_:=Aside0.mk (below_step (by repeat (first|(with_reducible first|exact HB.out|apply below_alloc|apply pw_below_drewN|apply below_drew1)|exact HB.out)) hb);clear HB;have HB:=n0_;clear n0_;(try clear hb);(try clear hb2);(try clear hk);(try clear hi)))
       go_ret
       exact ⟨by first|rfl|(simp [errW_none,errW_some] <;> rfl)|(simp [*,errW_none,errW_some] <;> rfl),by repeat (first|(with_reducible first|exact HB.out|apply below_alloc|apply pw_below_drewN|apply below_drew1)|exact HB.out)⟩
      ·rw [if_neg c7] at H
       have c7b0 : decide (t122 < 0) = false:=decide_eq_false c7
       clear c7
       have H':=Aside0.mk H
       clear H
       have p121 : 0 ≤ (x5_1 : Int):=of_decide_eq_true (by first|(with_reducible assumption)|assumption)
       have q121 : x5_1 < (l0.length : Int):=of_decide_eq_true (by first|(with_reducible assumption)|assumption)
       obtain ⟨ad121,A121_3,c121_3,e121,hx121_0,hx121_1,hx121_2,hx121_3,hl121_3,hi121_3⟩:=at_T56 HR0.out x5_1 p121 q121
       cases e121
       replace hx121_0:=(HB.out.cell (World.block_lt_of_cell? w _ hx121_0)).trans hx121_0
       replace hx121_1:=(HB.out.cell (World.block_lt_of_cell? w _ hx121_1)).trans hx121_1
       replace hx121_2:=(HB.out.cell (World.block_lt_of_cell? w _ hx121_2)).trans hx121_2
       replace hx121_3:=(HB.out.cell (World.block_lt_of_cell? w _ hx121_3)).trans hx121_3
       have HR121_3:=Aside0.mk hi121_3
       have HC121_3:=Aside0.mk hl121_3
       clear hi121_3 hl121_3
       replace p121:=eq_true p121
       replace q121:=eq_true q121
       go_wp2_with (first|((with_reducible refine gate_callee (f:=37) rfl ?_);refine goesL_ (some 23) rfl rfl Tryd.func37 (by kernel_rfl) rfl #[.agg #[.int .i64 ((rd_T56 l0 x5_1).f0),.bool ((rd_T56 l0 x5_1).f1),.string ((rd_T56 l0 x5_1).f2),.slice A121_3 ((rd_T56 l0 x5_1).f3).length c121_3],.int .i64 x1_1] rfl (by (try simp only [List.map_toArray,List.map_cons,List.map_nil]);first|done|rfl|(simp only [List.length_drop,List.length_take];rfl)) ?_;(with_reducible refine (laws_szReNode.calls ((rd_T56 l0 x5_1).f0) ((rd_T56 l0 x5_1).f1) ((rd_T56 l0 x5_1).f2) _ _ ((rd_T56 l0 x5_1).f3) x1_1 t122 _ ?side1 ?side2 A6.out).mono ?_);(case side1=>repeat (first|exact (Kd.C_below HR121_3.out HB.out)|(with_reducible refine Kd.C_alloc ?_ _)|(with_reducible refine Kd.C_drewN ?_ _)|(with_reducible refine Kd.C_drew ?_)));(case side2=>exact HC121_3.out);rintro e w9 ⟨rfl,hb⟩;refine ⟨_,rfl,?_⟩;have n0_:=Aside0.mk (below_step (by repeat (first|(with_reducible first|exact HB.out|apply below_alloc|apply pw_below_drewN|apply below_drew1)|exact HB.out)) hb);clear HB;have HB:=n0_;clear n0_;(try clear hb);(try clear hb2);(try clear hk);(try clear hi)))
       go_roundg k1
       case measure=>have:=HK1.out;omega
       case rel=>exact ⟨(t122),(wrap64 (x5_1 + 1)),(by first|rfl|(simp;done)|(simp [*];done)),(by first|rfl|(simp;done)|(simp [*];done)),H',⟨by have:=HK1.out;omega⟩,⟨by repeat (first|(with_reducible first|exact HB.out|apply below_alloc|apply pw_below_drewN|apply below_drew1)|exact HB.out)⟩⟩
     ·rw [if_neg c5] at H
      exact absurd H (by simp)
    ·rw [if_neg c4] at H
     have c4b0 : decide (x5_1 < (l0.length : Int)) = false:=decide_eq_false c4
     clear c4
     obtain rfl:=Option.some.inj H
     go_wp2
     go_ret
     exact ⟨by first|rfl|(simp [errW_none,errW_some] <;> rfl)|(simp [*,errW_none,errW_some] <;> rfl),by repeat (first|(with_reducible first|exact HB.out|apply below_alloc|apply pw_below_drewN|apply below_drew1)|exact HB.out)⟩
mutual
def spec_l2pairs.j0 : Nat → Bool → Int → Bool → ByteArray → List Int → Option (Bool)
 | 0,_,_,_,_,_=>none
 | k + 1,x19,x124000,x124001,x124002,x124003=>if x19 = true then (some false) else (spec_l2pairs.l0 k 0 x124000 x124001 x124002 x124003)
def spec_l2pairs.l0 : Nat → Int → Int → Bool → ByteArray → List Int → Option (Bool)
 | 0,_,_,_,_,_=>none
 | k + 1,x3,x124000,x124001,x124002,x124003=>if (wrap64 (x3 + 1)) < (x124002.size : Int) then (if 0 ≤ (wrap64 (x3 + 1)) then (if 0 ≤ x3 then (if x3 < (x124002.size : Int) then (if (bt x124002 (wrap64 (x3 + 1))) < (bt x124002 x3) then (some false) else (spec_l2pairs.l0 k (wrap64 (x3 + 2)) x124000 x124001 x124002 x124003)) else (none)) else (none)) else (none)) else (some true)
end
def spec_l2pairs.f (k : Nat) (a0_0 : Int) (a0_1 : Bool) (a0_2 : ByteArray) (l0_3 : List Int) : Option (Bool):=if ((a0_2.size : Int) % 2) = 1 then (spec_l2pairs.j0 k true a0_0 a0_1 a0_2 l0_3) else (if (a0_2.size : Int) = 0 then (spec_l2pairs.j0 k (!a0_1) a0_0 a0_1 a0_2 l0_3) else (spec_l2pairs.j0 k false a0_0 a0_1 a0_2 l0_3))
set_option maxHeartbeats 8000000 in
set_option maxRecDepth 100000 in
theorem spec_l2pairs.calls (k : Nat) (a0_0 : Int) (a0_1 : Bool) (a0_2 : ByteArray) (A0_3 : Option Addr) (c0_3 : Nat) (l0_3 : List Int) (r : Bool) (w : World) (hr0_3 : Kd.C (Kd.int .i64) w A0_3 l0_3.length l0_3) (hc0_3 : l0_3.length ≤ c0_3) (h : spec_l2pairs.f k a0_0 a0_1 a0_2 l0_3 = some r) :
  Calls Tryd.prog 70 #[.agg #[.int .i64 a0_0,.bool a0_1,.string a0_2,.slice A0_3 l0_3.length c0_3]] w fun e w'=>e = .returned (.bool r) ∧ Below w.heap.size w w':=by
 have hu49:=Tryd.underlying49
 have HR0_3:=Aside0.mk hr0_3
 have HC0_3:=Aside0.mk hc0_3
 clear hr0_3 hc0_3
 have HB:=Aside0.mk (Below.refl w.heap.size w)
 have H : (if ((a0_2.size : Int) % 2) = 1 then (spec_l2pairs.j0 k true a0_0 a0_1 a0_2 l0_3) else (if (a0_2.size : Int) = 0 then (spec_l2pairs.j0 k (!a0_1) a0_0 a0_1 a0_2 l0_3) else (spec_l2pairs.j0 k false a0_0 a0_1 a0_2 l0_3))) = some r:=h
 clear h
 have HC2:=Aside0.mk H
 clear H
 go_enter Tryd.func70,Tryd.ntmps70
 go_upto_region 1 with (first|((with_reducible refine gate_dst (N:=1) rfl ?_);(try (refine gate_guard (by rfl) ?_;dsimp only));refine box_event ?hg (N:=1) ?hd (cs:=#[.int .i64 a0_0,.bool a0_1,.string a0_2,.slice A0_3 l0_3.length c0_3]) (t:=49) ?hr ?_;(case hd=>rfl);(case hg=>rfl);(case hr=>first|(go_simp;done)|(go_simp;rfl));intro gb123 hg w3 hbox hb;have n0_:=Aside0.mk (below_step (by repeat (first|(with_reducible first|exact HB.out|apply below_alloc|apply pw_below_drewN|apply below_drew1)|exact HB.out)) hb);have n1_:=Aside0.mk (hbox);have n2_:=Aside0.mk ((by rw [hg];exact (below_size (by repeat (first|(with_reducible first|exact HB.out|apply below_alloc|apply pw_below_drewN|apply below_drew1)|exact HB.out))) : w.heap.size ≤ gb123));have n3_:=Aside0.mk ((by rw [hg];exact (below_size (by repeat (first|(with_reducible first|exact HB.out|apply below_alloc|apply pw_below_drewN|apply below_drew1)|exact HB.out))) : w.heap.size ≤ gb123));clear HB;have HB:=n0_;have BK123:=n1_;have GW123:=n2_;have GE123:=n3_;clear n0_ n1_ n2_ n3_;clear hb hbox hg))
 repeat (go_quiet (first|((with_reducible refine gate_dst (N:=1) rfl ?_);(try (refine gate_guard (by rfl) ?_;dsimp only));refine box_event ?hg (N:=1) ?hd (cs:=#[.int .i64 a0_0,.bool a0_1,.string a0_2,.slice A0_3 l0_3.length c0_3]) (t:=49) ?hr ?_;(case hd=>rfl);(case hg=>rfl);(case hr=>first|(go_simp;done)|(go_simp;rfl));intro gb123 hg w3 hbox hb;have n0_:=Aside0.mk (below_step (by repeat (first|(with_reducible first|exact HB.out|apply below_alloc|apply pw_below_drewN|apply below_drew1)|exact HB.out)) hb);have n1_:=Aside0.mk (hbox);have n2_:=Aside0.mk ((by rw [hg];exact (below_size (by repeat (first|(with_reducible first|exact HB.out|apply below_alloc|apply pw_below_drewN|apply below_drew1)|exact HB.out))) : w.heap.size ≤ gb123));have n3_:=Aside0.mk ((by rw [hg];exact (below_size (by repeat (first|(with_reducible first|exact HB.out|apply below_alloc|apply pw_below_drewN|apply below_drew1)|exact HB.out))) : w.heap.size ≤ gb123));clear HB;have HB:=n0_;have BK123:=n1_;have GW123:=n2_;have GE123:=n3_;clear n0_ n1_ n2_ n3_;clear hb hbox hg));go_upto_region 1 with (first|((with_reducible refine gate_dst (N:=1) rfl ?_);(try (refine gate_guard (by rfl) ?_;dsimp only));refine box_event ?hg (N:=1) ?hd (cs:=#[.int .i64 a0_0,.bool a0_1,.string a0_2,.slice A0_3 l0_3.length c0_3]) (t:=49) ?hr ?_;(case hd=>rfl);(case hg=>rfl);(case hr=>first|(go_simp;done)|(go_simp;rfl));intro gb123 hg w3 hbox hb;have n0_:=Aside0.mk (below_step (by repeat (first|(with_reducible first|exact HB.out|apply below_alloc|apply pw_below_drewN|apply below_drew1)|exact HB.out)) hb);have n1_:=Aside0.mk (hbox);have n2_:=Aside0.mk ((by rw [hg];exact (below_size (by repeat (first|(with_reducible first|exact HB.out|apply below_alloc|apply pw_below_drewN|apply below_drew1)|exact HB.out))) : w.heap.size ≤ gb123));have n3_:=Aside0.mk ((by rw [hg];exact (below_size (by repeat (first|(with_reducible first|exact HB.out|apply below_alloc|apply pw_below_drewN|apply below_drew1)|exact HB.out))) : w.heap.size ≤ gb123));clear HB;have HB:=n0_;have BK123:=n1_;have GW123:=n2_;have GE123:=n3_;clear n0_ n1_ n2_ n3_;clear hb hbox hg)))
 (try simp only [Act.put,List.setIfInBounds_toArray,List.set_cons_zero,List.set_cons_succ])
 go_cut [19] (fun v19 wc=>∃ (kq : Nat) (x19_1 : Bool),v19 = .bool x19_1 ∧ Aside0 (spec_l2pairs.j0 kq x19_1 a0_0 a0_1 a0_2 l0_3 = some r) ∧ Aside0 (kq ≤ k) ∧ Aside0 (wc.heap[gb123]? = some (.cells #[.int .i64 a0_0,.bool a0_1,.string a0_2,(.slice A0_3 l0_3.length c0_3)] 49 (0,0))) ∧ Aside0 (Below w.heap.size w wc))
 case first =>
  have H:=HC2.out
  clear HC2
  by_cases c4 : ((a0_2.size : Int) % 2) = 1
  ·rw [if_pos c4] at H
   have c4b0 : (((a0_2.size : Int) % 2) == 1) = true:=beq_iff_eq.mpr c4
   have c4b1 : (((a0_2.size : Int) % 2) != 1) = false:=bne_eq_false_iff_eq.mpr c4
   clear c4
   (first|rw [c4b0]|(simp only [i64_w,i32_w];rw [c4b0])|skip)
   have H':=Aside0.mk H
   clear H
   have hcz5_0 : w3.cell? ⟨gb123,0,none⟩ = some (.int .i64 a0_0):=(blk_cell BK123.out 0).trans rfl
   have hcz5_1 : w3.cell? ⟨gb123,1,none⟩ = some (.bool a0_1):=(blk_cell BK123.out 1).trans rfl
   have hcz5_2 : w3.cell? ⟨gb123,2,none⟩ = some (.string a0_2):=(blk_cell BK123.out 2).trans rfl
   have hcz5_3 : w3.cell? ⟨gb123,3,none⟩ = some (.slice A0_3 l0_3.length c0_3):=(blk_cell BK123.out 3).trans rfl
   have hfz5_0:=blk_frozen BK123.out 0
   have hfz5_1:=blk_frozen BK123.out 1
   have hfz5_2:=blk_frozen BK123.out 2
   have hfz5_3:=blk_frozen BK123.out 3
   go_wp2
   repeat (go_quiet (fail);try go_wp2)
   go_meet
   case rel=>exact ⟨_,(true),(by first|rfl|(simp;done)|(simp [*];done)),H',⟨by first|omega|exact Nat.le_refl _⟩,⟨by (with_reducible repeat (first|refine blk_drewN ?_ _|refine blk_drew ?_|refine blk_alloc ?_ _));exact BK123.out⟩,⟨by repeat (first|(with_reducible first|exact HB.out|apply below_alloc|apply pw_below_drewN|apply below_drew1|refine below_set ?_ GE123.out)|exact HB.out)⟩⟩
  ·rw [if_neg c4] at H
   have c4b0 : (((a0_2.size : Int) % 2) == 1) = false:=beq_eq_false_iff_ne.mpr c4
   have c4b1 : (((a0_2.size : Int) % 2) != 1) = true:=bne_iff_ne.mpr c4
   (first|rw [c4b0]|(simp only [i64_w,i32_w];rw [c4b0])|skip)
   by_cases c6 : (a0_2.size : Int) = 0
   ·rw [if_pos c6] at H
    have c6b0 : ((a0_2.size : Int) == 0) = true:=beq_iff_eq.mpr c6
    have c6b1 : ((a0_2.size : Int) != 0) = false:=bne_eq_false_iff_eq.mpr c6
    clear c6
    have H':=Aside0.mk H
    clear H
    have hcz7_0 : w3.cell? ⟨gb123,0,none⟩ = some (.int .i64 a0_0):=(blk_cell BK123.out 0).trans rfl
    have hcz7_1 : w3.cell? ⟨gb123,1,none⟩ = some (.bool a0_1):=(blk_cell BK123.out 1).trans rfl
    have hcz7_2 : w3.cell? ⟨gb123,2,none⟩ = some (.string a0_2):=(blk_cell BK123.out 2).trans rfl
    have hcz7_3 : w3.cell? ⟨gb123,3,none⟩ = some (.slice A0_3 l0_3.length c0_3):=(blk_cell BK123.out 3).trans rfl
    have hfz7_0:=blk_frozen BK123.out 0
    have hfz7_1:=blk_frozen BK123.out 1
    have hfz7_2:=blk_frozen BK123.out 2
    have hfz7_3:=blk_frozen BK123.out 3
    go_wp2
    repeat (go_quiet (fail);try go_wp2)
    go_meet
    case rel=>exact ⟨_,(!a0_1),(by first|rfl|(simp;done)|(simp [*];done)),H',⟨by first|omega|exact Nat.le_refl _⟩,⟨by (with_reducible repeat (first|refine blk_drewN ?_ _|refine blk_drew ?_|refine blk_alloc ?_ _));exact BK123.out⟩,⟨by repeat (first|(with_reducible first|exact HB.out|apply below_alloc|apply pw_below_drewN|apply below_drew1|refine below_set ?_ GE123.out)|exact HB.out)⟩⟩
   ·rw [if_neg c6] at H
    have c6b0 : ((a0_2.size : Int) == 0) = false:=beq_eq_false_iff_ne.mpr c6
    have c6b1 : ((a0_2.size : Int) != 0) = true:=bne_iff_ne.mpr c6
    have H':=Aside0.mk H
    clear H
    have hcz8_0 : w3.cell? ⟨gb123,0,none⟩ = some (.int .i64 a0_0):=(blk_cell BK123.out 0).trans rfl
    have hcz8_1 : w3.cell? ⟨gb123,1,none⟩ = some (.bool a0_1):=(blk_cell BK123.out 1).trans rfl
    have hcz8_2 : w3.cell? ⟨gb123,2,none⟩ = some (.string a0_2):=(blk_cell BK123.out 2).trans rfl
    have hcz8_3 : w3.cell? ⟨gb123,3,none⟩ = some (.slice A0_3 l0_3.length c0_3):=(blk_cell BK123.out 3).trans rfl
    have hfz8_0:=blk_frozen BK123.out 0
    have hfz8_1:=blk_frozen BK123.out 1
    have hfz8_2:=blk_frozen BK123.out 2
    have hfz8_3:=blk_frozen BK123.out 3
    go_wp2
    repeat (go_quiet (fail);try go_wp2)
    go_meet
    case rel=>exact ⟨_,(false),(by first|rfl|(simp;done)|(simp [*];done)),H',⟨by first|omega|exact Nat.le_refl _⟩,⟨by (with_reducible repeat (first|refine blk_drewN ?_ _|refine blk_drew ?_|refine blk_alloc ?_ _));exact BK123.out⟩,⟨by repeat (first|(with_reducible first|exact HB.out|apply below_alloc|apply pw_below_drewN|apply below_drew1|refine below_set ?_ GE123.out)|exact HB.out)⟩⟩
 case rest =>
  clear HC2
  try clear p2
  try clear c4
  try clear c4b0
  try clear c4b1
  try clear c6
  try clear c6b0
  try clear c6b1
  try clear c7
  try clear hcz5_0
  try clear hcz5_1
  try clear hcz5_2
  try clear hcz5_3
  try clear hcz7_0
  try clear hcz7_1
  try clear hcz7_2
  try clear hcz7_3
  try clear hcz8_0
  try clear hcz8_1
  try clear hcz8_2
  try clear hcz8_3
  try clear hfz5_0
  try clear hfz5_1
  try clear hfz5_2
  try clear hfz5_3
  try clear hfz7_0
  try clear hfz7_1
  try clear hfz7_2
  try clear hfz7_3
  try clear hfz8_0
  try clear hfz8_1
  try clear hfz8_2
  try clear hfz8_3
  obtain ⟨kq,x19_1,rfl,HA,HJ1,BK123,HB⟩:=hcut
  cases kq with
  | zero=>exact absurd HA.out (by simp [spec_l2pairs.j0])
  | succ kj1 =>
   have H:=HA.out
   clear HA
   simp only [spec_l2pairs.j0] at H
   by_cases c9 : x19_1 = true
   ·subst c9
    have H1 : (some false) = some r:=by rw [if_pos rfl] at H;exact H
    clear H
    have H:=H1
    clear H1
    obtain rfl:=Option.some.inj H
    go_wp2
    repeat (go_quiet (fail);try go_wp2)
    go_ret
    exact ⟨by first|rfl|(simp [errW_none,errW_some] <;> rfl)|(simp [*,errW_none,errW_some] <;> rfl),by repeat (first|(with_reducible first|exact HB.out|apply below_alloc|apply pw_below_drewN|apply below_drew1|refine below_set ?_ GE123.out)|exact HB.out)⟩
   ·replace c9:=Bool.eq_false_iff.mpr c9
    subst c9
    have H1 : (spec_l2pairs.l0 kj1 0 a0_0 a0_1 a0_2 l0_3) = some r:=by rw [if_neg (show ¬ (false = true) by decide)] at H;exact H
    clear H
    have H:=H1
    clear H1
    have H':=Aside0.mk H
    clear H
    go_wp2
    repeat (go_quiet (fail);try go_wp2)
    go_loopg [3] kj1 (fun kq v3 w'=>∃ (x3_2 : Int),v3 = .int .i64 x3_2 ∧ Aside0 (spec_l2pairs.l0 kq x3_2 a0_0 a0_1 a0_2 l0_3 = some r) ∧ Aside0 (kq ≤ kj1) ∧ Aside0 (w'.heap[gb123]? = some (.cells #[.int .i64 a0_0,.bool a0_1,.string a0_2,(.slice A0_3 l0_3.length c0_3)] 49 (0,0))) ∧ Aside0 (Below w.heap.size w w'))
    case atStart=>exact ⟨(0),(by first|rfl|(simp;done)|(simp [*];done)),H',⟨Nat.le_refl _⟩,⟨by (with_reducible repeat (first|refine blk_drewN ?_ _|refine blk_drew ?_|refine blk_alloc ?_ _));exact BK123.out⟩,⟨by repeat (first|(with_reducible first|exact HB.out|apply below_alloc|apply pw_below_drewN|apply below_drew1|refine below_set ?_ GE123.out)|exact HB.out)⟩⟩
    case round =>
     clear H'
     try clear p2
     try clear c4
     try clear c4b0
     try clear c4b1
     try clear c6
     try clear c6b0
     try clear c6b1
     try clear c7
     try clear c9
     try clear hcz5_0
     try clear hcz5_1
     try clear hcz5_2
     try clear hcz5_3
     try clear hcz7_0
     try clear hcz7_1
     try clear hcz7_2
     try clear hcz7_3
     try clear hcz8_0
     try clear hcz8_1
     try clear hcz8_2
     try clear hcz8_3
     try clear hfz5_0
     try clear hfz5_1
     try clear hfz5_2
     try clear hfz5_3
     try clear hfz7_0
     try clear hfz7_1
     try clear hfz7_2
     try clear hfz7_3
     try clear hfz8_0
     try clear hfz8_1
     try clear hfz8_2
     try clear hfz8_3
     try clear p2
     obtain ⟨x3_2,rfl,HA,HK2,BK123,HB⟩:=hrel
     cases gk with
     | zero=>exact absurd HA.out (by simp [spec_l2pairs.l0])
     | succ k2 =>
      have H:=HA.out
      clear HA
      simp only [spec_l2pairs.l0] at H
      by_cases c10 : (wrap64 (x3_2 + 1)) < (a0_2.size : Int)
      ·rw [if_pos c10] at H
       have c10b0 : decide ((wrap64 (x3_2 + 1)) < (a0_2.size : Int)) = true:=decide_eq_true c10
       clear c10
       obtain ⟨ji11,hji11⟩ : ∃ j_ : Int,(wrap64 (x3_2 + 1)) = j_:=⟨_,rfl⟩
       replace H : (if 0 ≤ (ji11) then (if 0 ≤ x3_2 then (if x3_2 < (a0_2.size : Int) then (if (bt a0_2 (ji11)) < (bt a0_2 x3_2) then (some false) else (spec_l2pairs.l0 k2 (wrap64 (x3_2 + 2)) a0_0 a0_1 a0_2 l0_3)) else (none)) else (none)) else (none)) = some r:=by first|(rw [hji11] at H;exact H)|(simp only [hji11] at H ⊢;exact H)
       (try rw [hji11] at c10b0)
       have hji11w : (IntKind.i64.wrap (x3_2 + 1)) = ji11:=(i64_w _).trans hji11
       by_cases c12 : 0 ≤ (ji11)
       ·rw [if_pos c12] at H
        have c12b0 : decide (0 ≤ (ji11)) = true:=decide_eq_true c12
        clear c12
        by_cases c14 : 0 ≤ x3_2
        ·rw [if_pos c14] at H
         have c14b0 : decide (0 ≤ x3_2) = true:=decide_eq_true c14
         clear c14
         by_cases c15 : x3_2 < (a0_2.size : Int)
         ·rw [if_pos c15] at H
          have c15b0 : decide (x3_2 < (a0_2.size : Int)) = true:=decide_eq_true c15
          clear c15
          by_cases c17 : (bt a0_2 (ji11)) < (bt a0_2 x3_2)
          ·rw [if_pos c17] at H
           have c17b0 : decide ((bt a0_2 (ji11)) < (bt a0_2 x3_2)) = true:=decide_eq_true c17
           clear c17
           obtain rfl:=Option.some.inj H
           have hcz18_0 : wr.cell? ⟨gb123,0,none⟩ = some (.int .i64 a0_0):=(blk_cell BK123.out 0).trans rfl
           have hcz18_1 : wr.cell? ⟨gb123,1,none⟩ = some (.bool a0_1):=(blk_cell BK123.out 1).trans rfl
           have hcz18_2 : wr.cell? ⟨gb123,2,none⟩ = some (.string a0_2):=(blk_cell BK123.out 2).trans rfl
           have hcz18_3 : wr.cell? ⟨gb123,3,none⟩ = some (.slice A0_3 l0_3.length c0_3):=(blk_cell BK123.out 3).trans rfl
           have hfz18_0:=blk_frozen BK123.out 0
           have hfz18_1:=blk_frozen BK123.out 1
           have hfz18_2:=blk_frozen BK123.out 2
           have hfz18_3:=blk_frozen BK123.out 3
           have p13 : 0 ≤ ((ji11) : Int):=of_decide_eq_true (by first|(with_reducible assumption)|assumption)
           have q13 : (ji11) < (a0_2.size : Int):=of_decide_eq_true (by first|(with_reducible assumption)|assumption)
           have hx13:=bt_at a0_2 (ji11)
           replace p13:=eq_true p13
           replace q13:=eq_true q13
           have p16 : 0 ≤ (x3_2 : Int):=of_decide_eq_true (by first|(with_reducible assumption)|assumption)
           have q16 : x3_2 < (a0_2.size : Int):=of_decide_eq_true (by first|(with_reducible assumption)|assumption)
           have hx16:=bt_at a0_2 x3_2
           replace p16:=eq_true p16
           replace q16:=eq_true q16
           go_wp2
           repeat (go_quiet (fail);try go_wp2)
           go_ret
           exact ⟨by first|rfl|(simp [errW_none,errW_some] <;> rfl)|(simp only [← hji11];first|rfl|(simp [errW_none,errW_some] <;> rfl))|(simp [*,errW_none,errW_some] <;> rfl),by repeat (first|(with_reducible first|exact HB.out|apply below_alloc|apply pw_below_drewN|apply below_drew1|refine below_set ?_ GE123.out)|exact HB.out)⟩
          ·rw [if_neg c17] at H
           have c17b0 : decide ((bt a0_2 (ji11)) < (bt a0_2 x3_2)) = false:=decide_eq_false c17
           clear c17
           have H':=Aside0.mk H
           clear H
           have hcz19_0 : wr.cell? ⟨gb123,0,none⟩ = some (.int .i64 a0_0):=(blk_cell BK123.out 0).trans rfl
           have hcz19_1 : wr.cell? ⟨gb123,1,none⟩ = some (.bool a0_1):=(blk_cell BK123.out 1).trans rfl
           have hcz19_2 : wr.cell? ⟨gb123,2,none⟩ = some (.string a0_2):=(blk_cell BK123.out 2).trans rfl
           have hcz19_3 : wr.cell? ⟨gb123,3,none⟩ = some (.slice A0_3 l0_3.length c0_3):=(blk_cell BK123.out 3).trans rfl
           have hfz19_0:=blk_frozen BK123.out 0
           have hfz19_1:=blk_frozen BK123.out 1
           have hfz19_2:=blk_frozen BK123.out 2
           have hfz19_3:=blk_frozen BK123.out 3
           have p13 : 0 ≤ ((ji11) : Int):=of_decide_eq_true (by first|(with_reducible assumption)|assumption)
           have q13 : (ji11) < (a0_2.size : Int):=of_decide_eq_true (by first|(with_reducible assumption)|assumption)
           have hx13:=bt_at a0_2 (ji11)
           replace p13:=eq_true p13
           replace q13:=eq_true q13
           have p16 : 0 ≤ (x3_2 : Int):=of_decide_eq_true (by first|(with_reducible assumption)|assumption)
           have q16 : x3_2 < (a0_2.size : Int):=of_decide_eq_true (by first|(with_reducible assumption)|assumption)
           have hx16:=bt_at a0_2 x3_2
           replace p16:=eq_true p16
           replace q16:=eq_true q16
           go_wp2
           repeat (go_quiet (fail);try go_wp2)
           go_roundg k2
           case measure=>have:=HJ1.out;have:=HK2.out;omega
           case rel=>exact ⟨(wrap64 (x3_2 + 2)),(by first|rfl|(simp;done)|(simp [*];done)),H',⟨by have:=HJ1.out;have:=HK2.out;omega⟩,⟨by (with_reducible repeat (first|refine blk_drewN ?_ _|refine blk_drew ?_|refine blk_alloc ?_ _));exact BK123.out⟩,⟨by repeat (first|(with_reducible first|exact HB.out|apply below_alloc|apply pw_below_drewN|apply below_drew1|refine below_set ?_ GE123.out)|exact HB.out)⟩⟩
         ·rw [if_neg c15] at H
          exact absurd H (by simp)
        ·rw [if_neg c14] at H
         exact absurd H (by simp)
       ·rw [if_neg c12] at H
        exact absurd H (by simp)
      ·rw [if_neg c10] at H
       have c10b0 : decide ((wrap64 (x3_2 + 1)) < (a0_2.size : Int)) = false:=decide_eq_false c10
       clear c10
       obtain rfl:=Option.some.inj H
       have hcz20_0 : wr.cell? ⟨gb123,0,none⟩ = some (.int .i64 a0_0):=(blk_cell BK123.out 0).trans rfl
       have hcz20_1 : wr.cell? ⟨gb123,1,none⟩ = some (.bool a0_1):=(blk_cell BK123.out 1).trans rfl
       have hcz20_2 : wr.cell? ⟨gb123,2,none⟩ = some (.string a0_2):=(blk_cell BK123.out 2).trans rfl
       have hcz20_3 : wr.cell? ⟨gb123,3,none⟩ = some (.slice A0_3 l0_3.length c0_3):=(blk_cell BK123.out 3).trans rfl
       have hfz20_0:=blk_frozen BK123.out 0
       have hfz20_1:=blk_frozen BK123.out 1
       have hfz20_2:=blk_frozen BK123.out 2
       have hfz20_3:=blk_frozen BK123.out 3
       go_wp2
       repeat (go_quiet (fail);try go_wp2)
       go_ret
       exact ⟨by first|rfl|(simp [errW_none,errW_some] <;> rfl)|(simp [*,errW_none,errW_some] <;> rfl),by repeat (first|(with_reducible first|exact HB.out|apply below_alloc|apply pw_below_drewN|apply below_drew1|refine below_set ?_ GE123.out)|exact HB.out)⟩
mutual
def spec_l2kidsOk.j0 : Nat → Int → Bool → Int → Bool → ByteArray → List Int → Option (Bool)
 | 0,_,_,_,_,_,_=>none
 | k + 1,x4,x15,x125000,x125001,x125002,x125003=>if x15 = true then (if (x125003.length : Int) = 0 then (if x125001 = true then (some false) else (some (x125002.toList == ([] : List UInt8)))) else (some false)) else (if x4 = 3 then (spec_l2kidsOk.j1 k x4 (x4 == 3) x125000 x125001 x125002 x125003) else (spec_l2kidsOk.j1 k x4 (x4 == 4) x125000 x125001 x125002 x125003))
def spec_l2kidsOk.j1 : Nat → Int → Bool → Int → Bool → ByteArray → List Int → Option (Bool)
 | 0,_,_,_,_,_,_=>none
 | k + 1,x4,x32,x125000,x125001,x125002,x125003=>if x32 = true then (if (x125003.length : Int) ≥ 2 then (if x125001 = true then (some false) else (some (x125002.toList == ([] : List UInt8)))) else (some false)) else (if x4 = 5 then (if (x125003.length : Int) = 1 then (if x125001 = true then (some false) else (some (x125002.toList == ([] : List UInt8)))) else (some false)) else (if x4 = 6 then (if (x125003.length : Int) = 1 then (if x125001 = true then (some false) else (some (x125002.toList == ([] : List UInt8)))) else (some false)) else (if x4 = 7 then (if (x125003.length : Int) = 1 then (if x125001 = true then (some false) else (some (x125002.toList == ([] : List UInt8)))) else (some false)) else (some false))))
end
def spec_l2kidsOk.f (k : Nat) (a0_0 : Int) (a0_1 : Bool) (a0_2 : ByteArray) (l0_3 : List Int) : Option (Bool):=if a0_0 = 0 then (if (l0_3.length : Int) = 0 then ((spec_l2pairs.f k a0_0 a0_1 a0_2 l0_3).bind fun t125=>(some t125)) else (some false)) else (if a0_0 = 1 then (spec_l2kidsOk.j0 k a0_0 (a0_0 == 1) a0_0 a0_1 a0_2 l0_3) else (spec_l2kidsOk.j0 k a0_0 (a0_0 == 2) a0_0 a0_1 a0_2 l0_3))
set_option maxHeartbeats 8000000 in
set_option maxRecDepth 100000 in
theorem spec_l2kidsOk.calls (k : Nat) (a0_0 : Int) (a0_1 : Bool) (a0_2 : ByteArray) (A0_3 : Option Addr) (c0_3 : Nat) (l0_3 : List Int) (r : Bool) (w : World) (hr0_3 : Kd.C (Kd.int .i64) w A0_3 l0_3.length l0_3) (hc0_3 : l0_3.length ≤ c0_3) (h : spec_l2kidsOk.f k a0_0 a0_1 a0_2 l0_3 = some r) :
  Calls Tryd.prog 52 #[.agg #[.int .i64 a0_0,.bool a0_1,.string a0_2,.slice A0_3 l0_3.length c0_3]] w fun e w'=>e = .returned (.bool r) ∧ Below w.heap.size w w':=by
 have hu49:=Tryd.underlying49
 have HR0_3:=Aside0.mk hr0_3
 have HC0_3:=Aside0.mk hc0_3
 clear hr0_3 hc0_3
 have HB:=Aside0.mk (Below.refl w.heap.size w)
 have H : (if a0_0 = 0 then (if (l0_3.length : Int) = 0 then ((spec_l2pairs.f k a0_0 a0_1 a0_2 l0_3).bind fun t125=>(some t125)) else (some false)) else (if a0_0 = 1 then (spec_l2kidsOk.j0 k a0_0 (a0_0 == 1) a0_0 a0_1 a0_2 l0_3) else (spec_l2kidsOk.j0 k a0_0 (a0_0 == 2) a0_0 a0_1 a0_2 l0_3))) = some r:=h
 clear h
 by_cases c2 : a0_0 = 0
 ·rw [if_pos c2] at H
  have c2b0 : (a0_0 == 0) = true:=beq_iff_eq.mpr c2
  have c2b1 : (a0_0 != 0) = false:=bne_eq_false_iff_eq.mpr c2
  clear c2
  by_cases c3 : (l0_3.length : Int) = 0
  ·rw [if_pos c3] at H
   have c3b0 : ((l0_3.length : Int) == 0) = true:=beq_iff_eq.mpr c3
   have c3b1 : ((l0_3.length : Int) != 0) = false:=bne_eq_false_iff_eq.mpr c3
   clear c3
   replace H:=Option.bind_eq_some_iff.mp H
   obtain ⟨t125,A40,H⟩:=H
   replace H : (some t125) = some r:=H
   have A4:=Aside0.mk A40
   clear A40
   obtain rfl:=Option.some.inj H
   go_enter Tryd.func52,Tryd.ntmps52
   go_wp2_with (first|((with_reducible refine gate_dst (N:=1) rfl ?_);refine box_event ?hg (N:=1) ?hd (cs:=#[.int .i64 a0_0,.bool a0_1,.string a0_2,.slice A0_3 l0_3.length c0_3]) (t:=49) ?hr ?_;(case hd=>rfl);(case hg=>rfl);(case hr=>first|(go_simp;done)|(go_simp;rfl));intro gb124 hg w5 hbox hb;have n0_:=Aside0.mk (below_step (by repeat (first|(with_reducible first|exact HB.out|apply below_alloc|apply pw_below_drewN|apply below_drew1)|exact HB.out)) hb);have n1_:=Aside0.mk (hbox);have n2_:=Aside0.mk ((by rw [hg];exact (below_size (by repeat (first|(with_reducible first|exact HB.out|apply below_alloc|apply pw_below_drewN|apply below_drew1)|exact HB.out))) : w.heap.size ≤ gb124));have n3_:=Aside0.mk ((by rw [hg];exact (below_size (by repeat (first|(with_reducible first|exact HB.out|apply below_alloc|apply pw_below_drewN|apply below_drew1)|exact HB.out))) : w.heap.size ≤ gb124));clear HB;have HB:=n0_;have BK124:=n1_;have GW124:=n2_;have GE124:=n3_;clear n0_ n1_ n2_ n3_;clear hb hbox hg;have hcz6_0 : w5.cell? ⟨gb124,0,none⟩ = some (.int .i64 a0_0):=(blk_cell BK124.out 0).trans rfl;have hcz6_1 : w5.cell? ⟨gb124,1,none⟩ = some (.bool a0_1):=(blk_cell BK124.out 1).trans rfl;have hcz6_2 : w5.cell? ⟨gb124,2,none⟩ = some (.string a0_2):=(blk_cell BK124.out 2).trans rfl;have hcz6_3 : w5.cell? ⟨gb124,3,none⟩ = some (.slice A0_3 l0_3.length c0_3):=(blk_cell BK124.out 3).trans rfl;have hfz6_0:=blk_frozen BK124.out 0;have hfz6_1:=blk_frozen BK124.out 1;have hfz6_2:=blk_frozen BK124.out 2;have hfz6_3:=blk_frozen BK124.out 3)|(go_at_call 70;(with_reducible refine (spec_l2pairs.calls k a0_0 a0_1 a0_2 _ _ l0_3 t125 _ ?side1 ?side2 A4.out).mono ?_);(case side1=>repeat (first|exact (Kd.C_below HR0_3.out HB.out)|(with_reducible refine Kd.C_alloc ?_ _)|(with_reducible refine Kd.C_drewN ?_ _)|(with_reducible refine Kd.C_drew ?_)));(case side2=>exact HC0_3.out);rintro e w7 ⟨rfl,hb⟩;have n0_:=Aside0.mk (blk_below (g:=gb124) (o:=.cells #[.int .i64 a0_0,.bool a0_1,.string a0_2,.slice A0_3 l0_3.length c0_3] 49 (0,0)) (by (with_reducible repeat (first|refine blk_drewN ?_ _|refine blk_drew ?_|refine blk_alloc ?_ _));exact BK124.out) hb);have n1_:=Aside0.mk (below_step (by repeat (first|(with_reducible first|exact HB.out|apply below_alloc|apply pw_below_drewN|apply below_drew1|refine below_set ?_ GE124.out)|exact HB.out)) hb);clear BK124;clear HB;have BK124:=n0_;have HB:=n1_;clear n0_ n1_;(try clear hb);(try clear hb2);(try clear hk);(try clear hi)))
   go_ret
   exact ⟨by first|rfl|(simp [errW_none,errW_some] <;> rfl)|(simp [*,errW_none,errW_some] <;> rfl),by repeat (first|(with_reducible first|exact HB.out|apply below_alloc|apply pw_below_drewN|apply below_drew1|refine below_set ?_ GE124.out)|exact HB.out)⟩
  ·rw [if_neg c3] at H
   have c3b0 : ((l0_3.length : Int) == 0) = false:=beq_eq_false_iff_ne.mpr c3
   have c3b1 : ((l0_3.length : Int) != 0) = true:=bne_iff_ne.mpr c3
   have c3b2 : ¬ (l0_3 = []):=fun h_=>c3 (by rw [h_];rfl)
   obtain rfl:=Option.some.inj H
   go_enter Tryd.func52,Tryd.ntmps52
   go_wp2_with (first|((with_reducible refine gate_dst (N:=1) rfl ?_);refine box_event ?hg (N:=1) ?hd (cs:=#[.int .i64 a0_0,.bool a0_1,.string a0_2,.slice A0_3 l0_3.length c0_3]) (t:=49) ?hr ?_;(case hd=>rfl);(case hg=>rfl);(case hr=>first|(go_simp;done)|(go_simp;rfl));intro gb124 hg w8 hbox hb;have n0_:=Aside0.mk (below_step (by repeat (first|(with_reducible first|exact HB.out|apply below_alloc|apply pw_below_drewN|apply below_drew1)|exact HB.out)) hb);have n1_:=Aside0.mk (hbox);have n2_:=Aside0.mk ((by rw [hg];exact (below_size (by repeat (first|(with_reducible first|exact HB.out|apply below_alloc|apply pw_below_drewN|apply below_drew1)|exact HB.out))) : w.heap.size ≤ gb124));have n3_:=Aside0.mk ((by rw [hg];exact (below_size (by repeat (first|(with_reducible first|exact HB.out|apply below_alloc|apply pw_below_drewN|apply below_drew1)|exact HB.out))) : w.heap.size ≤ gb124));clear HB;have HB:=n0_;have BK124:=n1_;have GW124:=n2_;have GE124:=n3_;clear n0_ n1_ n2_ n3_;clear hb hbox hg;have hcz9_0 : w8.cell? ⟨gb124,0,none⟩ = some (.int .i64 a0_0):=(blk_cell BK124.out 0).trans rfl;have hcz9_1 : w8.cell? ⟨gb124,1,none⟩ = some (.bool a0_1):=(blk_cell BK124.out 1).trans rfl;have hcz9_2 : w8.cell? ⟨gb124,2,none⟩ = some (.string a0_2):=(blk_cell BK124.out 2).trans rfl;have hcz9_3 : w8.cell? ⟨gb124,3,none⟩ = some (.slice A0_3 l0_3.length c0_3):=(blk_cell BK124.out 3).trans rfl;have hfz9_0:=blk_frozen BK124.out 0;have hfz9_1:=blk_frozen BK124.out 1;have hfz9_2:=blk_frozen BK124.out 2;have hfz9_3:=blk_frozen BK124.out 3))
   go_ret
   exact ⟨by first|rfl|(simp [errW_none,errW_some] <;> rfl)|(simp [*,errW_none,errW_some] <;> rfl),by repeat (first|(with_reducible first|exact HB.out|apply below_alloc|apply pw_below_drewN|apply below_drew1|refine below_set ?_ GE124.out)|exact HB.out)⟩
 ·rw [if_neg c2] at H
  have c2b0 : (a0_0 == 0) = false:=beq_eq_false_iff_ne.mpr c2
  have c2b1 : (a0_0 != 0) = true:=bne_iff_ne.mpr c2
  have HC10:=Aside0.mk H
  clear H
  go_enter Tryd.func52,Tryd.ntmps52
  go_upto_if 15 with (first|((with_reducible refine gate_dst (N:=1) rfl ?_);refine box_event ?hg (N:=1) ?hd (cs:=#[.int .i64 a0_0,.bool a0_1,.string a0_2,.slice A0_3 l0_3.length c0_3]) (t:=49) ?hr ?_;(case hd=>rfl);(case hg=>rfl);(case hr=>first|(go_simp;done)|(go_simp;rfl));intro gb124 hg w11 hbox hb;have n0_:=Aside0.mk (below_step (by repeat (first|(with_reducible first|exact HB.out|apply below_alloc|apply pw_below_drewN|apply below_drew1)|exact HB.out)) hb);have n1_:=Aside0.mk (hbox);have n2_:=Aside0.mk ((by rw [hg];exact (below_size (by repeat (first|(with_reducible first|exact HB.out|apply below_alloc|apply pw_below_drewN|apply below_drew1)|exact HB.out))) : w.heap.size ≤ gb124));have n3_:=Aside0.mk ((by rw [hg];exact (below_size (by repeat (first|(with_reducible first|exact HB.out|apply below_alloc|apply pw_below_drewN|apply below_drew1)|exact HB.out))) : w.heap.size ≤ gb124));clear HB;have HB:=n0_;have BK124:=n1_;have GW124:=n2_;have GE124:=n3_;clear n0_ n1_ n2_ n3_;clear hb hbox hg;have hcz12_0 : w11.cell? ⟨gb124,0,none⟩ = some (.int .i64 a0_0):=(blk_cell BK124.out 0).trans rfl;have hcz12_1 : w11.cell? ⟨gb124,1,none⟩ = some (.bool a0_1):=(blk_cell BK124.out 1).trans rfl;have hcz12_2 : w11.cell? ⟨gb124,2,none⟩ = some (.string a0_2):=(blk_cell BK124.out 2).trans rfl;have hcz12_3 : w11.cell? ⟨gb124,3,none⟩ = some (.slice A0_3 l0_3.length c0_3):=(blk_cell BK124.out 3).trans rfl;have hfz12_0:=blk_frozen BK124.out 0;have hfz12_1:=blk_frozen BK124.out 1;have hfz12_2:=blk_frozen BK124.out 2;have hfz12_3:=blk_frozen BK124.out 3))
  (try simp only [Act.put,List.setIfInBounds_toArray,List.set_cons_zero,List.set_cons_succ])
  go_cut [15] (fun v15 wc=>∃ (kq : Nat) (x15_9 : Bool),v15 = .bool x15_9 ∧ Aside0 (spec_l2kidsOk.j0 kq a0_0 x15_9 a0_0 a0_1 a0_2 l0_3 = some r) ∧ Aside0 (kq ≤ k) ∧ Aside0 (wc.heap[gb124]? = some (.cells #[.int .i64 a0_0,.bool a0_1,.string a0_2,(.slice A0_3 l0_3.length c0_3)] 49 (0,0))) ∧ Aside0 (Below w.heap.size w wc))
  case first =>
   have H:=HC10.out
   clear HC10
   by_cases c13 : a0_0 = 1
   ·rw [if_pos c13] at H
    have c13b0 : (a0_0 == 1) = true:=beq_iff_eq.mpr c13
    have c13b1 : (a0_0 != 1) = false:=bne_eq_false_iff_eq.mpr c13
    clear c13
    (first|rw [c13b0]|(simp only [i64_w,i32_w];rw [c13b0])|skip)
    have H':=Aside0.mk H
    clear H
    go_wp2
    go_meet
    case rel=>exact ⟨_,((a0_0 == 1)),(by first|rfl|(simp;done)|(simp [*];done)),H',⟨by first|omega|exact Nat.le_refl _⟩,⟨by (with_reducible repeat (first|refine blk_drewN ?_ _|refine blk_drew ?_|refine blk_alloc ?_ _));exact BK124.out⟩,⟨by repeat (first|(with_reducible first|exact HB.out|apply below_alloc|apply pw_below_drewN|apply below_drew1|refine below_set ?_ GE124.out)|exact HB.out)⟩⟩
   ·rw [if_neg c13] at H
    have c13b0 : (a0_0 == 1) = false:=beq_eq_false_iff_ne.mpr c13
    have c13b1 : (a0_0 != 1) = true:=bne_iff_ne.mpr c13
    (first|rw [c13b0]|(simp only [i64_w,i32_w];rw [c13b0])|skip)
    have H':=Aside0.mk H
    clear H
    go_wp2
    go_meet
    case rel=>exact ⟨_,((a0_0 == 2)),(by first|rfl|(simp;done)|(simp [*];done)),H',⟨by first|omega|exact Nat.le_refl _⟩,⟨by (with_reducible repeat (first|refine blk_drewN ?_ _|refine blk_drew ?_|refine blk_alloc ?_ _));exact BK124.out⟩,⟨by repeat (first|(with_reducible first|exact HB.out|apply below_alloc|apply pw_below_drewN|apply below_drew1|refine below_set ?_ GE124.out)|exact HB.out)⟩⟩
  case rest =>
   clear HC10
   try clear c1
   try clear c2
   try clear c2b0
   try clear c2b1
   try clear p2
   try clear c3
   try clear c3b0
   try clear c3b1
   try clear c3b2
   try clear c5
   try clear c13
   try clear c13b0
   try clear c13b1
   try clear hcz12_0
   try clear hcz12_1
   try clear hcz12_2
   try clear hcz12_3
   try clear hcz6_0
   try clear hcz6_1
   try clear hcz6_2
   try clear hcz6_3
   try clear hcz9_0
   try clear hcz9_1
   try clear hcz9_2
   try clear hcz9_3
   try clear hfz12_0
   try clear hfz12_1
   try clear hfz12_2
   try clear hfz12_3
   try clear hfz6_0
   try clear hfz6_1
   try clear hfz6_2
   try clear hfz6_3
   try clear hfz9_0
   try clear hfz9_1
   try clear hfz9_2
   try clear hfz9_3
   obtain ⟨kq,x15_9,rfl,HA,HJ9,BK124,HB⟩:=hcut
   cases kq with
   | zero=>exact absurd HA.out (by simp [spec_l2kidsOk.j0])
   | succ kj9 =>
    have H:=HA.out
    clear HA
    simp only [spec_l2kidsOk.j0] at H
    by_cases c14 : x15_9 = true
    ·subst c14
     have H1 : (if (l0_3.length : Int) = 0 then (if a0_1 = true then (some false) else (some (a0_2.toList == ([] : List UInt8)))) else (some false)) = some r:=by rw [if_pos rfl] at H;exact H
     clear H
     have H:=H1
     clear H1
     by_cases c15 : (l0_3.length : Int) = 0
     ·rw [if_pos c15] at H
      have c15b0 : ((l0_3.length : Int) == 0) = true:=beq_iff_eq.mpr c15
      have c15b1 : ((l0_3.length : Int) != 0) = false:=bne_eq_false_iff_eq.mpr c15
      clear c15
      by_cases c16 : a0_1 = true
      ·subst c16
       have H1 : (some false) = some r:=by rw [if_pos rfl] at H;exact H
       clear H
       have H:=H1
       clear H1
       obtain rfl:=Option.some.inj H
       have hcz17_0 : wc.cell? ⟨gb124,0,none⟩ = some (.int .i64 a0_0):=(blk_cell BK124.out 0).trans rfl
       have hcz17_1 : wc.cell? ⟨gb124,1,none⟩ = some (.bool true):=(blk_cell BK124.out 1).trans rfl
       have hcz17_2 : wc.cell? ⟨gb124,2,none⟩ = some (.string a0_2):=(blk_cell BK124.out 2).trans rfl
       have hcz17_3 : wc.cell? ⟨gb124,3,none⟩ = some (.slice A0_3 l0_3.length c0_3):=(blk_cell BK124.out 3).trans rfl
       have hfz17_0:=blk_frozen BK124.out 0
       have hfz17_1:=blk_frozen BK124.out 1
       have hfz17_2:=blk_frozen BK124.out 2
       have hfz17_3:=blk_frozen BK124.out 3
       go_wp2
       go_ret
       exact ⟨by first|rfl|(simp [errW_none,errW_some] <;> rfl)|(simp [*,errW_none,errW_some] <;> rfl),by repeat (first|(with_reducible first|exact HB.out|apply below_alloc|apply pw_below_drewN|apply below_drew1|refine below_set ?_ GE124.out)|exact HB.out)⟩
      ·replace c16:=Bool.eq_false_iff.mpr c16
       subst c16
       have H1 : (some (a0_2.toList == ([] : List UInt8))) = some r:=by rw [if_neg (show ¬ (false = true) by decide)] at H;exact H
       clear H
       have H:=H1
       clear H1
       obtain rfl:=Option.some.inj H
       have hcz18_0 : wc.cell? ⟨gb124,0,none⟩ = some (.int .i64 a0_0):=(blk_cell BK124.out 0).trans rfl
       have hcz18_1 : wc.cell? ⟨gb124,1,none⟩ = some (.bool false):=(blk_cell BK124.out 1).trans rfl
       have hcz18_2 : wc.cell? ⟨gb124,2,none⟩ = some (.string a0_2):=(blk_cell BK124.out 2).trans rfl
       have hcz18_3 : wc.cell? ⟨gb124,3,none⟩ = some (.slice A0_3 l0_3.length c0_3):=(blk_cell BK124.out 3).trans rfl
       have hfz18_0:=blk_frozen BK124.out 0
       have hfz18_1:=blk_frozen BK124.out 1
       have hfz18_2:=blk_frozen BK124.out 2
       have hfz18_3:=blk_frozen BK124.out 3
       go_wp2
       go_ret
       exact ⟨by first|rfl|(simp [errW_none,errW_some] <;> rfl)|(simp [*,errW_none,errW_some] <;> rfl),by repeat (first|(with_reducible first|exact HB.out|apply below_alloc|apply pw_below_drewN|apply below_drew1|refine below_set ?_ GE124.out)|exact HB.out)⟩
     ·rw [if_neg c15] at H
      have c15b0 : ((l0_3.length : Int) == 0) = false:=beq_eq_false_iff_ne.mpr c15
      have c15b1 : ((l0_3.length : Int) != 0) = true:=bne_iff_ne.mpr c15
      have c15b2 : ¬ (l0_3 = []):=fun h_=>c15 (by rw [h_];rfl)
      obtain rfl:=Option.some.inj H
      have hcz19_0 : wc.cell? ⟨gb124,0,none⟩ = some (.int .i64 a0_0):=(blk_cell BK124.out 0).trans rfl
      have hcz19_1 : wc.cell? ⟨gb124,1,none⟩ = some (.bool a0_1):=(blk_cell BK124.out 1).trans rfl
      have hcz19_2 : wc.cell? ⟨gb124,2,none⟩ = some (.string a0_2):=(blk_cell BK124.out 2).trans rfl
      have hcz19_3 : wc.cell? ⟨gb124,3,none⟩ = some (.slice A0_3 l0_3.length c0_3):=(blk_cell BK124.out 3).trans rfl
      have hfz19_0:=blk_frozen BK124.out 0
      have hfz19_1:=blk_frozen BK124.out 1
      have hfz19_2:=blk_frozen BK124.out 2
      have hfz19_3:=blk_frozen BK124.out 3
      go_wp2
      go_ret
      exact ⟨by first|rfl|(simp [errW_none,errW_some] <;> rfl)|(simp [*,errW_none,errW_some] <;> rfl),by repeat (first|(with_reducible first|exact HB.out|apply below_alloc|apply pw_below_drewN|apply below_drew1|refine below_set ?_ GE124.out)|exact HB.out)⟩
    ·replace c14:=Bool.eq_false_iff.mpr c14
     subst c14
     have H1 : (if a0_0 = 3 then (spec_l2kidsOk.j1 kj9 a0_0 (a0_0 == 3) a0_0 a0_1 a0_2 l0_3) else (spec_l2kidsOk.j1 kj9 a0_0 (a0_0 == 4) a0_0 a0_1 a0_2 l0_3)) = some r:=by rw [if_neg (show ¬ (false = true) by decide)] at H;exact H
     clear H
     have H:=H1
     clear H1
     have HC20:=Aside0.mk H
     clear H
     go_upto_if 32 with (fail)
     go_cut [32] (fun v32 wc=>∃ (kq : Nat) (x32_19 : Bool),v32 = .bool x32_19 ∧ Aside0 (spec_l2kidsOk.j1 kq a0_0 x32_19 a0_0 a0_1 a0_2 l0_3 = some r) ∧ Aside0 (kq ≤ kj9) ∧ Aside0 (wc.heap[gb124]? = some (.cells #[.int .i64 a0_0,.bool a0_1,.string a0_2,(.slice A0_3 l0_3.length c0_3)] 49 (0,0))) ∧ Aside0 (Below w.heap.size w wc))
     case first =>
      have H:=HC20.out
      clear HC20
      by_cases c21 : a0_0 = 3
      ·rw [if_pos c21] at H
       have c21b0 : (a0_0 == 3) = true:=beq_iff_eq.mpr c21
       have c21b1 : (a0_0 != 3) = false:=bne_eq_false_iff_eq.mpr c21
       clear c21
       (first|rw [c21b0]|(simp only [i64_w,i32_w];rw [c21b0])|skip)
       have H':=Aside0.mk H
       clear H
       go_wp2
       go_meet
       case rel=>exact ⟨_,((a0_0 == 3)),(by first|rfl|(simp;done)|(simp [*];done)),H',⟨by have:=HJ9.out;first|omega|exact Nat.le_refl _⟩,⟨by (with_reducible repeat (first|refine blk_drewN ?_ _|refine blk_drew ?_|refine blk_alloc ?_ _));exact BK124.out⟩,⟨by repeat (first|(with_reducible first|exact HB.out|apply below_alloc|apply pw_below_drewN|apply below_drew1|refine below_set ?_ GE124.out)|exact HB.out)⟩⟩
      ·rw [if_neg c21] at H
       have c21b0 : (a0_0 == 3) = false:=beq_eq_false_iff_ne.mpr c21
       have c21b1 : (a0_0 != 3) = true:=bne_iff_ne.mpr c21
       (first|rw [c21b0]|(simp only [i64_w,i32_w];rw [c21b0])|skip)
       have H':=Aside0.mk H
       clear H
       go_wp2
       go_meet
       case rel=>exact ⟨_,((a0_0 == 4)),(by first|rfl|(simp;done)|(simp [*];done)),H',⟨by have:=HJ9.out;first|omega|exact Nat.le_refl _⟩,⟨by (with_reducible repeat (first|refine blk_drewN ?_ _|refine blk_drew ?_|refine blk_alloc ?_ _));exact BK124.out⟩,⟨by repeat (first|(with_reducible first|exact HB.out|apply below_alloc|apply pw_below_drewN|apply below_drew1|refine below_set ?_ GE124.out)|exact HB.out)⟩⟩
     case rest =>
      clear HC20
      try clear c1
      try clear c2
      try clear c2b0
      try clear c2b1
      try clear p2
      try clear c3
      try clear c3b0
      try clear c3b1
      try clear c3b2
      try clear c5
      try clear c13
      try clear c13b0
      try clear c13b1
      try clear c14
      try clear c15
      try clear c15b0
      try clear c15b1
      try clear c15b2
      try clear c16
      try clear c21
      try clear c21b0
      try clear c21b1
      try clear hcz12_0
      try clear hcz12_1
      try clear hcz12_2
      try clear hcz12_3
      try clear hcz17_0
      try clear hcz17_1
      try clear hcz17_2
      try clear hcz17_3
      try clear hcz18_0
      try clear hcz18_1
      try clear hcz18_2
      try clear hcz18_3
      try clear hcz19_0
      try clear hcz19_1
      try clear hcz19_2
      try clear hcz19_3
      try clear hcz6_0
      try clear hcz6_1
      try clear hcz6_2
      try clear hcz6_3
      try clear hcz9_0
      try clear hcz9_1
      try clear hcz9_2
      try clear hcz9_3
      try clear hfz12_0
      try clear hfz12_1
      try clear hfz12_2
      try clear hfz12_3
      try clear hfz17_0
      try clear hfz17_1
      try clear hfz17_2
      try clear hfz17_3
      try clear hfz18_0
      try clear hfz18_1
      try clear hfz18_2
      try clear hfz18_3
      try clear hfz19_0
      try clear hfz19_1
      try clear hfz19_2
      try clear hfz19_3
      try clear hfz6_0
      try clear hfz6_1
      try clear hfz6_2
      try clear hfz6_3
      try clear hfz9_0
      try clear hfz9_1
      try clear hfz9_2
      try clear hfz9_3
      try clear p2
      obtain ⟨kq,x32_19,rfl,HA,HJ19,BK124,HB⟩:=hcut
      cases kq with
      | zero=>exact absurd HA.out (by simp [spec_l2kidsOk.j1])
      | succ kj19 =>
       have H:=HA.out
       clear HA
       simp only [spec_l2kidsOk.j1] at H
       by_cases c22 : x32_19 = true
       ·subst c22
        have H1 : (if (l0_3.length : Int) ≥ 2 then (if a0_1 = true then (some false) else (some (a0_2.toList == ([] : List UInt8)))) else (some false)) = some r:=by rw [if_pos rfl] at H;exact H
        clear H
        have H:=H1
        clear H1
        by_cases c23 : (l0_3.length : Int) ≥ 2
        ·rw [if_pos c23] at H
         have c23b0 : decide (2 ≤ (l0_3.length : Int)) = true:=decide_eq_true c23
         have c23b1 : decide (2 ≤ l0_3.length) = true:=decide_eq_true (by omega)
         clear c23
         by_cases c24 : a0_1 = true
         ·subst c24
          have H1 : (some false) = some r:=by rw [if_pos rfl] at H;exact H
          clear H
          have H:=H1
          clear H1
          obtain rfl:=Option.some.inj H
          have hcz25_0 : wc.cell? ⟨gb124,0,none⟩ = some (.int .i64 a0_0):=(blk_cell BK124.out 0).trans rfl
          have hcz25_1 : wc.cell? ⟨gb124,1,none⟩ = some (.bool true):=(blk_cell BK124.out 1).trans rfl
          have hcz25_2 : wc.cell? ⟨gb124,2,none⟩ = some (.string a0_2):=(blk_cell BK124.out 2).trans rfl
          have hcz25_3 : wc.cell? ⟨gb124,3,none⟩ = some (.slice A0_3 l0_3.length c0_3):=(blk_cell BK124.out 3).trans rfl
          have hfz25_0:=blk_frozen BK124.out 0
          have hfz25_1:=blk_frozen BK124.out 1
          have hfz25_2:=blk_frozen BK124.out 2
          have hfz25_3:=blk_frozen BK124.out 3
          go_wp2
          go_ret
          exact ⟨by first|rfl|(simp [errW_none,errW_some] <;> rfl)|(simp [*,errW_none,errW_some] <;> rfl),by repeat (first|(with_reducible first|exact HB.out|apply below_alloc|apply pw_below_drewN|apply below_drew1|refine below_set ?_ GE124.out)|exact HB.out)⟩
         ·replace c24:=Bool.eq_false_iff.mpr c24
          subst c24
          have H1 : (some (a0_2.toList == ([] : List UInt8))) = some r:=by rw [if_neg (show ¬ (false = true) by decide)] at H;exact H
          clear H
          have H:=H1
          clear H1
          obtain rfl:=Option.some.inj H
          have hcz26_0 : wc.cell? ⟨gb124,0,none⟩ = some (.int .i64 a0_0):=(blk_cell BK124.out 0).trans rfl
          have hcz26_1 : wc.cell? ⟨gb124,1,none⟩ = some (.bool false):=(blk_cell BK124.out 1).trans rfl
          have hcz26_2 : wc.cell? ⟨gb124,2,none⟩ = some (.string a0_2):=(blk_cell BK124.out 2).trans rfl
          have hcz26_3 : wc.cell? ⟨gb124,3,none⟩ = some (.slice A0_3 l0_3.length c0_3):=(blk_cell BK124.out 3).trans rfl
          have hfz26_0:=blk_frozen BK124.out 0
          have hfz26_1:=blk_frozen BK124.out 1
          have hfz26_2:=blk_frozen BK124.out 2
          have hfz26_3:=blk_frozen BK124.out 3
          go_wp2
          go_ret
          exact ⟨by first|rfl|(simp [errW_none,errW_some] <;> rfl)|(simp [*,errW_none,errW_some] <;> rfl),by repeat (first|(with_reducible first|exact HB.out|apply below_alloc|apply pw_below_drewN|apply below_drew1|refine below_set ?_ GE124.out)|exact HB.out)⟩
        ·rw [if_neg c23] at H
         have c23b0 : decide (2 ≤ (l0_3.length : Int)) = false:=decide_eq_false c23
         have c23b1 : decide (2 ≤ l0_3.length) = false:=decide_eq_false (by omega)
         clear c23
         obtain rfl:=Option.some.inj H
         have hcz27_0 : wc.cell? ⟨gb124,0,none⟩ = some (.int .i64 a0_0):=(blk_cell BK124.out 0).trans rfl
         have hcz27_1 : wc.cell? ⟨gb124,1,none⟩ = some (.bool a0_1):=(blk_cell BK124.out 1).trans rfl
         have hcz27_2 : wc.cell? ⟨gb124,2,none⟩ = some (.string a0_2):=(blk_cell BK124.out 2).trans rfl
         have hcz27_3 : wc.cell? ⟨gb124,3,none⟩ = some (.slice A0_3 l0_3.length c0_3):=(blk_cell BK124.out 3).trans rfl
         have hfz27_0:=blk_frozen BK124.out 0
         have hfz27_1:=blk_frozen BK124.out 1
         have hfz27_2:=blk_frozen BK124.out 2
         have hfz27_3:=blk_frozen BK124.out 3
         go_wp2
         go_ret
         exact ⟨by first|rfl|(simp [errW_none,errW_some] <;> rfl)|(simp [*,errW_none,errW_some] <;> rfl),by repeat (first|(with_reducible first|exact HB.out|apply below_alloc|apply pw_below_drewN|apply below_drew1|refine below_set ?_ GE124.out)|exact HB.out)⟩
       ·replace c22:=Bool.eq_false_iff.mpr c22
        subst c22
        have H1 : (if a0_0 = 5 then (if (l0_3.length : Int) = 1 then (if a0_1 = true then (some false) else (some (a0_2.toList == ([] : List UInt8)))) else (some false)) else (if a0_0 = 6 then (if (l0_3.length : Int) = 1 then (if a0_1 = true then (some false) else (some (a0_2.toList == ([] : List UInt8)))) else (some false)) else (if a0_0 = 7 then (if (l0_3.length : Int) = 1 then (if a0_1 = true then (some false) else (some (a0_2.toList == ([] : List UInt8)))) else (some false)) else (some false)))) = some r:=by rw [if_neg (show ¬ (false = true) by decide)] at H;exact H
        clear H
        have H:=H1
        clear H1
        by_cases c28 : a0_0 = 5
        ·rw [if_pos c28] at H
         have c28b0 : (a0_0 == 5) = true:=beq_iff_eq.mpr c28
         have c28b1 : (a0_0 != 5) = false:=bne_eq_false_iff_eq.mpr c28
         clear c28
         by_cases c29 : (l0_3.length : Int) = 1
         ·rw [if_pos c29] at H
          have c29b0 : ((l0_3.length : Int) == 1) = true:=beq_iff_eq.mpr c29
          have c29b1 : ((l0_3.length : Int) != 1) = false:=bne_eq_false_iff_eq.mpr c29
          clear c29
          by_cases c30 : a0_1 = true
          ·subst c30
           have H1 : (some false) = some r:=by rw [if_pos rfl] at H;exact H
           clear H
           have H:=H1
           clear H1
           obtain rfl:=Option.some.inj H
           have hcz31_0 : wc.cell? ⟨gb124,0,none⟩ = some (.int .i64 a0_0):=(blk_cell BK124.out 0).trans rfl
           have hcz31_1 : wc.cell? ⟨gb124,1,none⟩ = some (.bool true):=(blk_cell BK124.out 1).trans rfl
           have hcz31_2 : wc.cell? ⟨gb124,2,none⟩ = some (.string a0_2):=(blk_cell BK124.out 2).trans rfl
           have hcz31_3 : wc.cell? ⟨gb124,3,none⟩ = some (.slice A0_3 l0_3.length c0_3):=(blk_cell BK124.out 3).trans rfl
           have hfz31_0:=blk_frozen BK124.out 0
           have hfz31_1:=blk_frozen BK124.out 1
           have hfz31_2:=blk_frozen BK124.out 2
           have hfz31_3:=blk_frozen BK124.out 3
           go_wp2
           go_ret
           exact ⟨by first|rfl|(simp [errW_none,errW_some] <;> rfl)|(simp [*,errW_none,errW_some] <;> rfl),by repeat (first|(with_reducible first|exact HB.out|apply below_alloc|apply pw_below_drewN|apply below_drew1|refine below_set ?_ GE124.out)|exact HB.out)⟩
          ·replace c30:=Bool.eq_false_iff.mpr c30
           subst c30
           have H1 : (some (a0_2.toList == ([] : List UInt8))) = some r:=by rw [if_neg (show ¬ (false = true) by decide)] at H;exact H
           clear H
           have H:=H1
           clear H1
           obtain rfl:=Option.some.inj H
           have hcz32_0 : wc.cell? ⟨gb124,0,none⟩ = some (.int .i64 a0_0):=(blk_cell BK124.out 0).trans rfl
           have hcz32_1 : wc.cell? ⟨gb124,1,none⟩ = some (.bool false):=(blk_cell BK124.out 1).trans rfl
           have hcz32_2 : wc.cell? ⟨gb124,2,none⟩ = some (.string a0_2):=(blk_cell BK124.out 2).trans rfl
           have hcz32_3 : wc.cell? ⟨gb124,3,none⟩ = some (.slice A0_3 l0_3.length c0_3):=(blk_cell BK124.out 3).trans rfl
           have hfz32_0:=blk_frozen BK124.out 0
           have hfz32_1:=blk_frozen BK124.out 1
           have hfz32_2:=blk_frozen BK124.out 2
           have hfz32_3:=blk_frozen BK124.out 3
           go_wp2
           go_ret
           exact ⟨by first|rfl|(simp [errW_none,errW_some] <;> rfl)|(simp [*,errW_none,errW_some] <;> rfl),by repeat (first|(with_reducible first|exact HB.out|apply below_alloc|apply pw_below_drewN|apply below_drew1|refine below_set ?_ GE124.out)|exact HB.out)⟩
         ·rw [if_neg c29] at H
          have c29b0 : ((l0_3.length : Int) == 1) = false:=beq_eq_false_iff_ne.mpr c29
          have c29b1 : ((l0_3.length : Int) != 1) = true:=bne_iff_ne.mpr c29
          obtain rfl:=Option.some.inj H
          have hcz33_0 : wc.cell? ⟨gb124,0,none⟩ = some (.int .i64 a0_0):=(blk_cell BK124.out 0).trans rfl
          have hcz33_1 : wc.cell? ⟨gb124,1,none⟩ = some (.bool a0_1):=(blk_cell BK124.out 1).trans rfl
          have hcz33_2 : wc.cell? ⟨gb124,2,none⟩ = some (.string a0_2):=(blk_cell BK124.out 2).trans rfl
          have hcz33_3 : wc.cell? ⟨gb124,3,none⟩ = some (.slice A0_3 l0_3.length c0_3):=(blk_cell BK124.out 3).trans rfl
          have hfz33_0:=blk_frozen BK124.out 0
          have hfz33_1:=blk_frozen BK124.out 1
          have hfz33_2:=blk_frozen BK124.out 2
          have hfz33_3:=blk_frozen BK124.out 3
          go_wp2
          go_ret
          exact ⟨by first|rfl|(simp [errW_none,errW_some] <;> rfl)|(simp [*,errW_none,errW_some] <;> rfl),by repeat (first|(with_reducible first|exact HB.out|apply below_alloc|apply pw_below_drewN|apply below_drew1|refine below_set ?_ GE124.out)|exact HB.out)⟩
        ·rw [if_neg c28] at H
         have c28b0 : (a0_0 == 5) = false:=beq_eq_false_iff_ne.mpr c28
         have c28b1 : (a0_0 != 5) = true:=bne_iff_ne.mpr c28
         by_cases c34 : a0_0 = 6
         ·rw [if_pos c34] at H
          have c34b0 : (a0_0 == 6) = true:=beq_iff_eq.mpr c34
          have c34b1 : (a0_0 != 6) = false:=bne_eq_false_iff_eq.mpr c34
          clear c34
          by_cases c35 : (l0_3.length : Int) = 1
          ·rw [if_pos c35] at H
           have c35b0 : ((l0_3.length : Int) == 1) = true:=beq_iff_eq.mpr c35
           have c35b1 : ((l0_3.length : Int) != 1) = false:=bne_eq_false_iff_eq.mpr c35
           clear c35
           by_cases c36 : a0_1 = true
           ·subst c36
            have H1 : (some false) = some r:=by rw [if_pos rfl] at H;exact H
            clear H
            have H:=H1
            clear H1
            obtain rfl:=Option.some.inj H
            have hcz37_0 : wc.cell? ⟨gb124,0,none⟩ = some (.int .i64 a0_0):=(blk_cell BK124.out 0).trans rfl
            have hcz37_1 : wc.cell? ⟨gb124,1,none⟩ = some (.bool true):=(blk_cell BK124.out 1).trans rfl
            have hcz37_2 : wc.cell? ⟨gb124,2,none⟩ = some (.string a0_2):=(blk_cell BK124.out 2).trans rfl
            have hcz37_3 : wc.cell? ⟨gb124,3,none⟩ = some (.slice A0_3 l0_3.length c0_3):=(blk_cell BK124.out 3).trans rfl
            have hfz37_0:=blk_frozen BK124.out 0
            have hfz37_1:=blk_frozen BK124.out 1
            have hfz37_2:=blk_frozen BK124.out 2
            have hfz37_3:=blk_frozen BK124.out 3
            go_wp2
            go_ret
            exact ⟨by first|rfl|(simp [errW_none,errW_some] <;> rfl)|(simp [*,errW_none,errW_some] <;> rfl),by repeat (first|(with_reducible first|exact HB.out|apply below_alloc|apply pw_below_drewN|apply below_drew1|refine below_set ?_ GE124.out)|exact HB.out)⟩
           ·replace c36:=Bool.eq_false_iff.mpr c36
            subst c36
            have H1 : (some (a0_2.toList == ([] : List UInt8))) = some r:=by rw [if_neg (show ¬ (false = true) by decide)] at H;exact H
            clear H
            have H:=H1
            clear H1
            obtain rfl:=Option.some.inj H
            have hcz38_0 : wc.cell? ⟨gb124,0,none⟩ = some (.int .i64 a0_0):=(blk_cell BK124.out 0).trans rfl
            have hcz38_1 : wc.cell? ⟨gb124,1,none⟩ = some (.bool false):=(blk_cell BK124.out 1).trans rfl
            have hcz38_2 : wc.cell? ⟨gb124,2,none⟩ = some (.string a0_2):=(blk_cell BK124.out 2).trans rfl
            have hcz38_3 : wc.cell? ⟨gb124,3,none⟩ = some (.slice A0_3 l0_3.length c0_3):=(blk_cell BK124.out 3).trans rfl
            have hfz38_0:=blk_frozen BK124.out 0
            have hfz38_1:=blk_frozen BK124.out 1
            have hfz38_2:=blk_frozen BK124.out 2
            have hfz38_3:=blk_frozen BK124.out 3
            go_wp2
            go_ret
            exact ⟨by first|rfl|(simp [errW_none,errW_some] <;> rfl)|(simp [*,errW_none,errW_some] <;> rfl),by repeat (first|(with_reducible first|exact HB.out|apply below_alloc|apply pw_below_drewN|apply below_drew1|refine below_set ?_ GE124.out)|exact HB.out)⟩
          ·rw [if_neg c35] at H
           have c35b0 : ((l0_3.length : Int) == 1) = false:=beq_eq_false_iff_ne.mpr c35
           have c35b1 : ((l0_3.length : Int) != 1) = true:=bne_iff_ne.mpr c35
           obtain rfl:=Option.some.inj H
           have hcz39_0 : wc.cell? ⟨gb124,0,none⟩ = some (.int .i64 a0_0):=(blk_cell BK124.out 0).trans rfl
           have hcz39_1 : wc.cell? ⟨gb124,1,none⟩ = some (.bool a0_1):=(blk_cell BK124.out 1).trans rfl
           have hcz39_2 : wc.cell? ⟨gb124,2,none⟩ = some (.string a0_2):=(blk_cell BK124.out 2).trans rfl
           have hcz39_3 : wc.cell? ⟨gb124,3,none⟩ = some (.slice A0_3 l0_3.length c0_3):=(blk_cell BK124.out 3).trans rfl
           have hfz39_0:=blk_frozen BK124.out 0
           have hfz39_1:=blk_frozen BK124.out 1
           have hfz39_2:=blk_frozen BK124.out 2
           have hfz39_3:=blk_frozen BK124.out 3
           go_wp2
           go_ret
           exact ⟨by first|rfl|(simp [errW_none,errW_some] <;> rfl)|(simp [*,errW_none,errW_some] <;> rfl),by repeat (first|(with_reducible first|exact HB.out|apply below_alloc|apply pw_below_drewN|apply below_drew1|refine below_set ?_ GE124.out)|exact HB.out)⟩
         ·rw [if_neg c34] at H
          have c34b0 : (a0_0 == 6) = false:=beq_eq_false_iff_ne.mpr c34
          have c34b1 : (a0_0 != 6) = true:=bne_iff_ne.mpr c34
          by_cases c40 : a0_0 = 7
          ·rw [if_pos c40] at H
           have c40b0 : (a0_0 == 7) = true:=beq_iff_eq.mpr c40
           have c40b1 : (a0_0 != 7) = false:=bne_eq_false_iff_eq.mpr c40
           clear c40
           by_cases c41 : (l0_3.length : Int) = 1
           ·rw [if_pos c41] at H
            have c41b0 : ((l0_3.length : Int) == 1) = true:=beq_iff_eq.mpr c41
            have c41b1 : ((l0_3.length : Int) != 1) = false:=bne_eq_false_iff_eq.mpr c41
            clear c41
            by_cases c42 : a0_1 = true
            ·subst c42
             have H1 : (some false) = some r:=by rw [if_pos rfl] at H;exact H
             clear H
             have H:=H1
             clear H1
             obtain rfl:=Option.some.inj H
             have hcz43_0 : wc.cell? ⟨gb124,0,none⟩ = some (.int .i64 a0_0):=(blk_cell BK124.out 0).trans rfl
             have hcz43_1 : wc.cell? ⟨gb124,1,none⟩ = some (.bool true):=(blk_cell BK124.out 1).trans rfl
             have hcz43_2 : wc.cell? ⟨gb124,2,none⟩ = some (.string a0_2):=(blk_cell BK124.out 2).trans rfl
             have hcz43_3 : wc.cell? ⟨gb124,3,none⟩ = some (.slice A0_3 l0_3.length c0_3):=(blk_cell BK124.out 3).trans rfl
             have hfz43_0:=blk_frozen BK124.out 0
             have hfz43_1:=blk_frozen BK124.out 1
             have hfz43_2:=blk_frozen BK124.out 2
             have hfz43_3:=blk_frozen BK124.out 3
             go_wp2
             go_ret
             exact ⟨by first|rfl|(simp [errW_none,errW_some] <;> rfl)|(simp [*,errW_none,errW_some] <;> rfl),by repeat (first|(with_reducible first|exact HB.out|apply below_alloc|apply pw_below_drewN|apply below_drew1|refine below_set ?_ GE124.out)|exact HB.out)⟩
            ·replace c42:=Bool.eq_false_iff.mpr c42
             subst c42
             have H1 : (some (a0_2.toList == ([] : List UInt8))) = some r:=by rw [if_neg (show ¬ (false = true) by decide)] at H;exact H
             clear H
             have H:=H1
             clear H1
             obtain rfl:=Option.some.inj H
             have hcz44_0 : wc.cell? ⟨gb124,0,none⟩ = some (.int .i64 a0_0):=(blk_cell BK124.out 0).trans rfl
             have hcz44_1 : wc.cell? ⟨gb124,1,none⟩ = some (.bool false):=(blk_cell BK124.out 1).trans rfl
             have hcz44_2 : wc.cell? ⟨gb124,2,none⟩ = some (.string a0_2):=(blk_cell BK124.out 2).trans rfl
             have hcz44_3 : wc.cell? ⟨gb124,3,none⟩ = some (.slice A0_3 l0_3.length c0_3):=(blk_cell BK124.out 3).trans rfl
             have hfz44_0:=blk_frozen BK124.out 0
             have hfz44_1:=blk_frozen BK124.out 1
             have hfz44_2:=blk_frozen BK124.out 2
             have hfz44_3:=blk_frozen BK124.out 3
             go_wp2
             go_ret
             exact ⟨by first|rfl|(simp [errW_none,errW_some] <;> rfl)|(simp [*,errW_none,errW_some] <;> rfl),by repeat (first|(with_reducible first|exact HB.out|apply below_alloc|apply pw_below_drewN|apply below_drew1|refine below_set ?_ GE124.out)|exact HB.out)⟩
           ·rw [if_neg c41] at H
            have c41b0 : ((l0_3.length : Int) == 1) = false:=beq_eq_false_iff_ne.mpr c41
            have c41b1 : ((l0_3.length : Int) != 1) = true:=bne_iff_ne.mpr c41
            obtain rfl:=Option.some.inj H
            have hcz45_0 : wc.cell? ⟨gb124,0,none⟩ = some (.int .i64 a0_0):=(blk_cell BK124.out 0).trans rfl
            have hcz45_1 : wc.cell? ⟨gb124,1,none⟩ = some (.bool a0_1):=(blk_cell BK124.out 1).trans rfl
            have hcz45_2 : wc.cell? ⟨gb124,2,none⟩ = some (.string a0_2):=(blk_cell BK124.out 2).trans rfl
            have hcz45_3 : wc.cell? ⟨gb124,3,none⟩ = some (.slice A0_3 l0_3.length c0_3):=(blk_cell BK124.out 3).trans rfl
            have hfz45_0:=blk_frozen BK124.out 0
            have hfz45_1:=blk_frozen BK124.out 1
            have hfz45_2:=blk_frozen BK124.out 2
            have hfz45_3:=blk_frozen BK124.out 3
            go_wp2
            go_ret
            exact ⟨by first|rfl|(simp [errW_none,errW_some] <;> rfl)|(simp [*,errW_none,errW_some] <;> rfl),by repeat (first|(with_reducible first|exact HB.out|apply below_alloc|apply pw_below_drewN|apply below_drew1|refine below_set ?_ GE124.out)|exact HB.out)⟩
          ·rw [if_neg c40] at H
           have c40b0 : (a0_0 == 7) = false:=beq_eq_false_iff_ne.mpr c40
           have c40b1 : (a0_0 != 7) = true:=bne_iff_ne.mpr c40
           obtain rfl:=Option.some.inj H
           go_wp2
           go_ret
           exact ⟨by first|rfl|(simp [errW_none,errW_some] <;> rfl)|(simp [*,errW_none,errW_some] <;> rfl),by repeat (first|(with_reducible first|exact HB.out|apply below_alloc|apply pw_below_drewN|apply below_drew1|refine below_set ?_ GE124.out)|exact HB.out)⟩
mutual
def spec_ReOk.j0 : Nat → List (S49) → Bool → Option (Bool)
 | 0,_,_=>none
 | k + 1,x0,x15=>if x15 = true then (some false) else (if 0 ≤ (x0.length : Int) then (if ((x0.length : Int) : Int).toNat ≤ 35184372088832 then (spec_ReOk.l0 k x0 (List.replicate ((x0.length : Int) : Int).toNat 0) 0) else (none)) else (none))
def spec_ReOk.l0 : Nat → List (S49) → List Int → Int → Option (Bool)
 | 0,_,_,_=>none
 | k + 1,x0,x3,x4=>if x4 < (x0.length : Int) then (if 0 ≤ x4 then ((spec_l2kidsOk.f k ((rd_T49 x0 x4).f0) ((rd_T49 x0 x4).f1) ((rd_T49 x0 x4).f2) ((rd_T49 x0 x4).f3)).bind fun t130=>(if t130 = true then (spec_ReOk.l1 k x0 x3 x4 0) else (some false))) else (none)) else (spec_ReOk.l2 k x0 x3 0)
def spec_ReOk.l1 : Nat → List (S49) → List Int → Int → Int → Option (Bool)
 | 0,_,_,_,_=>none
 | k + 1,x0,x3,x4,x5=>if 0 ≤ x4 then (if x4 < (x0.length : Int) then (if x5 < (((rd_T49 x0 x4).f3).length : Int) then (if 0 ≤ x5 then (if (rd ((rd_T49 x0 x4).f3) x5) < 0 then (some false) else (if (rd ((rd_T49 x0 x4).f3) x5) ≥ x4 then (some false) else (if 0 ≤ (rd ((rd_T49 x0 x4).f3) x5) then (if (rd ((rd_T49 x0 x4).f3) x5) < (x3.length : Int) then (if (rd x3 (rd ((rd_T49 x0 x4).f3) x5)) > 0 then (some false) else (spec_ReOk.l1 k x0 (x3.set ((rd ((rd_T49 x0 x4).f3) x5) : Int).toNat (wrap64 ((rd x3 (rd ((rd_T49 x0 x4).f3) x5)) + 1))) x4 (wrap64 (x5 + 1)))) else (none)) else (none)))) else (none)) else (spec_ReOk.l0 k x0 x3 (wrap64 (x4 + 1)))) else (none)) else (none)
def spec_ReOk.l2 : Nat → List (S49) → List Int → Int → Option (Bool)
 | 0,_,_,_=>none
 | k + 1,x0,x3,x7=>if (wrap64 (x7 + 1)) < (x0.length : Int) then (if 0 ≤ x7 then (if x7 < (x3.length : Int) then (if (rd x3 x7) = 1 then (spec_ReOk.l2 k x0 x3 (wrap64 (x7 + 1))) else (some false)) else (none)) else (none)) else (some true)
end
def spec_ReOk.f (k : Nat) (l0 : List (S49)) : Option (Bool):=if (l0.length : Int) < 1 then (spec_ReOk.j0 k l0 true) else (spec_ReOk.j0 k l0 (decide ((l0.length : Int) > 200)))
set_option maxHeartbeats 8000000 in
set_option maxRecDepth 100000 in
theorem spec_ReOk.calls (k : Nat) (A0 : Option Addr) (c0 : Nat) (l0 : List (S49)) (r : Bool) (w : World) (hr0 : Kd.C k49 w A0 l0.length l0) (hc0 : l0.length ≤ c0) (h : spec_ReOk.f k l0 = some r) :
  Calls Tryd.prog 29 #[.slice A0 l0.length c0] w fun e w'=>e = .returned (.bool r) ∧ Below w.heap.size w w':=by
 have hu49:=Tryd.underlying49
 have HR0:=Aside0.mk hr0
 have HC0:=Aside0.mk hc0
 clear hr0 hc0
 have HB:=Aside0.mk (Below.refl w.heap.size w)
 have H : (if (l0.length : Int) < 1 then (spec_ReOk.j0 k l0 true) else (spec_ReOk.j0 k l0 (decide ((l0.length : Int) > 200)))) = some r:=h
 clear h
 have HC2:=Aside0.mk H
 clear H
 go_enter Tryd.func29,Tryd.ntmps29
 go_upto_region 1 with (fail)
 go_cut [15] (fun v15 wc=>∃ (kq : Nat) (x15_1 : Bool),v15 = .bool x15_1 ∧ Aside0 (spec_ReOk.j0 kq l0 x15_1 = some r) ∧ Aside0 (kq ≤ k) ∧ Aside0 (Below w.heap.size w wc))
 case first =>
  have H:=HC2.out
  clear HC2
  by_cases c3 : (l0.length : Int) < 1
  ·rw [if_pos c3] at H
   have c3b0 : decide ((l0.length : Int) < 1) = true:=decide_eq_true c3
   have c3b1 : decide (l0.length < 1) = true:=decide_eq_true (by omega)
   clear c3
   (first|rw [c3b0]|(simp only [i64_w,i32_w];rw [c3b0])|skip)
   have H':=Aside0.mk H
   clear H
   go_wp2
   go_meet
   case rel=>exact ⟨_,(true),(by first|rfl|(simp;done)|(simp [*];done)),H',⟨by first|omega|exact Nat.le_refl _⟩,⟨by repeat (first|(with_reducible first|exact HB.out|apply below_alloc|apply pw_below_drewN|apply below_drew1)|exact HB.out)⟩⟩
  ·rw [if_neg c3] at H
   have c3b0 : decide ((l0.length : Int) < 1) = false:=decide_eq_false c3
   have c3b1 : decide (l0.length < 1) = false:=decide_eq_false (by omega)
   clear c3
   (first|rw [c3b0]|(simp only [i64_w,i32_w];rw [c3b0])|skip)
   have H':=Aside0.mk H
   clear H
   go_wp2
   go_meet
   case rel=>exact ⟨_,(decide ((l0.length : Int) > 200)),(by first|rfl|(simp;done)|(simp [*];done)),H',⟨by first|omega|exact Nat.le_refl _⟩,⟨by repeat (first|(with_reducible first|exact HB.out|apply below_alloc|apply pw_below_drewN|apply below_drew1)|exact HB.out)⟩⟩
 case rest =>
  clear HC2
  try clear c2
  try clear p2
  try clear c3
  try clear c3b0
  try clear c3b1
  obtain ⟨kq,x15_1,rfl,HA,HJ1,HB⟩:=hcut
  cases kq with
  | zero=>exact absurd HA.out (by simp [spec_ReOk.j0])
  | succ kj1 =>
   have H:=HA.out
   clear HA
   simp only [spec_ReOk.j0] at H
   by_cases c4 : x15_1 = true
   ·subst c4
    have H1 : (some false) = some r:=by rw [if_pos rfl] at H;exact H
    clear H
    have H:=H1
    clear H1
    obtain rfl:=Option.some.inj H
    go_wp2
    go_ret
    exact ⟨by first|rfl|(simp [errW_none,errW_some] <;> rfl)|(simp [*,errW_none,errW_some] <;> rfl),by repeat (first|(with_reducible first|exact HB.out|apply below_alloc|apply pw_below_drewN|apply below_drew1)|exact HB.out)⟩
   ·replace c4:=Bool.eq_false_iff.mpr c4
    subst c4
    have H1 : (if 0 ≤ (l0.length : Int) then (if ((l0.length : Int) : Int).toNat ≤ 35184372088832 then (spec_ReOk.l0 kj1 l0 (List.replicate ((l0.length : Int) : Int).toNat 0) 0) else (none)) else (none)) = some r:=by rw [if_neg (show ¬ (false = true) by decide)] at H;exact H
    clear H
    have H:=H1
    clear H1
    by_cases c5 : 0 ≤ (l0.length : Int)
    ·rw [if_pos c5] at H
     have c5b0:=eq_true c5
     have c5b1 : decide (0 ≤ (l0.length : Int)) = true:=decide_eq_true c5
     clear c5
     by_cases c6 : ((l0.length : Int) : Int).toNat ≤ 35184372088832
     ·rw [if_pos c6] at H
      have c6b0:=eq_true c6
      have c6b1 : decide (((l0.length : Int) : Int).toNat ≤ 35184372088832) = true:=decide_eq_true c6
      clear c6
      obtain ⟨y126,hy126⟩ : ∃ y_ : List Int,y_ = (List.replicate ((l0.length : Int) : Int).toNat 0):=⟨_,rfl⟩
      replace H : (spec_ReOk.l0 kj1 l0 y126 0) = some r:=by first|(rw [hy126];with_reducible exact H)|(have H2_:=(Option.bind_some _ _).symm.trans H;rw [hy126];with_reducible exact H2_)|(have H2_:=(Option.bind_some _ _).symm.trans H;with_reducible exact H2_)|with_reducible exact H|(rw [hy126];exact H)|exact H
      have Ny126:=Aside0.mk hy126
      clear hy126
      have H':=Aside0.mk H
      clear H
      go_wp2_with (first|((with_reducible refine gate_dst (N:=18) rfl ?_);(try (refine gate_guard (by rfl) ?_;dsimp only));refine Kd.R_make (Kd.int .i64) _ 3 rfl (N:=18) rfl 31 _ _ rfl (l0.length : Int) rfl rfl Tryd.underlying31 (.int .i64 0) 8 info3 rfl (by decide) (by omega) 0 (ok:=fun _=>True) (okp:=fun _=>True) rfl (fun _ hk=>hk) trivial (of_decide_eq_true (by first|(with_reducible assumption)|assumption)) (Nat.le_trans (Nat.mul_le_mul_right _ (of_decide_eq_true (by first|(with_reducible assumption)|assumption) : (l0.length : Int).toNat ≤ 35184372088832)) (by omega)) (Below.refl _ _) (Nat.le_refl _) ?_;intro v127 w7 ho8 hb hg_ hnew_;clear hg_ hnew_;(first|rw [← Ny126.out] at ho8|(simp only [Int.reduceToNat] at ho8;rw [← Ny126.out] at ho8));have n0_:=Aside0.mk (Kd.R_lower ho8 (below_size (by repeat (first|(with_reducible first|exact HB.out|apply below_alloc|apply pw_below_drewN|apply below_drew1)|exact HB.out))));have n1_:=Aside0.mk (below_step (by repeat (first|(with_reducible first|exact HB.out|apply below_alloc|apply pw_below_drewN|apply below_drew1)|exact HB.out)) hb);clear HB;have HO128:=n0_;have HB:=n1_;clear n0_ n1_;clear hb ho8))
      go_loopg [4] kj1 (fun kq v4 w'=>∃ (x3_2 : List Int) (x4_2 : Int),v4 = .int .i64 x4_2 ∧ Aside0 (spec_ReOk.l0 kq l0 x3_2 x4_2 = some r) ∧ Aside0 (kq ≤ kj1) ∧ Aside0 (Kd.R (Kd.int .i64) 3 w' w.heap.size (fun _=>True) v127 x3_2) ∧ Aside0 (Below w.heap.size w w'))
      case atStart=>exact ⟨(y126),(0),(by first|rfl|(simp;done)|(simp [*];done)),H',⟨Nat.le_refl _⟩,⟨by (with_reducible repeat (first|apply Kd.R_alloc|apply Kd.R_drewN|apply Kd.R_drew));exact HO128.out⟩,⟨by repeat (first|(with_reducible first|exact HB.out|apply below_alloc|apply pw_below_drewN|apply below_drew1)|exact HB.out)⟩⟩
      case round =>
       clear H'
       try clear c2
       try clear p2
       try clear c3
       try clear c3b0
       try clear c3b1
       try clear c4
       try clear c5
       try clear c5b0
       try clear c5b1
       try clear c6
       try clear c6b0
       try clear c6b1
       try clear p2
       obtain ⟨x3_2,x4_2,rfl,HA,HK2,HO_3,HB⟩:=hrel
       cases gk with
       | zero=>exact absurd HA.out (by simp [spec_ReOk.l0])
       | succ k2 =>
        have H:=HA.out
        clear HA
        simp only [spec_ReOk.l0] at H
        by_cases c9 : x4_2 < (l0.length : Int)
        ·rw [if_pos c9] at H
         have c9b0 : decide (x4_2 < (l0.length : Int)) = true:=decide_eq_true c9
         clear c9
         by_cases c10 : 0 ≤ x4_2
         ·rw [if_pos c10] at H
          have c10b0 : decide (0 ≤ x4_2) = true:=decide_eq_true c10
          clear c10
          replace H:=Option.bind_eq_some_iff.mp H
          obtain ⟨t130,A110,H⟩:=H
          replace H : (if t130 = true then (spec_ReOk.l1 k2 l0 x3_2 x4_2 0) else (some false)) = some r:=H
          have A11:=Aside0.mk A110
          clear A110
          by_cases c12 : t130 = true
          ·subst c12
           have H1 : (spec_ReOk.l1 k2 l0 x3_2 x4_2 0) = some r:=by rw [if_pos rfl] at H;exact H
           clear H
           have H:=H1
           clear H1
           have H':=Aside0.mk H
           clear H
           have p129 : 0 ≤ (x4_2 : Int):=of_decide_eq_true (by first|(with_reducible assumption)|assumption)
           have q129 : x4_2 < (l0.length : Int):=of_decide_eq_true (by first|(with_reducible assumption)|assumption)
           obtain ⟨ad129,A129_3,c129_3,e129,hx129_0,hx129_1,hx129_2,hx129_3,hl129_3,hi129_3⟩:=at_T49 HR0.out x4_2 p129 q129
           cases e129
           replace hx129_0:=(HB.out.cell (World.block_lt_of_cell? w _ hx129_0)).trans hx129_0
           replace hx129_1:=(HB.out.cell (World.block_lt_of_cell? w _ hx129_1)).trans hx129_1
           replace hx129_2:=(HB.out.cell (World.block_lt_of_cell? w _ hx129_2)).trans hx129_2
           replace hx129_3:=(HB.out.cell (World.block_lt_of_cell? w _ hx129_3)).trans hx129_3
           have HR129_3:=Aside0.mk hi129_3
           have HC129_3:=Aside0.mk hl129_3
           clear hi129_3 hl129_3
           replace p129:=eq_true p129
           replace q129:=eq_true q129
           go_wp2_with (first|((with_reducible refine gate_callee (f:=52) rfl ?_);refine goesL_ (some 29) rfl rfl Tryd.func52 (by kernel_rfl) rfl #[.agg #[.int .i64 ((rd_T49 l0 x4_2).f0),.bool ((rd_T49 l0 x4_2).f1),.string ((rd_T49 l0 x4_2).f2),.slice A129_3 ((rd_T49 l0 x4_2).f3).length c129_3]] rfl (by (try simp only [List.map_toArray,List.map_cons,List.map_nil]);first|done|rfl|(simp only [List.length_drop,List.length_take];rfl)) ?_;(with_reducible refine (spec_l2kidsOk.calls k2 ((rd_T49 l0 x4_2).f0) ((rd_T49 l0 x4_2).f1) ((rd_T49 l0 x4_2).f2) _ _ ((rd_T49 l0 x4_2).f3) true _ ?side1 ?side2 A11.out).mono ?_);(case side1=>repeat (first|exact (Kd.C_below HR129_3.out HB.out)|(with_reducible refine Kd.C_alloc ?_ _)|(with_reducible refine Kd.C_drewN ?_ _)|(with_reducible refine Kd.C_drew ?_)));(case side2=>exact HC129_3.out);rintro e w13 ⟨rfl,hb⟩;refine ⟨_,rfl,?_⟩;have n0_:=Aside0.mk (Kd.R_below (by (with_reducible repeat (first|apply Kd.R_alloc|apply Kd.R_drewN|apply Kd.R_drew));exact HO_3.out) hb);have n1_:=Aside0.mk (below_step (by repeat (first|(with_reducible first|exact HB.out|apply below_alloc|apply pw_below_drewN|apply below_drew1)|exact HB.out)) hb);clear HO_3;clear HB;have HO_3:=n0_;have HB:=n1_;clear n0_ n1_;(try clear hb);(try clear hb2);(try clear hk);(try clear hi)))
           go_loopg [5] k2 (fun kq v5 w'=>∃ (x3_3 : List Int) (x5_3 : Int),v5 = .int .i64 x5_3 ∧ Aside0 (spec_ReOk.l1 kq l0 x3_3 x4_2 x5_3 = some r) ∧ Aside0 (kq ≤ k2) ∧ Aside0 (Kd.R (Kd.int .i64) 3 w' w.heap.size (fun _=>True) v127 x3_3) ∧ Aside0 (Below w.heap.size w w'))
           case atStart=>exact ⟨(x3_2),(0),(by first|rfl|(simp;done)|(simp [*];done)),H',⟨Nat.le_refl _⟩,⟨by (with_reducible repeat (first|apply Kd.R_alloc|apply Kd.R_drewN|apply Kd.R_drew));exact HO_3.out⟩,⟨by repeat (first|(with_reducible first|exact HB.out|apply below_alloc|apply pw_below_drewN|apply below_drew1)|exact HB.out)⟩⟩
           case round =>
            clear H'
            try clear c1
            try clear p1
            try clear q1
            try clear hx1
            try clear c2
            try clear p2
            try clear c3
            try clear c3b0
            try clear c3b1
            try clear c4
            try clear c5
            try clear c5b0
            try clear c5b1
            try clear c6
            try clear c6b0
            try clear c6b1
            try clear c9
            try clear c9b0
            try clear c10
            try clear c10b0
            try clear c12
            try clear p12
            try clear q12
            try clear hx12
            try clear hx129_0
            try clear hx129_1
            try clear hx129_2
            try clear hx129_3
            try clear p129
            try clear p2
            try clear q129
            obtain ⟨x3_3,x5_3,rfl,HA,HK3,HO_3,HB⟩:=hrel
            cases gk with
            | zero=>exact absurd HA.out (by simp [spec_ReOk.l1])
            | succ k3 =>
             have H:=HA.out
             clear HA
             simp only [spec_ReOk.l1] at H
             by_cases c14 : 0 ≤ x4_2
             ·rw [if_pos c14] at H
              have c14b0 : decide (0 ≤ x4_2) = true:=decide_eq_true c14
              clear c14
              by_cases c15 : x4_2 < (l0.length : Int)
              ·rw [if_pos c15] at H
               have c15b0 : decide (x4_2 < (l0.length : Int)) = true:=decide_eq_true c15
               clear c15
               by_cases c16 : x5_3 < (((rd_T49 l0 x4_2).f3).length : Int)
               ·rw [if_pos c16] at H
                have c16b0 : decide (x5_3 < (((rd_T49 l0 x4_2).f3).length : Int)) = true:=decide_eq_true c16
                clear c16
                by_cases c17 : 0 ≤ x5_3
                ·rw [if_pos c17] at H
                 have c17b0 : decide (0 ≤ x5_3) = true:=decide_eq_true c17
                 clear c17
                 by_cases c18 : (rd ((rd_T49 l0 x4_2).f3) x5_3) < 0
                 ·rw [if_pos c18] at H
                  have c18b0 : decide ((rd ((rd_T49 l0 x4_2).f3) x5_3) < 0) = true:=decide_eq_true c18
                  clear c18
                  obtain rfl:=Option.some.inj H
                  have p131 : 0 ≤ (x4_2 : Int):=of_decide_eq_true (by first|(with_reducible assumption)|assumption)
                  have q131 : x4_2 < (l0.length : Int):=of_decide_eq_true (by first|(with_reducible assumption)|assumption)
                  obtain ⟨ad131,A131_3,c131_3,e131,hx131_0,hx131_1,hx131_2,hx131_3,hl131_3,hi131_3⟩:=at_T49 HR0.out x4_2 p131 q131
                  obtain rfl : ad129 = ad131:=(by injection e131)
                  replace hx131_0:=(HB.out.cell (World.block_lt_of_cell? w _ hx131_0)).trans hx131_0
                  replace hx131_1:=(HB.out.cell (World.block_lt_of_cell? w _ hx131_1)).trans hx131_1
                  replace hx131_2:=(HB.out.cell (World.block_lt_of_cell? w _ hx131_2)).trans hx131_2
                  replace hx131_3:=(HB.out.cell (World.block_lt_of_cell? w _ hx131_3)).trans hx131_3
                  have HR131_3:=Aside0.mk hi131_3
                  have HC131_3:=Aside0.mk hl131_3
                  clear hi131_3 hl131_3
                  replace p131:=eq_true p131
                  replace q131:=eq_true q131
                  have p132 : 0 ≤ (x4_2 : Int):=of_decide_eq_true (by first|(with_reducible assumption)|assumption)
                  have q132 : x4_2 < (l0.length : Int):=of_decide_eq_true (by first|(with_reducible assumption)|assumption)
                  obtain ⟨ad132,A132_3,c132_3,e132,hx132_0,hx132_1,hx132_2,hx132_3,hl132_3,hi132_3⟩:=at_T49 HR0.out x4_2 p132 q132
                  obtain rfl : ad129 = ad132:=(by injection e132)
                  replace hx132_0:=(HB.out.cell (World.block_lt_of_cell? w _ hx132_0)).trans hx132_0
                  replace hx132_1:=(HB.out.cell (World.block_lt_of_cell? w _ hx132_1)).trans hx132_1
                  replace hx132_2:=(HB.out.cell (World.block_lt_of_cell? w _ hx132_2)).trans hx132_2
                  replace hx132_3:=(HB.out.cell (World.block_lt_of_cell? w _ hx132_3)).trans hx132_3
                  have HR132_3:=Aside0.mk hi132_3
                  have HC132_3:=Aside0.mk hl132_3
                  clear hi132_3 hl132_3
                  replace p132:=eq_true p132
                  replace q132:=eq_true q132
                  have ea_:=Option.some.inj (hx131_3.symm.trans hx132_3)
                  injection ea_ with ea_ en_ ec_
                  subst ea_
                  subst ec_
                  clear en_
                  have p133 : 0 ≤ (x5_3 : Int):=of_decide_eq_true (by first|(with_reducible assumption)|assumption)
                  have q133 : x5_3 < (((rd_T49 l0 x4_2).f3).length : Int):=of_decide_eq_true (by first|(with_reducible assumption)|assumption)
                  obtain ⟨ad133,e133,hx133_0⟩:=Kd.at_int HR132_3.out x5_3 p133 q133
                  cases e133
                  replace hx133_0:=(HB.out.cell (World.block_lt_of_cell? w _ hx133_0)).trans hx133_0
                  replace p133:=eq_true p133
                  replace q133:=eq_true q133
                  go_wp2
                  go_ret
                  exact ⟨by first|rfl|(simp [errW_none,errW_some] <;> rfl)|(simp [*,errW_none,errW_some] <;> rfl),by repeat (first|(with_reducible first|exact HB.out|apply below_alloc|apply pw_below_drewN|apply below_drew1)|exact HB.out)⟩
                 ·rw [if_neg c18] at H
                  have c18b0 : decide ((rd ((rd_T49 l0 x4_2).f3) x5_3) < 0) = false:=decide_eq_false c18
                  clear c18
                  by_cases c19 : (rd ((rd_T49 l0 x4_2).f3) x5_3) ≥ x4_2
                  ·rw [if_pos c19] at H
                   have c19b0 : decide (x4_2 ≤ (rd ((rd_T49 l0 x4_2).f3) x5_3)) = true:=decide_eq_true c19
                   clear c19
                   obtain rfl:=Option.some.inj H
                   have p131 : 0 ≤ (x4_2 : Int):=of_decide_eq_true (by first|(with_reducible assumption)|assumption)
                   have q131 : x4_2 < (l0.length : Int):=of_decide_eq_true (by first|(with_reducible assumption)|assumption)
                   obtain ⟨ad131,A131_3,c131_3,e131,hx131_0,hx131_1,hx131_2,hx131_3,hl131_3,hi131_3⟩:=at_T49 HR0.out x4_2 p131 q131
                   obtain rfl : ad129 = ad131:=(by injection e131)
                   replace hx131_0:=(HB.out.cell (World.block_lt_of_cell? w _ hx131_0)).trans hx131_0
                   replace hx131_1:=(HB.out.cell (World.block_lt_of_cell? w _ hx131_1)).trans hx131_1
                   replace hx131_2:=(HB.out.cell (World.block_lt_of_cell? w _ hx131_2)).trans hx131_2
                   replace hx131_3:=(HB.out.cell (World.block_lt_of_cell? w _ hx131_3)).trans hx131_3
                   have HR131_3:=Aside0.mk hi131_3
                   have HC131_3:=Aside0.mk hl131_3
                   clear hi131_3 hl131_3
                   replace p131:=eq_true p131
                   replace q131:=eq_true q131
                   have p132 : 0 ≤ (x4_2 : Int):=of_decide_eq_true (by first|(with_reducible assumption)|assumption)
                   have q132 : x4_2 < (l0.length : Int):=of_decide_eq_true (by first|(with_reducible assumption)|assumption)
                   obtain ⟨ad132,A132_3,c132_3,e132,hx132_0,hx132_1,hx132_2,hx132_3,hl132_3,hi132_3⟩:=at_T49 HR0.out x4_2 p132 q132
                   obtain rfl : ad129 = ad132:=(by injection e132)
                   replace hx132_0:=(HB.out.cell (World.block_lt_of_cell? w _ hx132_0)).trans hx132_0
                   replace hx132_1:=(HB.out.cell (World.block_lt_of_cell? w _ hx132_1)).trans hx132_1
                   replace hx132_2:=(HB.out.cell (World.block_lt_of_cell? w _ hx132_2)).trans hx132_2
                   replace hx132_3:=(HB.out.cell (World.block_lt_of_cell? w _ hx132_3)).trans hx132_3
                   have HR132_3:=Aside0.mk hi132_3
                   have HC132_3:=Aside0.mk hl132_3
                   clear hi132_3 hl132_3
                   replace p132:=eq_true p132
                   replace q132:=eq_true q132
                   have ea_:=Option.some.inj (hx131_3.symm.trans hx132_3)
                   injection ea_ with ea_ en_ ec_
                   subst ea_
                   subst ec_
                   clear en_
                   have p133 : 0 ≤ (x5_3 : Int):=of_decide_eq_true (by first|(with_reducible assumption)|assumption)
                   have q133 : x5_3 < (((rd_T49 l0 x4_2).f3).length : Int):=of_decide_eq_true (by first|(with_reducible assumption)|assumption)
                   obtain ⟨ad133,e133,hx133_0⟩:=Kd.at_int HR132_3.out x5_3 p133 q133
                   cases e133
                   replace hx133_0:=(HB.out.cell (World.block_lt_of_cell? w _ hx133_0)).trans hx133_0
                   replace p133:=eq_true p133
                   replace q133:=eq_true q133
                   go_wp2
                   go_ret
                   exact ⟨by first|rfl|(simp [errW_none,errW_some] <;> rfl)|(simp [*,errW_none,errW_some] <;> rfl),by repeat (first|(with_reducible first|exact HB.out|apply below_alloc|apply pw_below_drewN|apply below_drew1)|exact HB.out)⟩
                  ·rw [if_neg c19] at H
                   have c19b0 : decide (x4_2 ≤ (rd ((rd_T49 l0 x4_2).f3) x5_3)) = false:=decide_eq_false c19
                   clear c19
                   by_cases c20 : 0 ≤ (rd ((rd_T49 l0 x4_2).f3) x5_3)
                   ·rw [if_pos c20] at H
                    have c20b0 : decide (0 ≤ (rd ((rd_T49 l0 x4_2).f3) x5_3)) = true:=decide_eq_true c20
                    clear c20
                    by_cases c21 : (rd ((rd_T49 l0 x4_2).f3) x5_3) < (x3_3.length : Int)
                    ·rw [if_pos c21] at H
                     have c21b0 : decide ((rd ((rd_T49 l0 x4_2).f3) x5_3) < (x3_3.length : Int)) = true:=decide_eq_true c21
                     clear c21
                     by_cases c22 : (rd x3_3 (rd ((rd_T49 l0 x4_2).f3) x5_3)) > 0
                     ·rw [if_pos c22] at H
                      have c22b0 : decide (0 < (rd x3_3 (rd ((rd_T49 l0 x4_2).f3) x5_3))) = true:=decide_eq_true c22
                      clear c22
                      obtain rfl:=Option.some.inj H
                      have p131 : 0 ≤ (x4_2 : Int):=of_decide_eq_true (by first|(with_reducible assumption)|assumption)
                      have q131 : x4_2 < (l0.length : Int):=of_decide_eq_true (by first|(with_reducible assumption)|assumption)
                      obtain ⟨ad131,A131_3,c131_3,e131,hx131_0,hx131_1,hx131_2,hx131_3,hl131_3,hi131_3⟩:=at_T49 HR0.out x4_2 p131 q131
                      obtain rfl : ad129 = ad131:=(by injection e131)
                      replace hx131_0:=(HB.out.cell (World.block_lt_of_cell? w _ hx131_0)).trans hx131_0
                      replace hx131_1:=(HB.out.cell (World.block_lt_of_cell? w _ hx131_1)).trans hx131_1
                      replace hx131_2:=(HB.out.cell (World.block_lt_of_cell? w _ hx131_2)).trans hx131_2
                      replace hx131_3:=(HB.out.cell (World.block_lt_of_cell? w _ hx131_3)).trans hx131_3
                      have HR131_3:=Aside0.mk hi131_3
                      have HC131_3:=Aside0.mk hl131_3
                      clear hi131_3 hl131_3
                      replace p131:=eq_true p131
                      replace q131:=eq_true q131
                      have p132 : 0 ≤ (x4_2 : Int):=of_decide_eq_true (by first|(with_reducible assumption)|assumption)
                      have q132 : x4_2 < (l0.length : Int):=of_decide_eq_true (by first|(with_reducible assumption)|assumption)
                      obtain ⟨ad132,A132_3,c132_3,e132,hx132_0,hx132_1,hx132_2,hx132_3,hl132_3,hi132_3⟩:=at_T49 HR0.out x4_2 p132 q132
                      obtain rfl : ad129 = ad132:=(by injection e132)
                      replace hx132_0:=(HB.out.cell (World.block_lt_of_cell? w _ hx132_0)).trans hx132_0
                      replace hx132_1:=(HB.out.cell (World.block_lt_of_cell? w _ hx132_1)).trans hx132_1
                      replace hx132_2:=(HB.out.cell (World.block_lt_of_cell? w _ hx132_2)).trans hx132_2
                      replace hx132_3:=(HB.out.cell (World.block_lt_of_cell? w _ hx132_3)).trans hx132_3
                      have HR132_3:=Aside0.mk hi132_3
                      have HC132_3:=Aside0.mk hl132_3
                      clear hi132_3 hl132_3
                      replace p132:=eq_true p132
                      replace q132:=eq_true q132
                      have ea_:=Option.some.inj (hx131_3.symm.trans hx132_3)
                      injection ea_ with ea_ en_ ec_
                      subst ea_
                      subst ec_
                      clear en_
                      have p133 : 0 ≤ (x5_3 : Int):=of_decide_eq_true (by first|(with_reducible assumption)|assumption)
                      have q133 : x5_3 < (((rd_T49 l0 x4_2).f3).length : Int):=of_decide_eq_true (by first|(with_reducible assumption)|assumption)
                      obtain ⟨ad133,e133,hx133_0⟩:=Kd.at_int HR132_3.out x5_3 p133 q133
                      cases e133
                      replace hx133_0:=(HB.out.cell (World.block_lt_of_cell? w _ hx133_0)).trans hx133_0
                      replace p133:=eq_true p133
                      replace q133:=eq_true q133
                      obtain ⟨Ao23,co23,eo23⟩:=Kd.R_slice HO_3.out
                      subst eo23
                      have p134 : 0 ≤ ((rd ((rd_T49 l0 x4_2).f3) x5_3) : Int):=of_decide_eq_true (by first|(with_reducible assumption)|assumption)
                      have q134 : (rd ((rd_T49 l0 x4_2).f3) x5_3) < (x3_3.length : Int):=of_decide_eq_true (by first|(with_reducible assumption)|assumption)
                      obtain ⟨ad134,e134,hx134_0⟩:=Kd.at_int (Kd.R_reads' HO_3.out).2.2 (rd ((rd_T49 l0 x4_2).f3) x5_3) p134 q134
                      cases e134
                      replace p134:=eq_true p134
                      replace q134:=eq_true q134
                      go_wp2
                      go_ret
                      exact ⟨by first|rfl|(simp [errW_none,errW_some] <;> rfl)|(simp [*,errW_none,errW_some] <;> rfl),by repeat (first|(with_reducible first|exact HB.out|apply below_alloc|apply pw_below_drewN|apply below_drew1)|exact HB.out)⟩
                     ·rw [if_neg c22] at H
                      have c22b0 : decide (0 < (rd x3_3 (rd ((rd_T49 l0 x4_2).f3) x5_3))) = false:=decide_eq_false c22
                      clear c22
                      obtain ⟨y136,hy136⟩ : ∃ y_ : List Int,y_ = (x3_3.set ((rd ((rd_T49 l0 x4_2).f3) x5_3) : Int).toNat (wrap64 ((rd x3_3 (rd ((rd_T49 l0 x4_2).f3) x5_3)) + 1))):=⟨_,rfl⟩
                      replace H : (spec_ReOk.l1 k3 l0 y136 x4_2 (wrap64 (x5_3 + 1))) = some r:=by first|(rw [hy136];with_reducible exact H)|(have H2_:=(Option.bind_some _ _).symm.trans H;rw [hy136];with_reducible exact H2_)|(have H2_:=(Option.bind_some _ _).symm.trans H;with_reducible exact H2_)|with_reducible exact H|(rw [hy136];exact H)|exact H
                      have Ny136:=Aside0.mk hy136
                      clear hy136
                      have H':=Aside0.mk H
                      clear H
                      have p131 : 0 ≤ (x4_2 : Int):=of_decide_eq_true (by first|(with_reducible assumption)|assumption)
                      have q131 : x4_2 < (l0.length : Int):=of_decide_eq_true (by first|(with_reducible assumption)|assumption)
                      obtain ⟨ad131,A131_3,c131_3,e131,hx131_0,hx131_1,hx131_2,hx131_3,hl131_3,hi131_3⟩:=at_T49 HR0.out x4_2 p131 q131
                      obtain rfl : ad129 = ad131:=(by injection e131)
                      replace hx131_0:=(HB.out.cell (World.block_lt_of_cell? w _ hx131_0)).trans hx131_0
                      replace hx131_1:=(HB.out.cell (World.block_lt_of_cell? w _ hx131_1)).trans hx131_1
                      replace hx131_2:=(HB.out.cell (World.block_lt_of_cell? w _ hx131_2)).trans hx131_2
                      replace hx131_3:=(HB.out.cell (World.block_lt_of_cell? w _ hx131_3)).trans hx131_3
                      have HR131_3:=Aside0.mk hi131_3
                      have HC131_3:=Aside0.mk hl131_3
                      clear hi131_3 hl131_3
                      replace p131:=eq_true p131
                      replace q131:=eq_true q131
                      have p132 : 0 ≤ (x4_2 : Int):=of_decide_eq_true (by first|(with_reducible assumption)|assumption)
                      have q132 : x4_2 < (l0.length : Int):=of_decide_eq_true (by first|(with_reducible assumption)|assumption)
                      obtain ⟨ad132,A132_3,c132_3,e132,hx132_0,hx132_1,hx132_2,hx132_3,hl132_3,hi132_3⟩:=at_T49 HR0.out x4_2 p132 q132
                      obtain rfl : ad129 = ad132:=(by injection e132)
                      replace hx132_0:=(HB.out.cell (World.block_lt_of_cell? w _ hx132_0)).trans hx132_0
                      replace hx132_1:=(HB.out.cell (World.block_lt_of_cell? w _ hx132_1)).trans hx132_1
                      replace hx132_2:=(HB.out.cell (World.block_lt_of_cell? w _ hx132_2)).trans hx132_2
                      replace hx132_3:=(HB.out.cell (World.block_lt_of_cell? w _ hx132_3)).trans hx132_3
                      have HR132_3:=Aside0.mk hi132_3
                      have HC132_3:=Aside0.mk hl132_3
                      clear hi132_3 hl132_3
                      replace p132:=eq_true p132
                      replace q132:=eq_true q132
                      have ea_:=Option.some.inj (hx131_3.symm.trans hx132_3)
                      injection ea_ with ea_ en_ ec_
                      subst ea_
                      subst ec_
                      clear en_
                      have p133 : 0 ≤ (x5_3 : Int):=of_decide_eq_true (by first|(with_reducible assumption)|assumption)
                      have q133 : x5_3 < (((rd_T49 l0 x4_2).f3).length : Int):=of_decide_eq_true (by first|(with_reducible assumption)|assumption)
                      obtain ⟨ad133,e133,hx133_0⟩:=Kd.at_int HR132_3.out x5_3 p133 q133
                      cases e133
                      replace hx133_0:=(HB.out.cell (World.block_lt_of_cell? w _ hx133_0)).trans hx133_0
                      replace p133:=eq_true p133
                      replace q133:=eq_true q133
                      obtain ⟨Ao25,co25,eo25⟩:=Kd.R_slice HO_3.out
                      subst eo25
                      have p134 : 0 ≤ ((rd ((rd_T49 l0 x4_2).f3) x5_3) : Int):=of_decide_eq_true (by first|(with_reducible assumption)|assumption)
                      have q134 : (rd ((rd_T49 l0 x4_2).f3) x5_3) < (x3_3.length : Int):=of_decide_eq_true (by first|(with_reducible assumption)|assumption)
                      obtain ⟨ad134,e134,hx134_0⟩:=Kd.at_int (Kd.R_reads' HO_3.out).2.2 (rd ((rd_T49 l0 x4_2).f3) x5_3) p134 q134
                      cases e134
                      replace p134:=eq_true p134
                      replace q134:=eq_true q134
                      have p135 : 0 ≤ ((rd ((rd_T49 l0 x4_2).f3) x5_3) : Int):=of_decide_eq_true (by first|(with_reducible assumption)|assumption)
                      have q135 : (rd ((rd_T49 l0 x4_2).f3) x5_3) < (x3_3.length : Int):=of_decide_eq_true (by first|(with_reducible assumption)|assumption)
                      obtain ⟨ad135,e135,hx135_0⟩:=Kd.at_int (Kd.R_reads' HO_3.out).2.2 (rd ((rd_T49 l0 x4_2).f3) x5_3) p135 q135
                      obtain rfl : ad134 = ad135:=(by injection e135)
                      replace p135:=eq_true p135
                      replace q135:=eq_true q135
                      have p24 : 0 ≤ ((rd ((rd_T49 l0 x4_2).f3) x5_3) : Int):=of_decide_eq_true (by first|(with_reducible assumption)|assumption)
                      have q24 : ((rd ((rd_T49 l0 x4_2).f3) x5_3) : Int) < ((x3_3.length : Int) : Int):=of_decide_eq_true (by first|(with_reducible assumption)|assumption)
                      obtain ⟨go24,co24,eo24,gb24,gl24,cl24,HG24⟩:=Kd.R_form HO_3.out (by omega)
                      (first|cases eo24|(injection eo24 with ea_ en_ ec_;(first|subst ea_|(injection ea_ with ea_;subst ea_));subst ec_;clear en_))
                      have GB24:=Aside0.mk gb24
                      have GG24:=Aside0.mk HG24
                      clear gb24 gl24 HG24
                      (first|simp only [add_plain] at hx134_0|skip)
                      (first|simp only [add_plain] at hx135_0|skip)
                      obtain ⟨hx24_0,hf24_0⟩:=Kd.R_celln 0 HO_3.out ((rd ((rd_T49 l0 x4_2).f3) x5_3) : Int) p24 q24
                      replace p24:=eq_true p24
                      replace q24:=eq_true q24
                      have HP26:=Kd.R_putg HO_3.out ((rd ((rd_T49 l0 x4_2).f3) x5_3) : Int) (wrap64 ((rd x3_3 (rd ((rd_T49 l0 x4_2).f3) x5_3)) + 1))
                      go_wp2_with (first|((with_reducible refine gate_store (t:=3) (p:=68) rfl ?_);refine store_event (t:=3) (p:=68) (v:=?vo_w27) (w1:=(wr.setCell ⟨go24,((rd ((rd_T49 l0 x4_2).f3) x5_3) : Int).toNat,none⟩ (.int .i64 (wrap64 ((rd x3_3 (rd ((rd_T49 l0 x4_2).f3) x5_3)) + 1))))) ?hg ?ho ?hn ?hr ?_;(case ho=>rfl);(case hg=>rfl);(case hn=>rfl);(case hr=>first|(go_simp;done)|(go_simp;rfl));intro w27 hw;have hg : wr.grownBy w27 (some go24):=(by rw [hw];exact HP26.2);have hp_ : Kd.R (Kd.int .i64) 3 w27 w.heap.size (fun _=>True) (.slice (some ⟨go24,0,none⟩) x3_3.length co25) y136:=(by rw [hw,Ny136.out];exact HP26.1);clear HP26;have n0_:=Aside0.mk (hp_);have n1_:=Aside0.mk ((by rw [hw];exact below_set (HB.out) GB24.out : Below w.heap.size w w27));clear HO_3;clear HB;have HO_3:=n0_;have HB:=n1_;clear n0_ n1_;clear hg hw hp_))
                      go_roundg k3
                      case measure=>have:=HJ1.out;have:=HK2.out;have:=HK3.out;omega
                      case rel=>exact ⟨(y136),(wrap64 (x5_3 + 1)),(by first|rfl|(simp;done)|(simp [*];done)),H',⟨by have:=HJ1.out;have:=HK2.out;have:=HK3.out;omega⟩,⟨by (with_reducible repeat (first|apply Kd.R_alloc|apply Kd.R_drewN|apply Kd.R_drew));exact HO_3.out⟩,⟨by repeat (first|(with_reducible first|exact HB.out|apply below_alloc|apply pw_below_drewN|apply below_drew1)|exact HB.out)⟩⟩
                    ·rw [if_neg c21] at H
                     exact absurd H (by simp)
                   ·rw [if_neg c20] at H
                    exact absurd H (by simp)
                ·rw [if_neg c17] at H
                 exact absurd H (by simp)
               ·rw [if_neg c16] at H
                have c16b0 : decide (x5_3 < (((rd_T49 l0 x4_2).f3).length : Int)) = false:=decide_eq_false c16
                clear c16
                have H':=Aside0.mk H
                clear H
                have p131 : 0 ≤ (x4_2 : Int):=of_decide_eq_true (by first|(with_reducible assumption)|assumption)
                have q131 : x4_2 < (l0.length : Int):=of_decide_eq_true (by first|(with_reducible assumption)|assumption)
                obtain ⟨ad131,A131_3,c131_3,e131,hx131_0,hx131_1,hx131_2,hx131_3,hl131_3,hi131_3⟩:=at_T49 HR0.out x4_2 p131 q131
                obtain rfl : ad129 = ad131:=(by injection e131)
                replace hx131_0:=(HB.out.cell (World.block_lt_of_cell? w _ hx131_0)).trans hx131_0
                replace hx131_1:=(HB.out.cell (World.block_lt_of_cell? w _ hx131_1)).trans hx131_1
                replace hx131_2:=(HB.out.cell (World.block_lt_of_cell? w _ hx131_2)).trans hx131_2
                replace hx131_3:=(HB.out.cell (World.block_lt_of_cell? w _ hx131_3)).trans hx131_3
                have HR131_3:=Aside0.mk hi131_3
                have HC131_3:=Aside0.mk hl131_3
                clear hi131_3 hl131_3
                replace p131:=eq_true p131
                replace q131:=eq_true q131
                go_wp2
                go_roundg k3
                case measure=>have:=HJ1.out;have:=HK2.out;have:=HK3.out;omega
                case rel=>exact ⟨(x3_3),(wrap64 (x4_2 + 1)),(by first|rfl|(simp;done)|(simp [*];done)),H',⟨by have:=HJ1.out;have:=HK2.out;have:=HK3.out;omega⟩,⟨by (with_reducible repeat (first|apply Kd.R_alloc|apply Kd.R_drewN|apply Kd.R_drew));exact HO_3.out⟩,⟨by repeat (first|(with_reducible first|exact HB.out|apply below_alloc|apply pw_below_drewN|apply below_drew1)|exact HB.out)⟩⟩
              ·rw [if_neg c15] at H
               exact absurd H (by simp)
             ·rw [if_neg c14] at H
              exact absurd H (by simp)
          ·replace c12:=Bool.eq_false_iff.mpr c12
           subst c12
           have H1 : (some false) = some r:=by rw [if_neg (show ¬ (false = true) by decide)] at H;exact H
           clear H
           have H:=H1
           clear H1
           obtain rfl:=Option.some.inj H
           have p129 : 0 ≤ (x4_2 : Int):=of_decide_eq_true (by first|(with_reducible assumption)|assumption)
           have q129 : x4_2 < (l0.length : Int):=of_decide_eq_true (by first|(with_reducible assumption)|assumption)
           obtain ⟨ad129,A129_3,c129_3,e129,hx129_0,hx129_1,hx129_2,hx129_3,hl129_3,hi129_3⟩:=at_T49 HR0.out x4_2 p129 q129
           cases e129
           replace hx129_0:=(HB.out.cell (World.block_lt_of_cell? w _ hx129_0)).trans hx129_0
           replace hx129_1:=(HB.out.cell (World.block_lt_of_cell? w _ hx129_1)).trans hx129_1
           replace hx129_2:=(HB.out.cell (World.block_lt_of_cell? w _ hx129_2)).trans hx129_2
           replace hx129_3:=(HB.out.cell (World.block_lt_of_cell? w _ hx129_3)).trans hx129_3
           have HR129_3:=Aside0.mk hi129_3
           have HC129_3:=Aside0.mk hl129_3
           clear hi129_3 hl129_3
           replace p129:=eq_true p129
           replace q129:=eq_true q129
           go_wp2_with (first|((with_reducible refine gate_callee (f:=52) rfl ?_);refine goesL_ (some 29) rfl rfl Tryd.func52 (by kernel_rfl) rfl #[.agg #[.int .i64 ((rd_T49 l0 x4_2).f0),.bool ((rd_T49 l0 x4_2).f1),.string ((rd_T49 l0 x4_2).f2),.slice A129_3 ((rd_T49 l0 x4_2).f3).length c129_3]] rfl (by (try simp only [List.map_toArray,List.map_cons,List.map_nil]);first|done|rfl|(simp only [List.length_drop,List.length_take];rfl)) ?_;(with_reducible refine (spec_l2kidsOk.calls k2 ((rd_T49 l0 x4_2).f0) ((rd_T49 l0 x4_2).f1) ((rd_T49 l0 x4_2).f2) _ _ ((rd_T49 l0 x4_2).f3) false _ ?side1 ?side2 A11.out).mono ?_);(case side1=>repeat (first|exact (Kd.C_below HR129_3.out HB.out)|(with_reducible refine Kd.C_alloc ?_ _)|(with_reducible refine Kd.C_drewN ?_ _)|(with_reducible refine Kd.C_drew ?_)));(case side2=>exact HC129_3.out);rintro e w28 ⟨rfl,hb⟩;refine ⟨_,rfl,?_⟩;have n0_:=Aside0.mk (Kd.R_below (by (with_reducible repeat (first|apply Kd.R_alloc|apply Kd.R_drewN|apply Kd.R_drew));exact HO_3.out) hb);have n1_:=Aside0.mk (below_step (by repeat (first|(with_reducible first|exact HB.out|apply below_alloc|apply pw_below_drewN|apply below_drew1)|exact HB.out)) hb);clear HO_3;clear HB;have HO_3:=n0_;have HB:=n1_;clear n0_ n1_;(try clear hb);(try clear hb2);(try clear hk);(try clear hi)))
           go_ret
           exact ⟨by first|rfl|(simp [errW_none,errW_some] <;> rfl)|(simp [*,errW_none,errW_some] <;> rfl),by repeat (first|(with_reducible first|exact HB.out|apply below_alloc|apply pw_below_drewN|apply below_drew1)|exact HB.out)⟩
         ·rw [if_neg c10] at H
          exact absurd H (by simp)
        ·rw [if_neg c9] at H
         have c9b0 : decide (x4_2 < (l0.length : Int)) = false:=decide_eq_false c9
         clear c9
         have H':=Aside0.mk H
         clear H
         go_wp2
         go_loopg [7] k2 (fun kq v7 w'=>∃ (x7_3 : Int),v7 = .int .i64 x7_3 ∧ Aside0 (spec_ReOk.l2 kq l0 x3_2 x7_3 = some r) ∧ Aside0 (kq ≤ k2) ∧ Aside0 (Kd.R (Kd.int .i64) 3 w' w.heap.size (fun _=>True) v127 x3_2) ∧ Aside0 (Below w.heap.size w w'))
         case atStart=>exact ⟨(0),(by first|rfl|(simp;done)|(simp [*];done)),H',⟨Nat.le_refl _⟩,⟨by (with_reducible repeat (first|apply Kd.R_alloc|apply Kd.R_drewN|apply Kd.R_drew));exact HO_3.out⟩,⟨by repeat (first|(with_reducible first|exact HB.out|apply below_alloc|apply pw_below_drewN|apply below_drew1)|exact HB.out)⟩⟩
         case round =>
          clear H'
          try clear c1
          try clear p1
          try clear q1
          try clear hx1
          try clear c2
          try clear p2
          try clear q2
          try clear hx2
          try clear hf2
          try clear c3
          try clear c3b0
          try clear c3b1
          try clear c4
          try clear c5
          try clear c5b0
          try clear c5b1
          try clear c6
          try clear c6b0
          try clear c6b1
          try clear p6
          try clear c9
          try clear c9b0
          try clear c10
          try clear c10b0
          try clear c12
          try clear p12
          try clear q12
          try clear hx12
          try clear c13
          try clear p13
          try clear q13
          try clear hx13
          try clear c14
          try clear c14b0
          try clear c15
          try clear c15b0
          try clear c16
          try clear c16b0
          try clear c17
          try clear c17b0
          try clear c18
          try clear c18b0
          try clear c19
          try clear c19b0
          try clear c20
          try clear c20b0
          try clear c21
          try clear c21b0
          try clear c22
          try clear c22b0
          try clear p24
          try clear q24
          try clear hx24
          try clear hf24
          try clear hx129_0
          try clear hx129_1
          try clear hx129_2
          try clear hx129_3
          try clear hx131_0
          try clear hx131_1
          try clear hx131_2
          try clear hx131_3
          try clear hx132_0
          try clear hx132_1
          try clear hx132_2
          try clear hx132_3
          try clear hx133_0
          try clear hx134_0
          try clear hx135_0
          try clear hx24_0
          try clear p1
          try clear p12
          try clear p129
          try clear p131
          try clear p132
          try clear p133
          try clear p134
          try clear p135
          try clear p2
          try clear p24
          try clear q1
          try clear q12
          try clear q129
          try clear q131
          try clear q132
          try clear q133
          try clear q134
          try clear q135
          try clear q24
          obtain ⟨x7_3,rfl,HA,HK3,HO_3,HB⟩:=hrel
          cases gk with
          | zero=>exact absurd HA.out (by simp [spec_ReOk.l2])
          | succ k3 =>
           have H:=HA.out
           clear HA
           simp only [spec_ReOk.l2] at H
           by_cases c29 : (wrap64 (x7_3 + 1)) < (l0.length : Int)
           ·rw [if_pos c29] at H
            have c29b0 : decide ((wrap64 (x7_3 + 1)) < (l0.length : Int)) = true:=decide_eq_true c29
            clear c29
            by_cases c30 : 0 ≤ x7_3
            ·rw [if_pos c30] at H
             have c30b0 : decide (0 ≤ x7_3) = true:=decide_eq_true c30
             clear c30
             by_cases c31 : x7_3 < (x3_2.length : Int)
             ·rw [if_pos c31] at H
              have c31b0 : decide (x7_3 < (x3_2.length : Int)) = true:=decide_eq_true c31
              clear c31
              by_cases c32 : (rd x3_2 x7_3) = 1
              ·rw [if_pos c32] at H
               have c32b0 : ((rd x3_2 x7_3) == 1) = true:=beq_iff_eq.mpr c32
               have c32b1 : ((rd x3_2 x7_3) != 1) = false:=bne_eq_false_iff_eq.mpr c32
               clear c32
               have H':=Aside0.mk H
               clear H
               obtain ⟨Ao33,co33,eo33⟩:=Kd.R_slice HO_3.out
               subst eo33
               have p137 : 0 ≤ (x7_3 : Int):=of_decide_eq_true (by first|(with_reducible assumption)|assumption)
               have q137 : x7_3 < (x3_2.length : Int):=of_decide_eq_true (by first|(with_reducible assumption)|assumption)
               obtain ⟨ad137,e137,hx137_0⟩:=Kd.at_int (Kd.R_reads' HO_3.out).2.2 x7_3 p137 q137
               cases e137
               replace p137:=eq_true p137
               replace q137:=eq_true q137
               go_wp2
               go_roundg k3
               case measure=>have:=HJ1.out;have:=HK2.out;have:=HK3.out;omega
               case rel=>exact ⟨(wrap64 (x7_3 + 1)),(by first|rfl|(simp;done)|(simp [*];done)),H',⟨by have:=HJ1.out;have:=HK2.out;have:=HK3.out;omega⟩,⟨by (with_reducible repeat (first|apply Kd.R_alloc|apply Kd.R_drewN|apply Kd.R_drew));exact HO_3.out⟩,⟨by repeat (first|(with_reducible first|exact HB.out|apply below_alloc|apply pw_below_drewN|apply below_drew1)|exact HB.out)⟩⟩
              ·rw [if_neg c32] at H
               have c32b0 : ((rd x3_2 x7_3) == 1) = false:=beq_eq_false_iff_ne.mpr c32
               have c32b1 : ((rd x3_2 x7_3) != 1) = true:=bne_iff_ne.mpr c32
               obtain rfl:=Option.some.inj H
               obtain ⟨Ao34,co34,eo34⟩:=Kd.R_slice HO_3.out
               subst eo34
               have p137 : 0 ≤ (x7_3 : Int):=of_decide_eq_true (by first|(with_reducible assumption)|assumption)
               have q137 : x7_3 < (x3_2.length : Int):=of_decide_eq_true (by first|(with_reducible assumption)|assumption)
               obtain ⟨ad137,e137,hx137_0⟩:=Kd.at_int (Kd.R_reads' HO_3.out).2.2 x7_3 p137 q137
               cases e137
               replace p137:=eq_true p137
               replace q137:=eq_true q137
               go_wp2
               go_ret
               exact ⟨by first|rfl|(simp [errW_none,errW_some] <;> rfl)|(simp [*,errW_none,errW_some] <;> rfl),by repeat (first|(with_reducible first|exact HB.out|apply below_alloc|apply pw_below_drewN|apply below_drew1)|exact HB.out)⟩
             ·rw [if_neg c31] at H
              exact absurd H (by simp)
            ·rw [if_neg c30] at H
             exact absurd H (by simp)
           ·rw [if_neg c29] at H
            have c29b0 : decide ((wrap64 (x7_3 + 1)) < (l0.length : Int)) = false:=decide_eq_false c29
            clear c29
            obtain rfl:=Option.some.inj H
            go_wp2
            go_ret
            exact ⟨by first|rfl|(simp [errW_none,errW_some] <;> rfl)|(simp [*,errW_none,errW_some] <;> rfl),by repeat (first|(with_reducible first|exact HB.out|apply below_alloc|apply pw_below_drewN|apply below_drew1)|exact HB.out)⟩
     ·rw [if_neg c6] at H
      exact absurd H (by simp)
    ·rw [if_neg c5] at H
     exact absurd H (by simp)
mutual
def spec_l2close.l0 : Nat → List (S49) → ByteArray → Int → List Bool → Bool → List (S85) → Int → Option (List Bool)
 | 0,_,_,_,_,_,_,_=>none
 | k + 1,x1,x2,x3,x4,x10,x139000,x139001=>if x10 = true then (spec_l2close.l1 k x1 x2 x3 x4 false 0 x139000 x139001) else (some x4)
def spec_l2close.l1 : Nat → List (S49) → ByteArray → Int → List Bool → Bool → Int → List (S85) → Int → Option (List Bool)
 | 0,_,_,_,_,_,_,_,_=>none
 | k + 1,x1,x2,x3,x4,x10,x11,x139000,x139001=>if x11 < (x139000.length : Int) then (if 0 ≤ x11 then (if 0 ≤ ((rd_T85 x139000 x11).f0) then (if ((rd_T85 x139000 x11).f0) < (x4.length : Int) then (if (rdOf false x4 ((rd_T85 x139000 x11).f0) = true) then (if 0 ≤ ((rd_T85 x139000 x11).f1) then (if ((rd_T85 x139000 x11).f1) < (x4.length : Int) then (spec_l2close.j2 k x1 x2 x3 x4 x10 x11 (rdOf false x4 ((rd_T85 x139000 x11).f1)) x139000 x139001 ((rd_T85 x139000 x11).f0) ((rd_T85 x139000 x11).f1) ((rd_T85 x139000 x11).f2)) else (none)) else (none)) else (spec_l2close.j2 k x1 x2 x3 x4 x10 x11 true x139000 x139001 ((rd_T85 x139000 x11).f0) ((rd_T85 x139000 x11).f1) ((rd_T85 x139000 x11).f2))) else (none)) else (none)) else (none)) else (spec_l2close.l0 k x1 x2 x3 x4 x10 x139000 x139001)
def spec_l2close.j2 : Nat → List (S49) → ByteArray → Int → List Bool → Bool → Int → Bool → List (S85) → Int → Int → Int → Int → Option (List Bool)
 | 0,_,_,_,_,_,_,_,_,_,_,_,_=>none
 | k + 1,x1,x2,x3,x4,x10,x11,x38,x139000,x139001,x141000,x141001,x141002=>if x38 = true then (spec_l2close.l1 k x1 x2 x3 x4 x10 (wrap64 (x11 + 1)) x139000 x139001) else (if x141002 < 0 then (if 0 ≤ x141001 then (if x141001 < (x4.length : Int) then (spec_l2close.l1 k x1 x2 x3 (x4.set (x141001 : Int).toNat true) true (wrap64 (x11 + 1)) x139000 x139001) else (none)) else (none)) else (if 0 ≤ x141002 then (if x141002 < (x1.length : Int) then (if ((rd_T49 x1 x141002).f0) = 1 then (if x3 = 0 then (if 0 ≤ x141001 then (if x141001 < (x4.length : Int) then (spec_l2close.l1 k x1 x2 x3 (x4.set (x141001 : Int).toNat true) true (wrap64 (x11 + 1)) x139000 x139001) else (none)) else (none)) else (if ((rd_T49 x1 x141002).f0) = 2 then (if x3 = (x2.size : Int) then (if 0 ≤ x141001 then (if x141001 < (x4.length : Int) then (spec_l2close.l1 k x1 x2 x3 (x4.set (x141001 : Int).toNat true) true (wrap64 (x11 + 1)) x139000 x139001) else (none)) else (none)) else (spec_l2close.l1 k x1 x2 x3 x4 x10 (wrap64 (x11 + 1)) x139000 x139001)) else (spec_l2close.l1 k x1 x2 x3 x4 x10 (wrap64 (x11 + 1)) x139000 x139001))) else (if ((rd_T49 x1 x141002).f0) = 2 then (if x3 = (x2.size : Int) then (if 0 ≤ x141001 then (if x141001 < (x4.length : Int) then (spec_l2close.l1 k x1 x2 x3 (x4.set (x141001 : Int).toNat true) true (wrap64 (x11 + 1)) x139000 x139001) else (none)) else (none)) else (spec_l2close.l1 k x1 x2 x3 x4 x10 (wrap64 (x11 + 1)) x139000 x139001)) else (spec_l2close.l1 k x1 x2 x3 x4 x10 (wrap64 (x11 + 1)) x139000 x139001))) else (none)) else (none)))
end
def spec_l2close.f (k : Nat) (l0_0 : List (S85)) (a0_1 : Int) (l1 : List (S49)) (a2 : ByteArray) (a3 : Int) (l4 : List Bool) : Option (List Bool):=spec_l2close.l0 k l1 a2 a3 l4 true l0_0 a0_1
end Go.Proofs.YtlakdfbfkbndiaaDoor.Q
