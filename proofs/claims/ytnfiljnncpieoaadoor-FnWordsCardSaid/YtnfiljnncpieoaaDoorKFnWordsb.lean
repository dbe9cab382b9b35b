/- What the row of FnWords rests on, and the row: for every input that can be read the call returns true and the input reads as it did; condition: what the row lists of the library reads as the program lays it. -/
import Derived.Test.YtnfiljnncpieoaaDoorKFnWordsa
import Derived.Test.YtnfiljnncpieoaaDoorChecked
import GoSem.PinnedTables
import GoSem.Claim
import GoSem.ClaimJoined
import GoSem.ClaimMapViews
import Derived.JoinedTies
import GoSem.ClaimSeven
import Derived.LaidByTextLater
import Derived.SevenTiedAt
import Derived.LaidSub
import Derived.LaidOnce
import Derived.Test.YtnfiljnncpieoaaDoorProg
import Derived.Shelf.Strconv.Itoa3
import Derived.Lib.LaidTab
import Derived.Lib.LaidU8
import Derived.HandedShaped
import Derived.Shelf.Vars
import Derived.Lay
import Derived.Deep.Cut
import Derived.Shelf.Abstract
import Derived.Shelf.Small.Utf8
import Derived.Shelf.Small.Strs
import Derived.Shelf.Strconv.Itoa0
import Derived.Shelf.Strconv.Itoa1
import Derived.Shelf.LaysM
import Derived.Shelf.Strconv.Itoa2
import Derived.Shelf.Strings.Search1
import Derived.Shelf.Strings.Search2
import Derived.Shelf.Strings.Search3
import Derived.Shelf.Strings.Count
import Derived.Shelf.Strings.Shaped
import Derived.Shelf.Strings.LastIndex
import Derived.Shelf.Strings.Prefix
import Derived.Shelf.Strings.Split
import Derived.Shelf.Strings.Runes
import Derived.Shelf.Strings.AsciiSet
import Derived.Shelf.Bits.Mul64
import Derived.Shelf.Unicode.DecodeSlow
import Derived.Shelf.Slices.Turned
import Derived.Ground.Names2Prog
import Derived.Shelf.Slices.SearchI
import Derived.Laws.Cover1
import Derived.Deep.Slices
import Derived.Deep.Fields
import Derived.ChangeSame
import Derived.Carry
import Derived.Sort.Walk0
import Derived.ProofKit
import Derived.OpenShut
import Derived.ShutString
import Derived.ChangeOld
import Derived.Test.YtnfiljnncpieoaaDoorRows
set_option linter.unusedVariables false
set_option linter.unusedSimpArgs false
namespace Go.Proofs.YtnfiljnncpieoaaDoor.Q
open Go Go.RowKit Go.Proofs.YtnfiljnncpieoaaDoorW.PrintWords
structure Tabs (w : World) : Prop where
  pow10 : Lib.TabIs Tryd.prog w "internal/strconv.uint64pow10" .u64 Lib.pow10Tab
  maxlen : ∃ m, w.cell? ⟨0, 0, none⟩ = some (.int .i64 m)
theorem tabIs_heap {P : Program} {w w1 : World} {name : String} {k : IntKind} {zs : List Int} (h : Lib.TabIs P w name k zs) (hb : ∀ i, i < w.heap.size → w1.heap[i]? = w.heap[i]?) : Lib.TabIs P w1 name k zs := by
  unfold Lib.TabIs at h ⊢
  unfold World.var? at h ⊢
  cases hg : P.globalNamed name with
  | none => rw [hg] at h; simp at h
  | some g =>
    rw [hg] at h
    simp only [Option.bind_some] at h ⊢
    by_cases hlt : g < w.heap.size
    · rw [hb g hlt]; exact h
    · rw [Array.getElem?_eq_none (by omega)] at h
      simp at h
theorem Tabs.below {w w1 : World} (h : Tabs w) (hb : Below w.heap.size w w1) : Tabs w1 := ⟨tabIs_heap h.pow10 fun i hi => hb.block i hi, h.maxlen.imp fun _ hm => (hb.cell (World.block_lt_of_cell? w _ hm)).trans hm⟩
theorem Tabs.drewN {w : World} (h : Tabs w) (n : Nat) : Tabs (w.drewN n) := ⟨tabIs_heap h.pow10 fun _ _ => rfl, h.maxlen⟩
end Go.Proofs.YtnfiljnncpieoaaDoor.Q
namespace Go.Proofs.YtnfiljnncpieoaaDoor.Q
open Go Go.RowKit Go.Lib
theorem tabIs_of_reads {P : Program} {W : World} {name : String} {k : IntKind} {zs : List Int} {g : Nat} {t e : TypeId} {n : Nat}
    (hg : P.globalNamed name = some g) (hty : (P.globals[g]?).map (·.type) = some t) (ht : P.underlying t = some (.array n e)) (he : P.underlying e = some (.int k)) (hce : P.cellsOf e = 1) (hct : P.cellsOf t = n)
    (h : VarReads P W name (Lib.tabData k zs)) : Lib.TabIs P W name k zs := by
  obtain ⟨g', t', cs, fuel, p, hg', ht', hvar, hd⟩ := h
  obtain rfl := Option.some.inj (hg.symm.trans hg')
  obtain rfl := Option.some.inj (hty.symm.trans ht')
  unfold Lib.TabIs
  rw [hvar, ← Lib.cells_of_tab ht he hce hct hd]
theorem tabs_of_laid {W : World} {l : List (String × DataW Unit)} (h : laidMet Tryd.prog l W) (hm : ("internal/strconv.uint64pow10", Rows.laid_internal_strconv_uint64pow10) ∈ l) (hS : W.ShapedOpen Tryd.prog) : Tabs W where
  pow10 := tabIs_of_reads (g := 3) (t := 136) (e := 106) (by kernel_rfl) (by kernel_rfl) Tryd.underlying136 Tryd.underlying106 (by kernel_rfl) (by kernel_rfl)
    ((show Rows.laid_internal_strconv_uint64pow10 = Lib.tabData .u64 Lib.pow10Tab by kernel_rfl) ▸ laidMet.reads h hm)
  maxlen := cell_of_shapedOpen_int (t := 3) (zero := #[.int .i64 0]) (k := .i64) hS (of_decide_eq_true (by kernel_rfl)) (by kernel_rfl) rfl (by kernel_rfl) (by kernel_rfl) Tryd.underlying3
end Go.Proofs.YtnfiljnncpieoaaDoor.Q
namespace Go
variable {H : Type} {enc : TypeId × Value → H}
theorem returnsInHanded_of_change_and_shaped_ytnfiljnncpieoaadoor {a : Assume} {C : Checked} {os : Os} {f : FuncId} {fn : Func} {s : ChangeSpec} {conds : List PathCond} {apart fresh handsOn again : Bool} {X : World → Array Value → Prop}
    (hX : ∀ (w w' : World) (args : Array Value), w.heap = w'.heap → X w args → X w' args)
    (own : ownKnob C.prog.godebug = none) (started : os.Started) (noInit : C.prog.inits.idxOf? f = none) (hfn : C.prog.funcs[f]? = some fn)
    (witness : ∃ (w : World) (tape : Tape) (i : Input), w.os = os ∧ (w.forCall tape i).Shaped C.prog ∧ i.vars = [] ∧ Input.okWide C.prog (w.forCall tape i) .any w.heap.size f i ∧
      ((s.pre enc C.prog fn conds apart (w.forCall tape i).memory i.args ∧ X (w.forCall tape i).memory i.args) ∧ sizedMet enc C.prog fn (OpenSpec.ofChange s) apart (w.forCall tape i).memory i.args) ∧ a.holds C.prog (lone (Frame.enter C.prog f i.args .normal) [] (w.forCall tape i)))
    (contract : ∀ (W : World) (base : Nat) (args : Array Value) (ds gs : List (DataW H)) (before : List MemPlace),
      (∀ (j : Nat) t v, fn.params[j]? = some t → args[j]? = some v → Value.okWide C.prog W .any base t v) →
      DataW.Whole enc C.prog fn.params.toList s.vars apart W args.toList ds gs before →
      conds.all (PathCond.test C.prog ⟨fn.params.toList, ds, s.plain.varTypes C.prog, gs⟩) = true →
      (DataW.weightsEach C.prog (fn.params.toList ++ s.plain.varTypes C.prog) (ds ++ gs)).all (· ≤ reachBytes) = true → X W args →
      W.ShapedOpen C.prog →
      a.holds C.prog (lone (Frame.enter C.prog f args .normal) [] W) →
      Calls C.prog f args W fun e W' => ∃ v, e = .returned v ∧ s.post enc C.prog fn apart fresh handsOn again W args v W') :
    ReturnsInHanded a C os f .any (fun w args => (s.pre enc C.prog fn conds apart w args ∧ X w args) ∧ sizedMet enc C.prog fn (OpenSpec.ofChange s) apart w args) (s.post enc C.prog fn apart fresh handsOn again) := by
  refine returnsInHanded_of_calls own started noInit witness ?_
  intro w tape i _ hsh _ hok hpre hholds
  obtain ⟨_, _, _, fn', hfn', _, _, _, _, hval⟩ := hok
  have e : fn' = fn := Option.some.inj (hfn'.symm.trans hfn)
  subst e
  obtain ⟨⟨⟨ds, gs, before, hw, hc⟩, hx⟩, hz⟩ := hpre
  have hw' := DataW.Whole.of_heap (w' := w.forCall tape i) (by rfl) hw
  refine (contract (w.forCall tape i) w.heap.size i.args ds gs before hval hw' hc (hz.weights hw) (hX _ _ _ (by rfl) hx) hsh hholds).mono fun e W' ⟨v, he, hp⟩ => ?_
  subst he
  exact ChangeSpec.post_blind hp
end Go
namespace Go.Proofs.YtnfiljnncpieoaaDoor.Q
open Go.RowKit Go.Proofs.YtnfiljnncpieoaaDoorW.PrintWords Go.Proofs.YtnfiljnncpieoaaDoorW.PrintLast Go.Proofs.YtnfiljnncpieoaaDoorW.PrintMore
attribute [local go_sem] max2_int min2_int max_two min_two max_three min_three max_four min_four   -- for this text's walks alone
set_option linter.unusedVariables false
set_option linter.unusedSimpArgs false
def errW : Option Int → Value
 | none=>.nilIface
 | some c=>.iface 0 (.int .i64 c)
theorem errW_none : errW none = .nilIface:=rfl
theorem errW_some (c : Int) : errW (some c) = .iface 0 (.int .i64 c):=rfl
theorem info5 : (Tryd.prog.info? 5).map (fun i=>(i.zero,i.size,i.bytes)) = some (some (.int .u8 0),1,1):=by kernel_rfl
theorem info60 : (Tryd.prog.info? 60).map (fun i=>(i.zero,i.size,i.bytes)) = some (some (.agg #[(.int .i64 0),(.string ⟨#[]⟩),(.int .i64 0),(.int .i64 0)]),4,40):=by kernel_rfl
structure S60 where
 f0 : Int
 f1 : ByteArray
 f2 : Int
 f3 : Int
def z60 : S60:=⟨(0 : Int),(⟨#[]⟩ : ByteArray),(0 : Int),(0 : Int)⟩
def k60 : Kd S60:=Kd.iso (Kd.pair (Kd.int .i64) (Kd.pair Kd.string (Kd.pair (Kd.int .i64) (Kd.int .i64)))) (fun x : S60=>(x.f0,x.f1,x.f2,x.f3))
theorem k60_open {w : World} {x : S60} {cs : List Value} (h : k60.K w x cs) : cs = [.int .i64 x.f0,.string x.f1,.int .i64 x.f2,.int .i64 x.f3]:=by
 obtain ⟨_,_,rfl,rfl,⟨_,_,rfl,rfl,⟨_,_,rfl,rfl,rfl⟩⟩⟩:=h
 exact rfl
theorem k60_mkM (w : World) (base : Nat) (ok : Nat → Prop) (x : S60)  : k60.M w base ok x [.int .i64 x.f0,.string x.f1,.int .i64 x.f2,.int .i64 x.f3]:=⟨[.int .i64 x.f0],[.string x.f1,.int .i64 x.f2,.int .i64 x.f3],rfl,rfl,⟨[.string x.f1],[.int .i64 x.f2,.int .i64 x.f3],rfl,rfl,⟨[.int .i64 x.f2],[.int .i64 x.f3],rfl,rfl,rfl⟩⟩⟩
def rd_T60 (xs : List S60) (i : Int) : S60:=xs.getD i.toNat z60
theorem at_T60 {w : World} {A : Option Addr} {n : Nat} {xs : List S60} (h : Kd.C k60 w A n xs) (i : Int) (h0 : 0 ≤ i) (h1 : i < n) : ∃ ad ,A = some ad ∧ w.cell? (ad.add (i.toNat * 4)) = some (.int .i64 (rd_T60 xs i).f0) ∧ w.cell? ⟨(ad.add (i.toNat * 4)).block,(ad.add (i.toNat * 4)).off + 1,none⟩ = some (.string (rd_T60 xs i).f1) ∧ w.cell? ⟨(ad.add (i.toNat * 4)).block,(ad.add (i.toNat * 4)).off + 2,none⟩ = some (.int .i64 (rd_T60 xs i).f2) ∧ w.cell? ⟨(ad.add (i.toNat * 4)).block,(ad.add (i.toNat * 4)).off + 3,none⟩ = some (.int .i64 (rd_T60 xs i).f3):=by
 obtain ⟨ad,c,e,_,hK,hc0⟩:=Kd.C_get h z60 i h0 h1
 have hc : ∀ j u,c[j]? = some u → w.cell? (ad.add (i.toNat * 4 + j)) = some u:=hc0
 obtain rfl:=k60_open hK
 exact ⟨ad,e,hc 0 _ rfl,by rw [← add_field _ _ 1 (by omega)];exact hc 1 _ rfl,by rw [← add_field _ _ 2 (by omega)];exact hc 2 _ rfl,by rw [← add_field _ _ 3 (by omega)];exact hc 3 _ rfl⟩
end Go.Proofs.YtnfiljnncpieoaaDoor.Q
namespace Go.Proofs.YtnfiljnncpieoaaDoor.Q
open Go.RowKit Go.Proofs.YtnfiljnncpieoaaDoorW.PrintWords Go.Proofs.YtnfiljnncpieoaaDoorW.PrintLast Go.Proofs.YtnfiljnncpieoaaDoorW.PrintMore
theorem str_lh {P : Program} {t : TypeId} (ht : P.underlying t = some .string) (s : ByteArray) (l h : Int) (h0 : 0 ≤ l) (h1 : l ≤ h) (h2 : h ≤ s.size) (W : World) :
    (Instr.slice t (.string s) (some (.int .i64 l)) (some (.int .i64 h)) none).run P W = .ok (.string (s.extract l.toNat h.toNat)) W := by
  have e1 : (h.toNat : Int) = h := Int.toNat_of_nonneg (by omega)
  have hu := run_underlying (P := P) ht
  simp [Instr.slice, Instr.sliceBounds, run_sliceBound, *, (by omega : 0 ≤ h)]
theorem ret2_int {a b c d : Int} (h : a = b) (h2 : c = d) : Ending.returned (.tuple #[.int .i64 a, .int .i64 c]) = Ending.returned (.tuple #[.int .i64 b, .int .i64 d]) := by rw [h, h2]
def runN (p : Int → Bool) (s : ByteArray) (i : Nat) : Nat := if i < s.size then (if p (bt s i) then runN p s (i + 1) + 1 else 0) else 0
termination_by s.size - i
theorem runN_le (p : Int → Bool) (s : ByteArray) (i : Nat) : i ≤ s.size → i + runN p s i ≤ s.size := by
  fun_induction runN p s i with
  | case1 i h1 h2 ih => intro h; have := ih (by omega); omega
  | case2 i h1 h2 => intro h; omega
  | case3 i h1 => intro h; omega
theorem runN_hit {p : Int → Bool} {s : ByteArray} {i : Nat} (h : i < s.size) (hp : p (bt s i) = true) : runN p s i = runN p s (i + 1) + 1 := by
  rw [runN, if_pos h, if_pos hp]
theorem runN_miss {p : Int → Bool} {s : ByteArray} {i : Nat} (h : i < s.size) (hp : p (bt s i) = false) : runN p s i = 0 := by
  rw [runN, if_pos h, if_neg (by rw [hp]; simp)]
theorem runN_end {p : Int → Bool} {s : ByteArray} {i : Nat} (h : ¬ i < s.size) : runN p s i = 0 := by
  rw [runN, if_neg h]
theorem bt_nat {s : ByteArray} {j : Nat} (h : j < s.size) : bt s (j : Int) = (s[j].toNat : Int) := by
  unfold bt
  rw [dif_pos (by simpa using h)]
  simp
def isSp (c : Int) : Bool := c == 32 || (c == 9 || c == 10)
def isDg (c : Int) : Bool := decide (48 ≤ c) && decide (c ≤ 57)
theorem isSpace_any (c : Int) (w : World) : Calls Tryd.prog 75 #[.int .u8 c] w fun e w' => e = .returned (.bool (isSp c)) ∧ w' = w := by
  by_cases h1 : c = 32
  · subst h1; go_enter Tryd.func75, Tryd.ntmps75; go_wp2; go_ret; exact ⟨rfl, rfl⟩
  · by_cases h2 : c = 9
    · subst h2; go_enter Tryd.func75, Tryd.ntmps75; go_wp2; go_ret; exact ⟨rfl, rfl⟩
    · have b1 : (c == 32) = false := beq_eq_false_iff_ne.mpr h1
      have b2 : (c == 9) = false := beq_eq_false_iff_ne.mpr h2
      have HF : Aside0 (isSp c = (c == 10)) := ⟨by simp [isSp, b1, b2]⟩
      clear h1 h2
      go_enter Tryd.func75, Tryd.ntmps75
      go_wp2
      go_ret
      exact ⟨by rw [HF.out] <;> rfl, rfl⟩
theorem isDigit_any (c : Int) (w : World) : Calls Tryd.prog 100 #[.int .u8 c] w fun e w' => e = .returned (.bool (isDg c)) ∧ w' = w := by
  by_cases h1 : 48 ≤ c
  · have b1 : decide (48 ≤ c) = true := decide_eq_true h1
    have HF : Aside0 (isDg c = decide (c ≤ 57)) := ⟨by simp [isDg, h1]⟩
    clear h1
    go_enter Tryd.func100, Tryd.ntmps100
    go_wp2
    go_ret
    exact ⟨by rw [HF.out] <;> rfl, rfl⟩
  · have b1 : decide (48 ≤ c) = false := decide_eq_false h1
    have HF : Aside0 (isDg c = false) := ⟨by simp [isDg, h1]⟩
    clear h1
    go_enter Tryd.func100, Tryd.ntmps100
    go_wp2
    go_ret
    exact ⟨by rw [HF.out] <;> rfl, rfl⟩
set_option maxHeartbeats 1000000 in
theorem run_any (fn : Nat) (p : Int → Bool) (hp : ∀ c w, Calls Tryd.prog fn #[.int .u8 c] w fun e w' => e = .returned (.bool (p c)) ∧ w' = w) (eg : ∀ args w, (callFunc fn args).run Tryd.prog w = .ok (.enter fn args) w)
    (s : ByteArray) (hs : s.size ≤ 9223372036854775807) (i : Nat) (hi : i ≤ s.size) (w : World) :
    Calls Tryd.prog 76 #[.string s, .int .i64 i, .func (.func fn) #[] #[]] w fun e w' => e = .returned (.int .i64 (runN p s i)) ∧ w = w' := by
  have HP := Aside0.mk hp
  clear hp
  go_enter Tryd.func76, Tryd.ntmps76
  go_wp2
  go_loopg [7] (s.size - i) (fun gg v7 wr => ∃ k : Nat, v7 = .int .i64 k ∧ i + k ≤ s.size ∧ s.size - i - k ≤ gg ∧ Aside0 (runN p s i = k + runN p s (i + k)) ∧ wr = w)
  case atStart => exact ⟨0, rfl, by omega, by omega, ⟨by simp⟩, rfl⟩
  case round =>
    obtain ⟨k, rfl, hk, hg, HR, rfl⟩ := hrel
    by_cases hlt : i + k < s.size
    · have hlt0 : (i : Int) + (k : Int) < (s.size : Int) := by omega
      have hcall := HP.out (bt s ((i + k : Nat) : Int)) wr
      have hb : Aside0 (bt s ((i + k : Nat) : Int) = (s[i + k].toNat : Int)) := ⟨bt_nat hlt⟩
      cases hq : p (bt s ((i + k : Nat) : Int)) with
      | true =>
        have HN : Aside0 (runN p s (i + k) = runN p s (i + k + 1) + 1) := ⟨runN_hit hlt hq⟩
        rw [hq, hb.out] at hcall
        clear hq
        go_wp2_with fail
        refine hcall.mono ?_
        rintro e w' ⟨rfl, rfl⟩
        go_wp2_with fail
        go_roundg (s.size - i - (k + 1))
        case measure => omega
        case rel => exact ⟨k + 1, by go_num, by omega, by omega, ⟨by have h1 := HR.out; have h2 := HN.out; rw [← Nat.add_assoc]; omega⟩, rfl⟩
      | false =>
        have HN : Aside0 (runN p s (i + k) = 0) := ⟨runN_miss hlt hq⟩
        rw [hq, hb.out] at hcall
        clear hq
        go_wp2_with fail
        refine hcall.mono ?_
        rintro e w' ⟨rfl, rfl⟩
        go_wp2_with fail
        go_ret
        exact ⟨by rw [HR.out, HN.out] <;> rfl, rfl⟩
    · have hlt0 : ¬ (i : Int) + (k : Int) < (s.size : Int) := by omega
      have HN : Aside0 (runN p s (i + k) = 0) := ⟨runN_end hlt⟩
      go_wp2
      go_ret
      exact ⟨by rw [HR.out, HN.out] <;> rfl, rfl⟩
end Go.Proofs.YtnfiljnncpieoaaDoor.Q
namespace Go.Proofs.YtnfiljnncpieoaaDoor.Q
open Go.Shelf Go.RowKit Go.Proofs.YtnfiljnncpieoaaDoorW.PrintWords Go.Proofs.YtnfiljnncpieoaaDoorW.PrintLast Go.Proofs.YtnfiljnncpieoaaDoorW.PrintMore
def sgnB (s : ByteArray) (i : Nat) : Bool := decide (i < s.size) && (bt s i == 43 || bt s i == 45)
def atD (s : ByteArray) : Nat := if sgnB s (runN isSp s 0) = true then runN isSp s 0 + 1 else runN isSp s 0
def negB (s : ByteArray) : Bool := if sgnB s (runN isSp s 0) = true then bt s (runN isSp s 0) == 45 else false
def dotB (s : ByteArray) (i : Nat) : Bool := decide (i < s.size) && (bt s i == 46)
def wholeN (s : ByteArray) : Nat := runN isDg s (atD s)
def at2 (s : ByteArray) : Nat := atD s + wholeN s
def moreN (s : ByteArray) : Nat := if dotB s (at2 s) = true then runN isDg s (at2 s + 1) else 0
def tkB (s : ByteArray) : Bool := dotB s (at2 s) && decide (0 < wholeN s + moreN s)
def digS (s : ByteArray) : ByteArray := s.extract (atD s) (at2 s)
def partS (s : ByteArray) : ByteArray := if tkB s = true then s.extract (at2 s + 1) (at2 s + 1 + moreN s) else ⟨#[]⟩
def at3 (s : ByteArray) : Nat := if tkB s = true then at2 s + 1 + moreN s else at2 s
def numStep (n : Int) (c : Int) : Int := mn (n * 10 + (c - 48) % 256) 9000000000001
def allS (s : ByteArray) : ByteArray := digS s ++ (partS s ++ ⟨#[48, 48, 48, 48, 48, 48]⟩).extract 0 6
def numOf (s : ByteArray) : Int := mn ((allS s).data.toList.foldl (fun n c => numStep n (c.toNat : Int)) 0) 9000000000000
def readV (s : ByteArray) : Int × Int := if ((digS s).toList.isEmpty && (partS s).toList.isEmpty) = true then (0, 0) else (if negB s = true then - numOf s else numOf s, (at3 s : Int))
def impl_ReadDec.f (s : ByteArray) : Option (Int × Int) := if s.size ≤ 140737488355328 then some (readV s) else none
theorem atD_le (s : ByteArray) : atD s ≤ s.size := by
  have h := runN_le isSp s 0 (by omega)
  unfold atD sgnB
  split
  · rename_i h2
    simp at h2; omega
  · omega
set_option maxHeartbeats 4000000 in
set_option maxRecDepth 100000 in
theorem impl_ReadDec.calls (s : ByteArray) (r1 r2 : Int) (w : World) (h : impl_ReadDec.f s = some (r1, r2)) :
    Calls Tryd.prog 59 #[.string s] w fun e w' => e = .returned (.tuple #[.int .i64 r1, .int .i64 r2]) ∧ Below w.heap.size w w' := by
  unfold impl_ReadDec.f at h
  by_cases hs0 : s.size ≤ 140737488355328
  case neg => rw [if_neg hs0] at h; cases h
  rw [if_pos hs0] at h
  have hs : s.size ≤ 9223372036854775807 := by omega
  have HRES := Aside0.mk (Option.some.inj h)
  unfold readV at HRES
  clear h
  have R1 := Aside0.mk (fun i hi w => run_any 75 isSp isSpace_any (enters_of Tryd.func75 (by kernel_rfl) rfl) s hs i hi w)
  have R2 := Aside0.mk (fun i hi w => run_any 100 isDg isDigit_any (enters_of Tryd.func100 (by kernel_rfl) rfl) s hs i hi w)
  have c0 := R1.out 0 (by omega) w
  have l0 := runN_le isSp s 0 (by omega)
  have la := atD_le s
  simp only [Nat.zero_add] at l0
  have HAt : Aside0 (atD s = if sgnB s (runN isSp s 0) = true then runN isSp s 0 + 1 else runN isSp s 0) := ⟨rfl⟩
  have HNg : Aside0 (negB s = if sgnB s (runN isSp s 0) = true then bt s (runN isSp s 0) == 45 else false) := ⟨rfl⟩
  go_enter Tryd.func59, Tryd.ntmps59
  go_wp2_with fail
  refine c0.mono ?_
  rintro e w' ⟨rfl, rfl⟩
  clear c0
  go_upto_region 3 with fail
  generalize runN isSp s 0 = a0 at *
  generalize hb : sgnB s a0 = sb at *
  have HSB := Aside0.mk hb
  clear hb
  go_cut [30] (fun v30 wc => v30 = .bool sb ∧ w = wc)
  case first =>
    by_cases h1 : a0 < s.size
    · have h1i : (a0 : Int) < (s.size : Int) := by omega
      have hbt := bt_nat h1
      by_cases h2 : bt s (a0 : Int) = 43
      · have e1 : Aside0 (sb = true) := ⟨by rw [← HSB.out]; simp [sgnB, h1, h2]⟩
        have b2 : ((s[a0].toNat : Int) == 43) = true := by rw [← hbt]; exact beq_iff_eq.mpr h2
        clear h2 hbt
        go_wp2_with fail
        go_meet
        exact ⟨by rw [e1.out], rfl⟩
      · have b2 : ((s[a0].toNat : Int) == 43) = false := by rw [← hbt]; exact beq_eq_false_iff_ne.mpr h2
        have e1 : Aside0 (sb = ((s[a0].toNat : Int) == 45)) := ⟨by rw [← HSB.out, ← hbt]; simp [sgnB, h1, h2]⟩
        clear h2 hbt
        go_wp2_with fail
        go_meet
        exact ⟨by rw [e1.out], rfl⟩
    · have h1i : ¬ (a0 : Int) < (s.size : Int) := by omega
      have e1 : Aside0 (sb = false) := ⟨by rw [← HSB.out]; simp [sgnB, h1]⟩
      go_wp2_with fail
      go_meet
      exact ⟨by rw [e1.out], rfl⟩
  case rest =>
    obtain ⟨rfl, rfl⟩ := hcut
    go_upto_if 30 with fail
    go_cut [4, 5] (fun v4 v5 wx => v4 = .int .i64 (atD s) ∧ v5 = .bool (negB s) ∧ w = wx)
    case first =>
      cases sb with
      | true =>
        have hsb := HSB.out
        simp only [sgnB, Bool.and_eq_true, decide_eq_true_eq] at hsb
        have h1 : a0 < s.size := hsb.1
        clear hsb
        have h1i : (a0 : Int) < (s.size : Int) := by omega
        have hbt := Aside0.mk (bt_nat h1)
        go_wp2_with fail
        go_meet
        exact ⟨by have h := HAt.out; simp at h; rw [h]; go_num, by have h := HNg.out; simp at h; rw [h, hbt.out] <;> rfl, rfl⟩
      | false =>
        go_wp2_with fail
        go_meet
        exact ⟨by have h := HAt.out; simp at h; rw [h] <;> rfl, by have h := HNg.out; simp at h; rw [h] <;> rfl, rfl⟩
    case rest =>
      obtain ⟨rfl, rfl, rfl⟩ := hcut
      have l1 := runN_le isDg s (atD s) la
      have c1 := R2.out (atD s) la
      have HW : Aside0 (runN isDg s (atD s) = wholeN s) := ⟨rfl⟩
      rw [HW.out] at l1 c1
      go_wp2_with fail
      refine (c1 _).mono ?_
      rintro e w' ⟨rfl, rfl⟩
      clear c1
      have l2 : at2 s ≤ s.size := l1
      have hsl1 : ∀ W, (Instr.slice 9 (.string s) (some (.int .i64 (atD s))) (some (.int .i64 ((atD s : Int) + (wholeN s : Int)))) none).run Tryd.prog W = .ok (.string (digS s)) W := fun W => by
        rw [str_lh Tryd.underlying9 s _ _ (by omega) (by omega) (by omega)]
        have e1 : ((atD s : Int) + (wholeN s : Int)).toNat = at2 s := by unfold at2; omega
        rw [e1, Int.toNat_natCast]; rfl
      have h12 : Aside0 ((atD s : Int) + (wholeN s : Int) = (at2 s : Int)) := ⟨by unfold at2; omega⟩
      have HM : Aside0 (moreN s = if dotB s (at2 s) = true then runN isDg s (at2 s + 1) else 0) := ⟨rfl⟩
      have HT : Aside0 (tkB s = (dotB s (at2 s) && decide (0 < wholeN s + moreN s))) := ⟨rfl⟩
      have HP : Aside0 (partS s = if tkB s = true then s.extract (at2 s + 1) (at2 s + 1 + moreN s) else ⟨#[]⟩) := ⟨rfl⟩
      have HA3 : Aside0 (at3 s = if tkB s = true then at2 s + 1 + moreN s else at2 s) := ⟨rfl⟩
      have HR : Aside0 (at2 s < s.size → at2 s + 1 + runN isDg s (at2 s + 1) ≤ s.size) := ⟨fun h => runN_le isDg s (at2 s + 1) (by omega)⟩
      go_upto_region 10 with fail
      rw [h12.out]
      generalize hdb : dotB s (at2 s) = db at *
      have HDB := Aside0.mk hdb
      clear hdb hsl1
      go_cut [58] (fun v58 wx => v58 = .bool db ∧ w = wx)
      case first =>
        by_cases h1 : at2 s < s.size
        · have h1i : (at2 s : Int) < (s.size : Int) := by omega
          have hbt := bt_nat h1
          have e1 : Aside0 (db = ((s[at2 s].toNat : Int) == 46)) := ⟨by rw [← HDB.out, ← hbt]; simp [dotB, h1]⟩
          clear hbt
          go_wp2_with fail
          go_meet
          exact ⟨by rw [e1.out], rfl⟩
        · have h1i : ¬ (at2 s : Int) < (s.size : Int) := by omega
          have e1 : Aside0 (db = false) := ⟨by rw [← HDB.out]; simp [dotB, h1]⟩
          go_wp2_with fail
          go_meet
          exact ⟨by rw [e1.out], rfl⟩
      case rest =>
        obtain ⟨rfl, rfl⟩ := hcut
        go_upto_if 58 with fail
        go_cut [4, 8] (fun v4 v8 wx => v4 = .int .i64 (at3 s) ∧ v8 = .string (partS s) ∧ w = wx)
        case first =>
          cases db with
          | true =>
            have hsb := HDB.out
            simp only [dotB, Bool.and_eq_true, decide_eq_true_eq] at hsb
            have h1 : at2 s < s.size := hsb.1
            clear hsb
            have c2 := R2.out (at2 s + 1) (by omega)
            have hm := HM.out
            rw [if_pos rfl] at hm
            have l3 := HR.out h1
            rw [← hm] at c2 l3
            have hsum : wholeN s + moreN s ≤ s.size := by have := h12.out; omega
            have e2 : ((at2 s + 1 : Nat) : Int) = (at2 s : Int) + 1 := by omega
            rw [e2] at c2
            clear hm e2
            go_wp2_with fail
            refine (c2 _).mono ?_
            rintro e w' ⟨rfl, rfl⟩
            clear c2
            have hsl2 : ∀ W, (Instr.slice 9 (.string s) (some (.int .i64 ((at2 s : Int) + 1))) (some (.int .i64 ((at2 s : Int) + 1 + (moreN s : Int)))) none).run Tryd.prog W = .ok (.string (s.extract (at2 s + 1) (at2 s + 1 + moreN s))) W := fun W => by
              rw [str_lh Tryd.underlying9 s _ _ (by omega) (by omega) (by omega)]
              have e1 : ((at2 s : Int) + 1).toNat = at2 s + 1 := by omega
              have e2 : ((at2 s : Int) + 1 + (moreN s : Int)).toNat = at2 s + 1 + moreN s := by omega
              rw [e1, e2]
            by_cases h3 : 0 < wholeN s + moreN s
            · have h3i : decide ((0 : Int) < (wholeN s : Int) + (moreN s : Int)) = true := decide_eq_true (by omega)
              have e3 : Aside0 (tkB s = true) := ⟨by rw [HT.out]; simp; omega⟩
              clear h3
              go_wp2_with fail
              go_meet
              exact ⟨by rw [HA3.out, e3.out]; go_num, by rw [HP.out, e3.out]; rfl, rfl⟩
            · have h3i : decide ((0 : Int) < (wholeN s : Int) + (moreN s : Int)) = false := decide_eq_false (by omega)
              have e3 : Aside0 (tkB s = false) := ⟨by rw [HT.out]; simp; omega⟩
              clear h3
              go_wp2_with fail
              go_meet
              exact ⟨by rw [HA3.out, e3.out]; rfl, by rw [HP.out, e3.out]; rfl, rfl⟩
          | false =>
            have e3 : Aside0 (tkB s = false) := ⟨by rw [HT.out]; rfl⟩
            go_wp2_with fail
            go_meet
            exact ⟨by rw [HA3.out, e3.out]; rfl, by rw [HP.out, e3.out]; rfl, rfl⟩
        case rest =>
          obtain ⟨rfl, rfl, rfl⟩ := hcut
          have HDs : Aside0 ((digS s).size ≤ s.size) := ⟨by unfold digS; simp [ByteArray.size_extract]; omega⟩
          have HPs : Aside0 ((partS s).size ≤ s.size) := ⟨by unfold partS; split <;> first | exact Nat.zero_le _ | (simp [ByteArray.size_extract]; done) | (simp [ByteArray.size_extract]; omega)⟩
          have HAll : Aside0 (allS s = digS s ++ (partS s ++ ⟨#[48, 48, 48, 48, 48, 48]⟩).extract 0 6) := ⟨rfl⟩
          have HNum : Aside0 (numOf s = mn ((allS s).data.toList.foldl (fun n c => numStep n (c.toNat : Int)) 0) 9000000000000) := ⟨rfl⟩
          clear HR HA3 HP HT HM h12 HDB HSB HNg HAt l0 l1 l2 la
          generalize numOf s = nm at *
          generalize allS s = al at *
          generalize digS s = ds at *
          generalize partS s = ps at *
          generalize negB s = ng at *
          generalize at3 s = a3 at *
          generalize heb : (ds.toList.isEmpty && ps.toList.isEmpty) = eb at *
          have HEB := Aside0.mk heb
          clear heb
          go_upto_region 15 with fail
          go_cut [84] (fun v84 wx => v84 = .bool eb ∧ w = wx)
          case first =>
            cases b1 : ds.toList.isEmpty with
            | true =>
              have e1 : Aside0 (eb = ps.toList.isEmpty) := ⟨by rw [← HEB.out, b1]; rfl⟩
              go_wp2_with fail
              go_meet
              exact ⟨by rw [e1.out], rfl⟩
            | false =>
              have e1 : Aside0 (eb = false) := ⟨by rw [← HEB.out, b1]; rfl⟩
              go_wp2_with fail
              go_meet
              exact ⟨by rw [e1.out], rfl⟩
          case rest =>
            obtain ⟨rfl, rfl⟩ := hcut
            cases eb with
            | true =>
              go_wp2_with fail
              go_ret2
              exact ⟨by have h := HRES.out; simp at h; rw [← h.1, ← h.2] <;> rfl, Below.refl _ _⟩
            | false =>
              have hds := HDs.out
              have hps := HPs.out
              have hz : ps.size + 6 ≤ 9223372036854775807 := by omega
              have HSZ : Aside0 (al.size = ds.size + 6) := ⟨by
                rw [HAll.out, ByteArray.size_append, ByteArray.size_extract, ByteArray.size_append]
                have h6 : (⟨#[48, 48, 48, 48, 48, 48]⟩ : ByteArray).size = 6 := rfl
                omega⟩
              have hal : al.size ≤ 9223372036854775807 := by rw [HSZ.out]; omega
              have kb := fun W => print_bytes (P := Tryd.prog) 9 31 5 Tryd.underlying9 Tryd.underlying31 Tryd.underlying5 (ds ++ (ps ++ ⟨#[48, 48, 48, 48, 48, 48]⟩).extract 0 6) W
              have hcell := Aside0.mk (fun j (hj : j < al.size) => Lib.bytesWorld_cell w 5 al j hj)
              have HBel : Aside0 (Below w.heap.size w (Lib.bytesWorld w 5 al)) := ⟨bytes_below (Below.refl _ _) (Nat.le_refl _) _ _⟩
              go_upto_region 18 with fail
              go_cut [90, 91, 92] (fun v90 v91 v92 wx => ∃ c : Nat, v90 = .slice (some ⟨w.heap.size, 0, none⟩) al.size c ∧ v91 = .int .i64 al.size ∧ v92 = .int .i64 0 ∧ Lib.bytesWorld w 5 al = wx)
              case first =>
                go_wp2_with fail
                go_meet
                exact ⟨grownCap w al.size 0 5, by rw [HSZ.out] <;> rfl, by rw [HSZ.out] <;> go_num, rfl, by rw [HAll.out] <;> rfl⟩
              case rest =>
                obtain ⟨c, rfl, rfl, rfl, rfl⟩ := hcut
                clear kb HAll HDs HPs hds hps hz
                generalize Lib.bytesWorld w 5 al = w1 at *
                go_wp2_with fail
                go_loopg [10, 92] al.size (fun gg v10 v92 wr => ∃ (n : Int) (k : Nat), v10 = .int .i64 n ∧ v92 = .int .i64 k ∧ k ≤ al.size ∧ al.size - k ≤ gg ∧ 0 ≤ n ∧ n ≤ 9000000000001 ∧ Aside0 (n = (al.data.toList.take k).foldl (fun n c => numStep n (c.toNat : Int)) 0) ∧ w1 = wr)
                case atStart => exact ⟨0, 0, rfl, rfl, by omega, by omega, by omega, by omega, ⟨rfl⟩, rfl⟩
                case round =>
                  obtain ⟨n, k, rfl, rfl, hk, hg, hn0, hn1, HN, rfl⟩ := hrel
                  by_cases hlt : k < al.size
                  · have hlt0 : (k : Int) < (al.size : Int) := by omega
                    have hc := hcell.out k hlt
                    have hkl : k < al.data.toList.length := by rw [Array.length_toList]; exact hlt
                    have HS : Aside0 ((al.data.toList.take (k + 1)).foldl (fun n c => numStep n (c.toNat : Int)) 0 = numStep n ((al.data.toList.getD k 0).toNat : Int)) := ⟨by
                      rw [List.take_succ_eq_append_getElem hkl, List.foldl_append, ← HN.out, List.getD_eq_getElem?_getD, List.getElem?_eq_getElem hkl]; rfl⟩
                    clear hkl
                    generalize ((al.data.toList.getD k 0).toNat : Int) = b at hc HS
                    go_wp2_with fail
                    all_goals
                      go_roundg (al.size - (k + 1))
                      case measure => omega
                      case rel => exact ⟨_, k + 1, rfl, by go_num, by omega, by omega, by omega, by omega, ⟨by rw [HS.out]; unfold numStep mn; omega⟩, rfl⟩
                  · have hlt0 : ¬ (k : Int) < (al.size : Int) := by omega
                    obtain rfl : k = al.size := by omega
                    have hF : Aside0 (nm = mn n 9000000000000) := ⟨by
                      rw [HNum.out]
                      have h := HN.out
                      rw [List.take_of_length_le (by rw [Array.length_toList]; exact Nat.le_refl _)] at h
                      rw [← h]⟩
                    have HQ : Aside0 (r1 = (if ng = true then - nm else nm) ∧ r2 = (a3 : Int)) := ⟨by have h := HRES.out; simp at h; exact ⟨h.1.symm, h.2.symm⟩⟩
                    clear HN HNum HRES
                    cases ng with
                    | true =>
                      go_wp2_with fail
                      all_goals
                        go_ret2
                        exact ⟨ret2_int (by have h := HQ.out; simp at h; rw [h.1, hF.out]; unfold mn; omega) (by rw [HQ.out.2]), HBel.out⟩
                    | false =>
                      go_wp2_with fail
                      all_goals
                        go_ret2
                        exact ⟨ret2_int (by have h := HQ.out; simp at h; rw [h.1, hF.out]; unfold mn; omega) (by rw [HQ.out.2]), HBel.out⟩
end Go.Proofs.YtnfiljnncpieoaaDoor.Q
namespace Go.Proofs
open Go.Shelf
def Tryd.lays137_ren : Go.Shelf.Ren := ⟨fun | 137 => 122 | 217 => 130 | 266 => 144 | n => n, fun | 9 => 9 | 5 => 5 | 3 => 3 | n => n, fun | n => n⟩
theorem Tryd.lays137 : Go.Proofs.Lays.n137 Tryd.prog Tryd.lays137_ren := {
  mixed := by kernel_rfl
  f137 := Tryd.func122.trans (congrArg some (by kernel_rfl))
  f217 := Tryd.func130.trans (congrArg some (by kernel_rfl))
  f266 := Tryd.func144.trans (congrArg some (by kernel_rfl))
  t3 := Tryd.underlying3
  a3 := Tryd.isAgg3
  z3 := Tryd.sizeOf3
  v3 := Tryd.zeroValue3
  t5 := Tryd.underlying5
  a5 := Tryd.isAgg5
  z5 := Tryd.sizeOf5
  v5 := Tryd.zeroValue5
  t9 := Tryd.underlying9
  a9 := Tryd.isAgg9
  z9 := Tryd.sizeOf9
  v9 := Tryd.zeroValue9 }
open Go.RowKit in
/-- strings.IndexByte: "IndexByte returns the index of the first instance of c in s, or -1 if c is not present in s.": IT RETURNS 'Lib.indexByte s c'; the world is as it was. (LAID: no walk: one application.) -/
theorem Tryd.strings_IndexByte (s : ByteArray) (c : Int) (w : World) :
    Calls Tryd.prog 122 #[.string s, .int .u8 c] w fun e w' => e = .returned (.int .i64 (Lib.indexByte s.data.toList c.toNat.toUInt8)) ∧ w' = w := Any.strings_IndexByte Tryd.lays137 s c w
def Tryd.laysM171_ren : Go.Shelf.Ren := ⟨fun | 171 => 120 | 243 => 138 | 246 => 147 | 283 => 153 | 284 => 154 | 285 => 155 | 286 => 156 | 129 => 151 | 317 => 160 | 318 => 161 | 319 => 162 | 320 => 163 | 337 => 165 | 338 => 166 | n => n, fun | 3 => 3 | 9 => 9 | 2 => 2 | 4 => 4 | 171 => 130 | 0 => 0 | 53 => 106 | 37 => 31 | 5 => 5 | 173 => 132 | 212 => 136 | 51 => 110 | 20 => 20 | 213 => 137 | 46 => 103 | 232 => 145 | 233 => 146 | n => n, fun | 17 => 3 | 18 => 6 | 19 => 7 | n => n⟩
theorem Tryd.laysM171 : Go.Proofs.LaysM.n171 Tryd.prog Tryd.laysM171_ren := {
  mixed := by kernel_rfl
  f129 := Tryd.func151.trans (congrArg some (by kernel_rfl))
  f171 := Tryd.func120.trans (congrArg some (by kernel_rfl))
  f243 := Tryd.func138.trans (congrArg some (by kernel_rfl))
  f246 := Tryd.func147.trans (congrArg some (by kernel_rfl))
  f283 := Tryd.func153.trans (congrArg some (by kernel_rfl))
  f284 := Tryd.func154.trans (congrArg some (by kernel_rfl))
  f285 := Tryd.func155.trans (congrArg some (by kernel_rfl))
  f286 := Tryd.func156.trans (congrArg some (by kernel_rfl))
  f317 := Tryd.func160.trans (congrArg some (by kernel_rfl))
  f318 := Tryd.func161.trans (congrArg some (by kernel_rfl))
  f319 := Tryd.func162.trans (congrArg some (by kernel_rfl))
  f320 := Tryd.func163.trans (congrArg some (by kernel_rfl))
  f337 := Tryd.func165.trans (congrArg some (by kernel_rfl))
  f338 := Tryd.func166.trans (congrArg some (by kernel_rfl))
  t0 := Tryd.underlying0
  a0 := Tryd.isAgg0
  z0 := Tryd.sizeOf0
  v0 := Tryd.zeroValue0
  t2 := Tryd.underlying2
  a2 := Tryd.isAgg2
  z2 := Tryd.sizeOf2
  v2 := Tryd.zeroValue2
  t3 := Tryd.underlying3
  a3 := Tryd.isAgg3
  z3 := Tryd.sizeOf3
  v3 := Tryd.zeroValue3
  t4 := Tryd.underlying4
  a4 := Tryd.isAgg4
  z4 := Tryd.sizeOf4
  v4 := Tryd.zeroValue4
  t5 := Tryd.underlying5
  a5 := Tryd.isAgg5
  z5 := Tryd.sizeOf5
  v5 := Tryd.zeroValue5
  t9 := Tryd.underlying9
  a9 := Tryd.isAgg9
  z9 := Tryd.sizeOf9
  v9 := Tryd.zeroValue9
  t20 := Tryd.underlying20
  a20 := Tryd.isAgg20
  z20 := Tryd.sizeOf20
  v20 := Tryd.zeroValue20
  t37 := Tryd.underlying31
  a37 := Tryd.isAgg31
  z37 := Tryd.sizeOf31
  v37 := Tryd.zeroValue31
  t46 := Tryd.underlying103
  a46 := Tryd.isAgg103
  z46 := Tryd.sizeOf103
  v46 := Tryd.zeroValue103
  t51 := Tryd.underlying110
  a51 := Tryd.isAgg110
  z51 := Tryd.sizeOf110
  v51 := Tryd.zeroValue110
  t53 := Tryd.underlying106
  a53 := Tryd.isAgg106
  z53 := Tryd.sizeOf106
  v53 := Tryd.zeroValue106
  t171 := Tryd.underlying130
  a171 := Tryd.isAgg130
  z171 := Tryd.sizeOf130
  v171 := Tryd.zeroValue130
  t173 := Tryd.underlying132
  a173 := Tryd.isAgg132
  z173 := Tryd.sizeOf132
  v173 := Tryd.zeroValue132
  t212 := Tryd.underlying136
  a212 := Tryd.isAgg136
  z212 := Tryd.sizeOf136
  v212 := Tryd.zeroValue136
  t213 := Tryd.underlying137
  a213 := Tryd.isAgg137
  z213 := Tryd.sizeOf137
  t232 := Tryd.underlying145
  a232 := Tryd.isAgg145
  z232 := Tryd.sizeOf145
  v232 := Tryd.zeroValue145
  t233 := Tryd.underlying146
  a233 := Tryd.isAgg146
  z233 := Tryd.sizeOf146
  v233 := Tryd.zeroValue146
  g17 := by kernel_rfl
  g18 := by kernel_rfl
  g19 := by kernel_rfl
  i0 := by kernel_rfl
  i2 := by kernel_rfl
  i3 := by kernel_rfl
  i4 := by kernel_rfl
  i5 := by kernel_rfl
  i9 := by kernel_rfl
  i20 := by kernel_rfl
  i37 := by kernel_rfl
  i46 := by kernel_rfl
  i51 := by kernel_rfl
  i53 := by kernel_rfl
  i171 := by kernel_rfl
  i173 := by kernel_rfl
  i212 := by kernel_rfl
  i232 := by kernel_rfl
  i233 := by kernel_rfl
  m17 := by kernel_rfl
  m18 := by kernel_rfl
  m19 := by kernel_rfl }
open Go.RowKit Go.Sort Go.Lib in
/-- strconv.Itoa: "Itoa is equivalent to FormatInt(int64(i), 10).": i's DECIMAL NUMERAL ('Lib.itoa': a '-' where i is negative, then the digits), FOR EVERY int. The world behind the call: the world before it, new blocks behind the heap (the library's 'var a [24]byte'), draws. (LAID: no walk: one application.) -/
theorem Tryd.strconv_Itoa (n : Int) (h0 : -9223372036854775808 ≤ n) (h1 : n ≤ 9223372036854775807) (w : World) (htab : Lib.TabIs Tryd.prog w "internal/strconv.uint64pow10" .u64 Lib.pow10Tab) :
    Calls Tryd.prog 120 #[.int .i64 n] w fun e w' => e = .returned (.string ⟨(Lib.itoa n).toArray⟩) ∧ ∃ k os, w' = grow (w.drewN k) os := Any.strconv_Itoa Tryd.laysM171 n h0 h1 w htab
def Tryd.lays99_ren : Go.Shelf.Ren := ⟨fun | 99 => 117 | 206 => 137 | n => n, fun | 9 => 9 | 4 => 4 | 3 => 3 | n => n, fun | n => n⟩
theorem Tryd.lays99 : Go.Proofs.Lays.n99 Tryd.prog Tryd.lays99_ren := {
  mixed := by kernel_rfl
  f99 := Tryd.func117.trans (congrArg some (by kernel_rfl))
  f206 := Tryd.func137.trans (congrArg some (by kernel_rfl))
  t3 := Tryd.underlying3
  a3 := Tryd.isAgg3
  z3 := Tryd.sizeOf3
  v3 := Tryd.zeroValue3
  t4 := Tryd.underlying4
  a4 := Tryd.isAgg4
  z4 := Tryd.sizeOf4
  v4 := Tryd.zeroValue4
  t9 := Tryd.underlying9
  a9 := Tryd.isAgg9
  z9 := Tryd.sizeOf9
  v9 := Tryd.zeroValue9 }
open Go.RowKit Go.Lib in
/-- strings.HasPrefix: "HasPrefix reports whether the string s begins with prefix.": IT RETURNS 'Lib.hasPrefix s prefix'; the world is as it was. (LAID: no walk: one application.) -/
theorem Tryd.strings_HasPrefix (s p : ByteArray) (w : World) :
    Calls Tryd.prog 117 #[.string s, .string p] w fun e w' => e = .returned (.bool (Lib.hasPrefix s.data.toList p.data.toList)) ∧ w' = w := Any.strings_HasPrefix Tryd.lays99 s p w
def Tryd.lays146_ren : Go.Shelf.Ren := ⟨fun | 146 => 116 | 221 => 136 | 268 => 146 | 138 => 67 | 143 => 64 | 195 => 103 | 197 => 152 | 218 => 104 | 219 => 102 | 260 => 159 | 217 => 130 | 225 => 131 | 224 => 132 | 267 => 133 | 266 => 144 | 314 => 145 | n => n, fun | 9 => 9 | 31 => 81 | 3 => 3 | 4 => 4 | 0 => 0 | 105 => 127 | 21 => 21 | 5 => 5 | 46 => 103 | 119 => 140 | 139 => 143 | 138 => 142 | 146 => 111 | 51 => 110 | n => n, fun | 1 => 0 | 3 => 4 | 4 => 5 | n => n⟩
theorem Tryd.lays146 : Go.Proofs.Lays.n146 Tryd.prog Tryd.lays146_ren := {
  mixed := by kernel_rfl
  f138 := Tryd.func67.trans (congrArg some (by kernel_rfl))
  f143 := Tryd.func64.trans (congrArg some (by kernel_rfl))
  f146 := Tryd.func116.trans (congrArg some (by kernel_rfl))
  f195 := Tryd.func103.trans (congrArg some (by kernel_rfl))
  f197 := Tryd.func152.trans (congrArg some (by kernel_rfl))
  f217 := Tryd.func130.trans (congrArg some (by kernel_rfl))
  f218 := Tryd.func104.trans (congrArg some (by kernel_rfl))
  f219 := Tryd.func102.trans (congrArg some (by kernel_rfl))
  f221 := Tryd.func136.trans (congrArg some (by kernel_rfl))
  f224 := Tryd.func132.trans (congrArg some (by kernel_rfl))
  f225 := Tryd.func131.trans (congrArg some (by kernel_rfl))
  f260 := Tryd.func159.trans (congrArg some (by kernel_rfl))
  f266 := Tryd.func144.trans (congrArg some (by kernel_rfl))
  f267 := Tryd.func133.trans (congrArg some (by kernel_rfl))
  f268 := Tryd.func146.trans (congrArg some (by kernel_rfl))
  f314 := Tryd.func145.trans (congrArg some (by kernel_rfl))
  t0 := Tryd.underlying0
  a0 := Tryd.isAgg0
  z0 := Tryd.sizeOf0
  v0 := Tryd.zeroValue0
  t3 := Tryd.underlying3
  a3 := Tryd.isAgg3
  z3 := Tryd.sizeOf3
  v3 := Tryd.zeroValue3
  t4 := Tryd.underlying4
  a4 := Tryd.isAgg4
  z4 := Tryd.sizeOf4
  v4 := Tryd.zeroValue4
  t5 := Tryd.underlying5
  a5 := Tryd.isAgg5
  z5 := Tryd.sizeOf5
  v5 := Tryd.zeroValue5
  t9 := Tryd.underlying9
  a9 := Tryd.isAgg9
  z9 := Tryd.sizeOf9
  v9 := Tryd.zeroValue9
  t21 := Tryd.underlying21
  a21 := Tryd.isAgg21
  z21 := Tryd.sizeOf21
  v21 := Tryd.zeroValue21
  t31 := Tryd.underlying81
  a31 := Tryd.isAgg81
  z31 := Tryd.sizeOf81
  v31 := Tryd.zeroValue81
  t46 := Tryd.underlying103
  a46 := Tryd.isAgg103
  z46 := Tryd.sizeOf103
  v46 := Tryd.zeroValue103
  t51 := Tryd.underlying110
  a51 := Tryd.isAgg110
  z51 := Tryd.sizeOf110
  v51 := Tryd.zeroValue110
  t105 := Tryd.underlying127
  a105 := Tryd.isAgg127
  z105 := Tryd.sizeOf127
  v105 := Tryd.zeroValue127
  t119 := Tryd.underlying140
  a119 := Tryd.isAgg140
  z119 := Tryd.sizeOf140
  t138 := Tryd.underlying142
  a138 := Tryd.isAgg142
  z138 := Tryd.sizeOf142
  v138 := Tryd.zeroValue142
  t139 := Tryd.underlying143
  a139 := Tryd.isAgg143
  z139 := Tryd.sizeOf143
  v139 := Tryd.zeroValue143
  t146 := Tryd.underlying111
  a146 := Tryd.isAgg111
  z146 := Tryd.sizeOf111
  v146 := Tryd.zeroValue111
  g1 := by kernel_rfl
  g3 := by kernel_rfl
  g4 := by kernel_rfl }
open Go.RowKit Go.Lib in
/-- strings.Split. (LAID: no walk: one application.) -/
theorem Tryd.strings_Split (s sep : ByteArray) (m : Int) (w : World) (hs : s.size < 4294967281) (hm : w.cell? ⟨0, 0, none⟩ = some (.int .i64 m)) (h1 : 1 ≤ sep.size) :
    Calls Tryd.prog 116 #[.string s, .string sep] w fun e w' =>
      e = .returned (.slice (some ⟨w.heap.size, 0, none⟩) (Lib.countB s sep + 1) (Lib.countB s sep + 1)) ∧ w' = w.alloc (.cells ((Lib.splitB sep 0 (Lib.countB s sep) s).map Value.string).toArray 9) := Any.strings_Split Tryd.lays146 (by kernel_rfl) s sep m w hs hm h1
end Go.Proofs
namespace Go.Proofs.YtnfiljnncpieoaaDoor.Q
open Go.RowKit Go.Proofs.YtnfiljnncpieoaaDoorW.PrintWords Go.Proofs.YtnfiljnncpieoaaDoorW.PrintLast Go.Proofs.YtnfiljnncpieoaaDoorW.PrintMore
def isLt (c : Int) : Bool := (decide (65 ≤ c) && decide (c ≤ 90)) || ((decide (97 ≤ c) && decide (c ≤ 122)) || c == 95)
def isNm (c : Int) : Bool := isLt c || isDg c
def isNl (c : Int) : Bool := !(c == 10)
theorem isLetter_any (c : Int) (w : World) : Calls Tryd.prog 109 #[.int .u8 c] w fun e w' => e = .returned (.bool (isLt c)) ∧ w' = w := by
  have key : ∀ b, isLt c = b → Aside0 (isLt c = b) := fun b h => ⟨h⟩
  by_cases h1 : 65 ≤ c
  · have b1 : decide (65 ≤ c) = true := decide_eq_true h1
    by_cases h2 : c ≤ 90
    · have b2 : decide (c ≤ 90) = true := decide_eq_true h2
      have HF := key true (by simp [isLt, h1, h2])
      clear h1 h2 key
      go_enter Tryd.func109, Tryd.ntmps109
      go_wp2
      go_ret
      exact ⟨by rw [HF.out] <;> rfl, rfl⟩
    · have b2 : decide (c ≤ 90) = false := decide_eq_false h2
      by_cases h3 : 97 ≤ c
      · have b3 : decide (97 ≤ c) = true := decide_eq_true h3
        by_cases h4 : c ≤ 122
        · have b4 : decide (c ≤ 122) = true := decide_eq_true h4
          have HF := key true (by simp [isLt, h3, h4])
          clear h1 h2 h3 h4 key
          go_enter Tryd.func109, Tryd.ntmps109
          go_wp2
          go_ret
          exact ⟨by rw [HF.out] <;> rfl, rfl⟩
        · have b4 : decide (c ≤ 122) = false := decide_eq_false h4
          have HF : Aside0 (isLt c = (c == 95)) := ⟨by simp [isLt, h2, h4]⟩
          clear h1 h2 h3 h4 key
          go_enter Tryd.func109, Tryd.ntmps109
          go_wp2
          go_ret
          exact ⟨by rw [HF.out] <;> rfl, rfl⟩
      · have b3 : decide (97 ≤ c) = false := decide_eq_false h3
        have HF : Aside0 (isLt c = (c == 95)) := ⟨by simp [isLt, h2, h3]⟩
        clear h1 h2 h3 key
        go_enter Tryd.func109, Tryd.ntmps109
        go_wp2
        go_ret
        exact ⟨by rw [HF.out] <;> rfl, rfl⟩
  · have b1 : decide (65 ≤ c) = false := decide_eq_false h1
    have h3 : ¬ 97 ≤ c := by omega
    have b3 : decide (97 ≤ c) = false := decide_eq_false h3
    have HF : Aside0 (isLt c = (c == 95)) := ⟨by simp [isLt, h1, h3]⟩
    clear h1 h3 key
    go_enter Tryd.func109, Tryd.ntmps109
    go_wp2
    go_ret
    exact ⟨by rw [HF.out] <;> rfl, rfl⟩
theorem isNamed_any (c : Int) (w : World) : Calls Tryd.prog 110 #[.int .u8 c] w fun e w' => e = .returned (.bool (isNm c)) ∧ w' = w := by
  have hL := isLetter_any c w
  have hD := isDigit_any c w
  have HF : Aside0 (isNm c = (isLt c || isDg c)) := ⟨rfl⟩
  cases hq : isLt c with
  | true =>
    rw [hq] at hL HF
    clear hq
    go_enter Tryd.func110, Tryd.ntmps110
    go_wp2_with fail
    refine hL.mono ?_
    rintro e w' ⟨rfl, rfl⟩
    go_wp2_with fail
    go_ret
    exact ⟨by rw [HF.out] <;> rfl, rfl⟩
  | false =>
    rw [hq] at hL HF
    clear hq
    go_enter Tryd.func110, Tryd.ntmps110
    go_wp2_with fail
    refine hL.mono ?_
    rintro e w' ⟨rfl, rfl⟩
    go_wp2_with fail
    refine hD.mono ?_
    rintro e w' ⟨rfl, rfl⟩
    go_wp2_with fail
    go_ret
    exact ⟨by rw [HF.out] <;> rfl, rfl⟩
theorem lexNot_any (c : Int) (w : World) : Calls Tryd.prog 77 #[.int .u8 c] w fun e w' => e = .returned (.bool (isNl c)) ∧ w' = w := by
  have HF : Aside0 (isNl c = !(c == 10)) := ⟨rfl⟩
  go_enter Tryd.func77, Tryd.ntmps77
  go_wp2
  go_ret
  exact ⟨by rw [HF.out] <;> rfl, rfl⟩
end Go.Proofs.YtnfiljnncpieoaaDoor.Q
namespace Go.Proofs.YtnfiljnncpieoaaDoor.Q
open Go.Shelf Go.RowKit Go.Proofs.YtnfiljnncpieoaaDoorW.PrintWords Go.Proofs.YtnfiljnncpieoaaDoorW.PrintLast Go.Proofs.YtnfiljnncpieoaaDoorW.PrintMore
def impl_run.f (s : ByteArray) (i : Int) (fn : Nat) : Option Int :=
  if s.size ≤ 9223372036854775807 ∧ 0 ≤ i ∧ i ≤ s.size then (if fn = 75 then some (runN isSp s i.toNat) else if fn = 100 then some (runN isDg s i.toNat)
    else if fn = 110 then some (runN isNm s i.toNat)
    else if fn = 77 then some (runN isNl s i.toNat)
    else none) else none
theorem run_calls (fn : Nat) (p : Int → Bool) (hp : ∀ c w, Calls Tryd.prog fn #[.int .u8 c] w fun e w' => e = .returned (.bool (p c)) ∧ w' = w) (eg : ∀ args w, (callFunc fn args).run Tryd.prog w = .ok (.enter fn args) w)
    (s : ByteArray) (hs : s.size ≤ 9223372036854775807) (i : Nat) (hi : i ≤ s.size) (r : Int) (hr : some ((runN p s i : Nat) : Int) = some r) (w : World) :
    Calls Tryd.prog 76 #[.string s, .int .i64 i, .func (.func fn) #[] #[]] w fun e w' => e = .returned (.int .i64 r) ∧ Drawn0 w w' := by
  obtain rfl := Option.some.inj hr
  exact (run_any fn p hp eg s hs i hi w).mono fun e w' ⟨he, hw⟩ => ⟨he, hw ▸ Drawn0.refl _⟩
theorem impl_run.calls (a0 : ByteArray) (a1 : Int) (a2 : Nat) (r : Int) (w : World) (h : impl_run.f a0 a1 a2 = some r) :
    Calls Tryd.prog 76 #[.string a0, .int .i64 a1, .func (.func a2) #[] #[]] w fun e w' => e = .returned (.int .i64 r) ∧ Drawn0 w w' := by
  unfold impl_run.f at h
  by_cases hb : a0.size ≤ 9223372036854775807 ∧ 0 ≤ a1 ∧ a1 ≤ a0.size
  case neg => rw [if_neg hb] at h; cases h
  rw [if_pos hb] at h
  obtain ⟨hs, h0, h1⟩ := hb
  obtain ⟨i, rfl⟩ := Int.eq_ofNat_of_zero_le h0
  rw [Int.toNat_natCast] at h
  by_cases h2 : a2 = 75
  · rw [if_pos h2] at h
    subst h2
    exact run_calls _ isSp isSpace_any (enters_of Tryd.func75 (by kernel_rfl) rfl) a0 hs i (by omega) r h w
  rw [if_neg h2] at h
  by_cases h3 : a2 = 100
  · rw [if_pos h3] at h
    subst h3
    exact run_calls _ isDg isDigit_any (enters_of Tryd.func100 (by kernel_rfl) rfl) a0 hs i (by omega) r h w
  rw [if_neg h3] at h
  by_cases h4 : a2 = 110
  · rw [if_pos h4] at h
    subst h4
    exact run_calls _ isNm isNamed_any (enters_of Tryd.func110 (by kernel_rfl) rfl) a0 hs i (by omega) r h w
  rw [if_neg h4] at h
  by_cases h5 : a2 = 77
  · rw [if_pos h5] at h
    subst h5
    exact run_calls _ isNl lexNot_any (enters_of Tryd.func77 (by kernel_rfl) rfl) a0 hs i (by omega) r h w
  rw [if_neg h5] at h
  cases h
def strconv_Itoa.f (n : Int) : Option ByteArray := if -9223372036854775808 ≤ n ∧ n ≤ 9223372036854775807 then some ⟨(Lib.itoa n).toArray⟩ else none
theorem below_grow0 (w : World) (k : Nat) (os : Array Obj) : Below w.heap.size w (Go.Sort.grow (w.drewN k) os) :=
  ⟨rfl, rfl, rfl, by show w.heap.size ≤ (w.heap ++ os).size; rw [Array.size_append]; omega, fun j hj => by
    show (w.heap ++ os)[j]? = w.heap[j]?
    rw [Array.getElem?_append_left hj]⟩
theorem strconv_Itoa.calls (a0 : Int) (r : ByteArray) (w : World) (h : strconv_Itoa.f a0 = some r) (hT : Tabs w := by first | assumption | (refine Aside0.out (p := Tabs _) ?_; assumption) | (refine Tabs.below (w := ?ww) (Aside0.out ?ha) ?hb; (case ha => assumption); (case hb => repeat (first | (with_reducible first | exact Below.refl _ _ | (refine Aside0.out ?_; assumption) | apply below_alloc | apply pw_below_drewN | apply below_drew1 | (refine below_set ?_ (Aside0.out ?_); (rotate_left; assumption))) | (refine Aside0.out ?_; assumption)))) | (refine Tabs.drewN (w := ?ww) (Aside0.out ?ha) _; (case ha => assumption))) :
    Calls Tryd.prog 120 #[.int .i64 a0] w fun e w' => e = .returned (.string r) ∧ Below w.heap.size w w' := by
  unfold strconv_Itoa.f at h
  by_cases hb : -9223372036854775808 ≤ a0 ∧ a0 ≤ 9223372036854775807
  · rw [if_pos hb] at h
    obtain rfl := Option.some.inj h
    exact (Tryd.strconv_Itoa a0 hb.1 hb.2 w hT.pow10).mono fun e w' ⟨he, k, os, hw⟩ => ⟨he, hw ▸ below_grow0 w k os⟩
  · rw [if_neg hb] at h; cases h
def strings_IndexByte.f (s : ByteArray) (c : Int) : Option Int := some (Lib.indexByte s.data.toList c.toNat.toUInt8)
theorem strings_IndexByte.calls (a0 : ByteArray) (a1 : Int) (r : Int) (w : World) (h : strings_IndexByte.f a0 a1 = some r) :
    Calls Tryd.prog 122 #[.string a0, .int .u8 a1] w fun e w' => e = .returned (.int .i64 r) ∧ Drawn0 w w' := by
  obtain rfl := Option.some.inj h
  exact (Tryd.strings_IndexByte a0 a1 w).mono fun e w' ⟨he, hw⟩ => ⟨he, hw ▸ Drawn0.refl _⟩
def strings_HasPrefix.f (s p : ByteArray) : Option Bool := some (Lib.hasPrefix s.data.toList p.data.toList)
theorem strings_HasPrefix.calls (a0 a1 : ByteArray) (r : Bool) (w : World) (h : strings_HasPrefix.f a0 a1 = some r) :
    Calls Tryd.prog 117 #[.string a0, .string a1] w fun e w' => e = .returned (.bool r) ∧ Drawn0 w w' := by
  obtain rfl := Option.some.inj h
  exact (Tryd.strings_HasPrefix a0 a1 w).mono fun e w' ⟨he, hw⟩ => ⟨he, hw ▸ Drawn0.refl _⟩
def strings_Split.f (s p : ByteArray) : Option (List ByteArray) := if s.size < 4294967281 ∧ 1 ≤ p.size then some (Lib.splitB p 0 (Lib.countB s p) s) else none
theorem strings_Split.calls (a0 a1 : ByteArray) (r : List ByteArray) (w : World) (h : strings_Split.f a0 a1 = some r) (hT : Tabs w := by first | assumption | (refine Aside0.out (p := Tabs _) ?_; assumption) | (refine Tabs.below (w := ?ww) (Aside0.out ?ha) ?hb; (case ha => assumption); (case hb => repeat (first | (with_reducible first | exact Below.refl _ _ | (refine Aside0.out ?_; assumption) | apply below_alloc | apply pw_below_drewN | apply below_drew1 | (refine below_set ?_ (Aside0.out ?_); (rotate_left; assumption))) | (refine Aside0.out ?_; assumption)))) | (refine Tabs.drewN (w := ?ww) (Aside0.out ?ha) _; (case ha => assumption))) :
    Calls Tryd.prog 116 #[.string a0, .string a1] w fun e w' => ∃ v0_, e = .returned v0_ ∧ Kd.string.R 9 w' w.heap.size (fun _ => True) v0_ r ∧ Below w.heap.size w w' := by
  unfold strings_Split.f at h
  by_cases hs : a0.size < 4294967281 ∧ 1 ≤ a1.size
  · rw [if_pos hs] at h
    obtain rfl := Option.some.inj h
    obtain ⟨m, hm⟩ := hT.maxlen
    refine (Tryd.strings_Split a0 a1 m w hs.1 hm hs.2).mono fun e w' ⟨he, hw⟩ => ⟨_, he, ?_, ?_⟩
    · subst hw
      have hl := Lib.splitB_all a1 hs.2 0 _ a0 rfl
      have hle := Lib.countB_le a1 hs.2 a0.size a0 (Nat.le_refl _)
      refine Kd.R_of_own ?_ (fun _ _ => trivial)
      have e1 : encs Value.string (Lib.splitB a1 0 (Lib.countB a0 a1) a0) = ((Lib.splitB a1 0 (Lib.countB a0 a1) a0).map Value.string) := by simp [encs]
      rw [e1, hl]
      have := World.ownsRow_lit (base := w.heap.size) (e := 9) (size := 1) w ((Lib.splitB a1 0 (Lib.countB a0 a1) a0).map Value.string).toArray (Lib.countB a0 a1 + 1) (Nat.le_refl _) (by unfold maxLen; omega) (by simp [hl])
      simpa using this
    · subst hw
      exact (Below.refl _ _).alloc (Nat.le_refl _) _
  · rw [if_neg hs] at h; cases h
end Go.Proofs.YtnfiljnncpieoaaDoor.Q
namespace Go.Proofs.YtnfiljnncpieoaaDoor.Q
open Go.RowKit Go.Proofs.YtnfiljnncpieoaaDoorW.PrintWords Go.Proofs.YtnfiljnncpieoaaDoorW.PrintLast Go.Proofs.YtnfiljnncpieoaaDoorW.PrintMore
attribute [local go_sem] max2_int min2_int max_two min_two max_three min_three max_four min_four   -- for this text's walks alone
set_option linter.unusedVariables false
set_option linter.unusedSimpArgs false
def spec_l1white.f (a0 : Int) : Option (Bool):=if a0 = 32 then (some true) else (if a0 = 9 then (some true) else (some (a0 == 10)))
set_option maxHeartbeats 8000000 in
set_option maxRecDepth 100000 in
theorem spec_l1white.calls (a0 : Int) (r : Bool) (w : World) (h : spec_l1white.f a0 = some r) :
  Calls Tryd.prog 99 #[.int .u8 a0] w fun e w'=>e = .returned (.bool r) ∧ Drawn0 w w':=by
 have H : (if a0 = 32 then (some true) else (if a0 = 9 then (some true) else (some (a0 == 10)))) = some r:=h
 clear h
 by_cases c2 : a0 = 32
 ·rw [if_pos c2] at H
  have c2b0 : (a0 == 32) = true:=beq_iff_eq.mpr c2
  have c2b1 : (a0 != 32) = false:=bne_eq_false_iff_eq.mpr c2
  clear c2
  obtain rfl:=Option.some.inj H
  go_enter Tryd.func99,Tryd.ntmps99
  go_wp2
  go_ret
  exact ⟨by first|rfl|(simp;done)|(simp [*];done),by repeat (first|exact Drawn0.refl _|apply Drawn0.step)⟩
 ·rw [if_neg c2] at H
  have c2b0 : (a0 == 32) = false:=beq_eq_false_iff_ne.mpr c2
  have c2b1 : (a0 != 32) = true:=bne_iff_ne.mpr c2
  by_cases c3 : a0 = 9
  ·rw [if_pos c3] at H
   have c3b0 : (a0 == 9) = true:=beq_iff_eq.mpr c3
   have c3b1 : (a0 != 9) = false:=bne_eq_false_iff_eq.mpr c3
   clear c3
   obtain rfl:=Option.some.inj H
   go_enter Tryd.func99,Tryd.ntmps99
   go_wp2
   go_ret
   exact ⟨by first|rfl|(simp;done)|(simp [*];done),by repeat (first|exact Drawn0.refl _|apply Drawn0.step)⟩
  ·rw [if_neg c3] at H
   have c3b0 : (a0 == 9) = false:=beq_eq_false_iff_ne.mpr c3
   have c3b1 : (a0 != 9) = true:=bne_iff_ne.mpr c3
   obtain rfl:=Option.some.inj H
   go_enter Tryd.func99,Tryd.ntmps99
   go_wp2
   go_ret
   exact ⟨by first|rfl|(simp;done)|(simp [*];done),by repeat (first|exact Drawn0.refl _|apply Drawn0.step)⟩
def spec_l1skip.l0 : Nat → ByteArray → Int → Option (Int)
 | 0,_,_=>none
 | k + 1,x0,x1=>if x1 < (x0.size : Int) then (if 0 ≤ x1 then ((spec_l1white.f (bt x0 x1)).bind fun t102=>(if t102 = true then (spec_l1skip.l0 k x0 (wrap64 (x1 + 1))) else (some x1))) else (none)) else (some x1)
def spec_l1skip.f (k : Nat) (a0 : ByteArray) (a1 : Int) : Option (Int):=spec_l1skip.l0 k a0 a1
set_option maxHeartbeats 8000000 in
set_option maxRecDepth 100000 in
theorem spec_l1skip.calls (k : Nat) (a0 : ByteArray) (a1 : Int) (r : Int) (w : World) (h : spec_l1skip.f k a0 a1 = some r) :
  Calls Tryd.prog 53 #[.string a0,.int .i64 a1] w fun e w'=>e = .returned (.int .i64 r) ∧ Drawn0 w w':=by
 have H : (spec_l1skip.l0 k a0 a1) = some r:=h
 clear h
 have H':=Aside0.mk H
 clear H
 go_enter Tryd.func53,Tryd.ntmps53
 go_wp2
 go_loopg [1] k (fun kq v1 w'=>∃ (x1_1 : Int),v1 = .int .i64 x1_1 ∧ Aside0 (spec_l1skip.l0 kq a0 x1_1 = some r) ∧ Aside0 (kq ≤ k) ∧ Drawn0 w w')
 case atStart=>exact ⟨(a1),(by first|rfl|(simp;done)|(simp [*];done)),H',⟨Nat.le_refl _⟩,by repeat (first|exact Drawn0.refl _|apply Drawn0.step)⟩
 case round =>
  clear H'
  try clear p2
  obtain ⟨x1_1,rfl,HA,HK1,⟨m1,rfl⟩⟩:=hrel
  cases gk with
  | zero=>exact absurd HA.out (by simp [spec_l1skip.l0])
  | succ k1 =>
   have H:=HA.out
   clear HA
   simp only [spec_l1skip.l0] at H
   by_cases c3 : x1_1 < (a0.size : Int)
   ·rw [if_pos c3] at H
    have c3b0 : decide (x1_1 < (a0.size : Int)) = true:=decide_eq_true c3
    clear c3
    by_cases c4 : 0 ≤ x1_1
    ·rw [if_pos c4] at H
     have c4b0 : decide (0 ≤ x1_1) = true:=decide_eq_true c4
     clear c4
     replace H:=Option.bind_eq_some_iff.mp H
     obtain ⟨t102,A60,H⟩:=H
     replace H : (if t102 = true then (spec_l1skip.l0 k1 a0 (wrap64 (x1_1 + 1))) else (some x1_1)) = some r:=H
     have A6:=Aside0.mk A60
     clear A60
     by_cases c7 : t102 = true
     ·subst c7
      have H1 : (spec_l1skip.l0 k1 a0 (wrap64 (x1_1 + 1))) = some r:=by rw [if_pos rfl] at H;exact H
      clear H
      have H:=H1
      clear H1
      have H':=Aside0.mk H
      clear H
      have p5 : 0 ≤ (x1_1 : Int):=of_decide_eq_true (by first|(with_reducible assumption)|assumption)
      have q5 : x1_1 < (a0.size : Int):=of_decide_eq_true (by first|(with_reducible assumption)|assumption)
      have hx5:=bt_at a0 x1_1
      replace p5:=eq_true p5
      replace q5:=eq_true q5
      go_wp2_with (first|(go_at_call 99;(with_reducible refine (spec_l1white.calls (bt a0 x1_1) true _ A6.out).mono ?_);rintro e w' ⟨rfl,⟨nd,rfl⟩⟩))
      go_roundg k1
      case measure=>have:=HK1.out;omega
      case rel=>exact ⟨(wrap64 (x1_1 + 1)),(by first|rfl|(simp;done)|(simp [*];done)),H',⟨by have:=HK1.out;omega⟩,by repeat (first|exact Drawn0.refl _|apply Drawn0.step)⟩
     ·replace c7:=Bool.eq_false_iff.mpr c7
      subst c7
      have H1 : (some x1_1) = some r:=by rw [if_neg (show ¬ (false = true) by decide)] at H;exact H
      clear H
      have H:=H1
      clear H1
      obtain rfl:=Option.some.inj H
      have p5 : 0 ≤ (x1_1 : Int):=of_decide_eq_true (by first|(with_reducible assumption)|assumption)
      have q5 : x1_1 < (a0.size : Int):=of_decide_eq_true (by first|(with_reducible assumption)|assumption)
      have hx5:=bt_at a0 x1_1
      replace p5:=eq_true p5
      replace q5:=eq_true q5
      go_wp2_with (first|(go_at_call 99;(with_reducible refine (spec_l1white.calls (bt a0 x1_1) false _ A6.out).mono ?_);rintro e w' ⟨rfl,⟨nd,rfl⟩⟩))
      go_ret
      exact ⟨by first|rfl|(simp;done)|(simp [*];done),by repeat (first|exact Drawn0.refl _|apply Drawn0.step)⟩
    ·rw [if_neg c4] at H
     exact absurd H (by simp)
   ·rw [if_neg c3] at H
    have c3b0 : decide (x1_1 < (a0.size : Int)) = false:=decide_eq_false c3
    clear c3
    obtain rfl:=Option.some.inj H
    go_wp2
    go_ret
    exact ⟨by first|rfl|(simp;done)|(simp [*];done),by repeat (first|exact Drawn0.refl _|apply Drawn0.step)⟩
def spec_l1digit.f (a0 : Int) : Option (Bool):=if a0 ≥ 48 then (some (decide (a0 ≤ 57))) else (some false)
set_option maxHeartbeats 8000000 in
set_option maxRecDepth 100000 in
theorem spec_l1digit.calls (a0 : Int) (r : Bool) (w : World) (h : spec_l1digit.f a0 = some r) :
  Calls Tryd.prog 54 #[.int .u8 a0] w fun e w'=>e = .returned (.bool r) ∧ Drawn0 w w':=by
 have H : (if a0 ≥ 48 then (some (decide (a0 ≤ 57))) else (some false)) = some r:=h
 clear h
 by_cases c2 : a0 ≥ 48
 ·rw [if_pos c2] at H
  have c2b0 : decide (48 ≤ a0) = true:=decide_eq_true c2
  clear c2
  obtain rfl:=Option.some.inj H
  go_enter Tryd.func54,Tryd.ntmps54
  go_wp2
  go_ret
  exact ⟨by first|rfl|(simp;done)|(simp [*];done),by repeat (first|exact Drawn0.refl _|apply Drawn0.step)⟩
 ·rw [if_neg c2] at H
  have c2b0 : decide (48 ≤ a0) = false:=decide_eq_false c2
  clear c2
  obtain rfl:=Option.some.inj H
  go_enter Tryd.func54,Tryd.ntmps54
  go_wp2
  go_ret
  exact ⟨by first|rfl|(simp;done)|(simp [*];done),by repeat (first|exact Drawn0.refl _|apply Drawn0.step)⟩
mutual
def spec_ReadDec.j0 : Nat → ByteArray → Int → Bool → Bool → Option (Int × Int)
 | 0,_,_,_,_=>none
 | k + 1,x0,x4,x5,x26=>if x26 = true then (if 0 ≤ x4 then (if x4 < (x0.size : Int) then (spec_ReadDec.j1 k x0 (wrap64 (x4 + 1)) ((bt x0 x4) == 45)) else (none)) else (none)) else (spec_ReadDec.j1 k x0 x4 x5)
def spec_ReadDec.j1 : Nat → ByteArray → Int → Bool → Option (Int × Int)
 | 0,_,_,_=>none
 | k + 1,x0,x4,x5=>spec_ReadDec.l0 k x0 x4 x5 0 0
def spec_ReadDec.l0 : Nat → ByteArray → Int → Bool → Int → Int → Option (Int × Int)
 | 0,_,_,_,_,_=>none
 | k + 1,x0,x4,x5,x6,x7=>if x4 < (x0.size : Int) then (if 0 ≤ x4 then ((spec_l1digit.f (bt x0 x4)).bind fun t104=>(spec_ReadDec.j3 k x0 x4 x5 x6 x7 t104)) else (none)) else (spec_ReadDec.j3 k x0 x4 x5 x6 x7 false)
def spec_ReadDec.j3 : Nat → ByteArray → Int → Bool → Int → Int → Bool → Option (Int × Int)
 | 0,_,_,_,_,_,_=>none
 | k + 1,x0,x4,x5,x6,x7,x42=>if x42 = true then (if 0 ≤ x4 then (if x4 < (x0.size : Int) then (if (wrap64 ((wrap64 (x6 * 10)) + ((((bt x0 x4) - 48) % 256) * 1000000))) > 9000000000000 then (spec_ReadDec.l0 k x0 (wrap64 (x4 + 1)) x5 9000000000001 (wrap64 (x7 + 1))) else (spec_ReadDec.l0 k x0 (wrap64 (x4 + 1)) x5 (wrap64 ((wrap64 (x6 * 10)) + ((((bt x0 x4) - 48) % 256) * 1000000))) (wrap64 (x7 + 1)))) else (none)) else (none)) else (if x4 < (x0.size : Int) then (if 0 ≤ x4 then (if (bt x0 x4) = 46 then (if x7 > 0 then (spec_ReadDec.j4 k x0 x4 x5 x6 x7 true) else (if (wrap64 (x4 + 1)) < (x0.size : Int) then (if 0 ≤ (wrap64 (x4 + 1)) then ((spec_l1digit.f (bt x0 (wrap64 (x4 + 1)))).bind fun t105=>(spec_ReadDec.j4 k x0 x4 x5 x6 x7 t105)) else (none)) else (spec_ReadDec.j4 k x0 x4 x5 x6 x7 false))) else (spec_ReadDec.j4 k x0 x4 x5 x6 x7 false)) else (none)) else (spec_ReadDec.j4 k x0 x4 x5 x6 x7 false))
def spec_ReadDec.j4 : Nat → ByteArray → Int → Bool → Int → Int → Bool → Option (Int × Int)
 | 0,_,_,_,_,_,_=>none
 | k + 1,x0,x4,x5,x6,x7,x85=>if x85 = true then (spec_ReadDec.l1 k x0 (wrap64 (x4 + 1)) x5 x6 x7 100000) else (spec_ReadDec.j6 k x4 x5 x6 x7)
def spec_ReadDec.j6 : Nat → Int → Bool → Int → Int → Option (Int × Int)
 | 0,_,_,_,_=>none
 | k + 1,x4,x5,x6,x7=>if x7 = 0 then (some (0,0)) else (if x6 > 9000000000000 then (if x5 = true then (some (-9000000000000,x4)) else (some (9000000000000,x4))) else (if x5 = true then (some (wrap64 (-x6),x4)) else (some (x6,x4))))
def spec_ReadDec.l1 : Nat → ByteArray → Int → Bool → Int → Int → Int → Option (Int × Int)
 | 0,_,_,_,_,_,_=>none
 | k + 1,x0,x4,x5,x6,x7,x8=>if x4 < (x0.size : Int) then (if 0 ≤ x4 then ((spec_l1digit.f (bt x0 x4)).bind fun t106=>(if t106 = true then (spec_ReadDec.l1 k x0 (wrap64 (x4 + 1)) x5 (wrap64 (x6 + (wrap64 ((((bt x0 x4) - 48) % 256) * x8)))) (wrap64 (x7 + 1)) (wrap64 (Int.tdiv x8 10))) else (spec_ReadDec.j6 k x4 x5 x6 x7))) else (none)) else (spec_ReadDec.j6 k x4 x5 x6 x7)
end
def spec_ReadDec.f (k : Nat) (a0 : ByteArray) : Option (Int × Int):=(spec_l1skip.f k a0 0).bind fun t103=>(if t103 < (a0.size : Int) then (if 0 ≤ t103 then (if (bt a0 t103) = 43 then (spec_ReadDec.j0 k a0 t103 false true) else (spec_ReadDec.j0 k a0 t103 false ((bt a0 t103) == 45))) else (none)) else (spec_ReadDec.j0 k a0 t103 false false))
set_option maxHeartbeats 8000000 in
set_option maxRecDepth 100000 in
theorem spec_ReadDec.calls (k : Nat) (a0 : ByteArray) (r1 : Int) (r2 : Int) (w : World) (h : spec_ReadDec.f k a0 = some (r1,r2)) :
  Calls Tryd.prog 19 #[.string a0] w fun e w'=>e = .returned (.tuple #[.int .i64 r1,.int .i64 r2]) ∧ Drawn0 w w':=by
 have H : ((spec_l1skip.f k a0 0).bind fun t103=>(if t103 < (a0.size : Int) then (if 0 ≤ t103 then (if (bt a0 t103) = 43 then (spec_ReadDec.j0 k a0 t103 false true) else (spec_ReadDec.j0 k a0 t103 false ((bt a0 t103) == 45))) else (none)) else (spec_ReadDec.j0 k a0 t103 false false))) = some (r1,r2):=h
 clear h
 replace H:=Option.bind_eq_some_iff.mp H
 obtain ⟨t103,A20,H⟩:=H
 replace H : (if t103 < (a0.size : Int) then (if 0 ≤ t103 then (if (bt a0 t103) = 43 then (spec_ReadDec.j0 k a0 t103 false true) else (spec_ReadDec.j0 k a0 t103 false ((bt a0 t103) == 45))) else (none)) else (spec_ReadDec.j0 k a0 t103 false false)) = some (r1,r2):=H
 have A2:=Aside0.mk A20
 clear A20
 have HC3:=Aside0.mk H
 clear H
 go_enter Tryd.func19,Tryd.ntmps19
 go_upto_region 3 with (first|((with_reducible refine gate_callee (f:=53) rfl ?_);refine goesL_ (some 10) rfl rfl Tryd.func53 (by kernel_rfl) rfl #[.string a0,.int .i64 0] rfl (by (try simp only [List.map_toArray,List.map_cons,List.map_nil]);first|done|rfl|(simp only [List.length_drop,List.length_take];rfl)) ?_;(with_reducible refine (spec_l1skip.calls k a0 0 t103 _ A2.out).mono ?_);rintro e w' ⟨rfl,⟨nd,rfl⟩⟩;refine ⟨_,rfl,?_⟩))
 (try simp only [Act.put,List.setIfInBounds_toArray,List.set_cons_zero,List.set_cons_succ])
 go_cut [26] (fun v26 wc=>∃ (kq : Nat) (x26_2 : Bool),v26 = .bool x26_2 ∧ Aside0 (spec_ReadDec.j0 kq a0 t103 false x26_2 = some (r1,r2)) ∧ Aside0 (kq ≤ k) ∧ Drawn0 w wc)
 case first =>
  have H:=HC3.out
  clear HC3
  by_cases c4 : t103 < (a0.size : Int)
  ·rw [if_pos c4] at H
   have c4b0 : decide (t103 < (a0.size : Int)) = true:=decide_eq_true c4
   clear c4
   (first|rw [c4b0]|(simp only [i64_w,i32_w];rw [c4b0])|skip)
   by_cases c5 : 0 ≤ t103
   ·rw [if_pos c5] at H
    have c5b0 : decide (0 ≤ t103) = true:=decide_eq_true c5
    clear c5
    by_cases c7 : (bt a0 t103) = 43
    ·rw [if_pos c7] at H
     have c7b0 : ((bt a0 t103) == 43) = true:=beq_iff_eq.mpr c7
     have c7b1 : ((bt a0 t103) != 43) = false:=bne_eq_false_iff_eq.mpr c7
     clear c7
     have H':=Aside0.mk H
     clear H
     have p6 : 0 ≤ (t103 : Int):=of_decide_eq_true (by first|(with_reducible assumption)|assumption)
     have q6 : t103 < (a0.size : Int):=of_decide_eq_true (by first|(with_reducible assumption)|assumption)
     have hx6:=bt_at a0 t103
     replace p6:=eq_true p6
     replace q6:=eq_true q6
     go_wp2
     go_meet
     case rel=>exact ⟨_,(true),(by first|rfl|(simp;done)|(simp [*];done)),H',⟨by first|omega|exact Nat.le_refl _⟩,by repeat (first|exact Drawn0.refl _|apply Drawn0.step)⟩
    ·rw [if_neg c7] at H
     have c7b0 : ((bt a0 t103) == 43) = false:=beq_eq_false_iff_ne.mpr c7
     have c7b1 : ((bt a0 t103) != 43) = true:=bne_iff_ne.mpr c7
     have H':=Aside0.mk H
     clear H
     have p6 : 0 ≤ (t103 : Int):=of_decide_eq_true (by first|(with_reducible assumption)|assumption)
     have q6 : t103 < (a0.size : Int):=of_decide_eq_true (by first|(with_reducible assumption)|assumption)
     have hx6:=bt_at a0 t103
     replace p6:=eq_true p6
     replace q6:=eq_true q6
     have p8 : 0 ≤ (t103 : Int):=of_decide_eq_true (by first|(with_reducible assumption)|assumption)
     have q8 : t103 < (a0.size : Int):=of_decide_eq_true (by first|(with_reducible assumption)|assumption)
     have hx8:=bt_at a0 t103
     replace p8:=eq_true p8
     replace q8:=eq_true q8
     go_wp2
     go_meet
     case rel=>exact ⟨_,(((bt a0 t103) == 45)),(by first|rfl|(simp;done)|(simp [*];done)),H',⟨by first|omega|exact Nat.le_refl _⟩,by repeat (first|exact Drawn0.refl _|apply Drawn0.step)⟩
   ·rw [if_neg c5] at H
    exact absurd H (by simp)
  ·rw [if_neg c4] at H
   have c4b0 : decide (t103 < (a0.size : Int)) = false:=decide_eq_false c4
   clear c4
   (first|rw [c4b0]|(simp only [i64_w,i32_w];rw [c4b0])|skip)
   have H':=Aside0.mk H
   clear H
   go_wp2
   go_meet
   case rel=>exact ⟨_,(false),(by first|rfl|(simp;done)|(simp [*];done)),H',⟨by first|omega|exact Nat.le_refl _⟩,by repeat (first|exact Drawn0.refl _|apply Drawn0.step)⟩
 case rest =>
  clear HC3
  try clear c1
  try clear p2
  try clear c4
  try clear c4b0
  try clear c5
  try clear c5b0
  try clear p6
  try clear q6
  try clear hx6
  try clear c7
  try clear c7b0
  try clear c7b1
  try clear p8
  try clear q8
  try clear hx8
  try clear p6
  try clear p8
  try clear q6
  try clear q8
  obtain ⟨kq,x26_2,rfl,HA,HJ2,⟨mc2,rfl⟩⟩:=hcut
  cases kq with
  | zero=>exact absurd HA.out (by simp [spec_ReadDec.j0])
  | succ kj2 =>
   have H:=HA.out
   clear HA
   simp only [spec_ReadDec.j0] at H
   have HC9:=Aside0.mk H
   clear H
   go_upto_if 26 with (fail)
   go_cut [4,5] (fun v4 v5 wc=>∃ (kq : Nat) (x4_8 : Int) (x5_8 : Bool),v4 = .int .i64 x4_8 ∧ v5 = .bool x5_8 ∧ Aside0 (spec_ReadDec.j1 kq a0 x4_8 x5_8 = some (r1,r2)) ∧ Aside0 (kq ≤ kj2) ∧ Drawn0 w wc)
   case first =>
    have H:=HC9.out
    clear HC9
    by_cases c10 : x26_2 = true
    ·subst c10
     have H1 : (if 0 ≤ t103 then (if t103 < (a0.size : Int) then (spec_ReadDec.j1 kj2 a0 (wrap64 (t103 + 1)) ((bt a0 t103) == 45)) else (none)) else (none)) = some (r1,r2):=by rw [if_pos rfl] at H;exact H
     clear H
     have H:=H1
     clear H1
     by_cases c11 : 0 ≤ t103
     ·rw [if_pos c11] at H
      have c11b0 : decide (0 ≤ t103) = true:=decide_eq_true c11
      clear c11
      (first|rw [c11b0]|(simp only [i64_w,i32_w];rw [c11b0])|skip)
      by_cases c12 : t103 < (a0.size : Int)
      ·rw [if_pos c12] at H
       have c12b0 : decide (t103 < (a0.size : Int)) = true:=decide_eq_true c12
       clear c12
       have H':=Aside0.mk H
       clear H
       have p13 : 0 ≤ (t103 : Int):=of_decide_eq_true (by first|(with_reducible assumption)|assumption)
       have q13 : t103 < (a0.size : Int):=of_decide_eq_true (by first|(with_reducible assumption)|assumption)
       have hx13:=bt_at a0 t103
       replace p13:=eq_true p13
       replace q13:=eq_true q13
       go_wp2
       go_meet
       case rel=>exact ⟨_,(wrap64 (t103 + 1)),(((bt a0 t103) == 45)),(by first|rfl|(simp;done)|(simp [*];done)),(by first|rfl|(simp;done)|(simp [*];done)),H',⟨by have:=HJ2.out;first|omega|exact Nat.le_refl _⟩,by repeat (first|exact Drawn0.refl _|apply Drawn0.step)⟩
      ·rw [if_neg c12] at H
       exact absurd H (by simp)
     ·rw [if_neg c11] at H
      exact absurd H (by simp)
    ·replace c10:=Bool.eq_false_iff.mpr c10
     subst c10
     have H1 : (spec_ReadDec.j1 kj2 a0 t103 false) = some (r1,r2):=by rw [if_neg (show ¬ (false = true) by decide)] at H;exact H
     clear H
     have H:=H1
     clear H1
     have H':=Aside0.mk H
     clear H
     go_wp2
     go_meet
     case rel=>exact ⟨_,(t103),(false),(by first|rfl|(simp;done)|(simp [*];done)),(by first|rfl|(simp;done)|(simp [*];done)),H',⟨by have:=HJ2.out;first|omega|exact Nat.le_refl _⟩,by repeat (first|exact Drawn0.refl _|apply Drawn0.step)⟩
   case rest =>
    clear HC9
    try clear c1
    try clear p1
    try clear q1
    try clear hx1
    try clear c2
    try clear p2
    try clear c4
    try clear c4b0
    try clear c5
    try clear c5b0
    try clear p6
    try clear q6
    try clear hx6
    try clear c7
    try clear c7b0
    try clear c7b1
    try clear p8
    try clear q8
    try clear hx8
    try clear c10
    try clear c11
    try clear c11b0
    try clear c12
    try clear c12b0
    try clear p13
    try clear q13
    try clear hx13
    try clear p13
    try clear p2
    try clear p6
    try clear p8
    try clear q13
    try clear q6
    try clear q8
    obtain ⟨kq,x4_8,x5_8,rfl,rfl,HA,HJ8,⟨mc8,rfl⟩⟩:=hcut
    cases kq with
    | zero=>exact absurd HA.out (by simp [spec_ReadDec.j1])
    | succ kj8 =>
     have H:=HA.out
     clear HA
     simp only [spec_ReadDec.j1] at H
     have H':=Aside0.mk H
     clear H
     go_wp2
     go_loopg [4,6,7] kj8 (fun kq v4 v6 v7 w'=>∃ (x4_3 : Int) (x6_3 : Int) (x7_3 : Int),v4 = .int .i64 x4_3 ∧ v6 = .int .i64 x6_3 ∧ v7 = .int .i64 x7_3 ∧ Aside0 (spec_ReadDec.l0 kq a0 x4_3 x5_8 x6_3 x7_3 = some (r1,r2)) ∧ Aside0 (kq ≤ kj8) ∧ Drawn0 w w')
     case atStart=>exact ⟨(x4_8),(0),(0),(by first|rfl|(simp;done)|(simp [*];done)),(by first|rfl|(simp;done)|(simp [*];done)),(by first|rfl|(simp;done)|(simp [*];done)),H',⟨Nat.le_refl _⟩,by repeat (first|exact Drawn0.refl _|apply Drawn0.step)⟩
     case round =>
      clear H'
      try clear c1
      try clear p1
      try clear q1
      try clear hx1
      try clear c2
      try clear p2
      try clear c4
      try clear c4b0
      try clear c5
      try clear c5b0
      try clear p6
      try clear q6
      try clear hx6
      try clear c7
      try clear c7b0
      try clear c7b1
      try clear c8
      try clear p8
      try clear q8
      try clear hx8
      try clear c10
      try clear c11
      try clear c11b0
      try clear c12
      try clear c12b0
      try clear p13
      try clear q13
      try clear hx13
      try clear p1
      try clear p13
      try clear p2
      try clear p6
      try clear p8
      try clear q1
      try clear q13
      try clear q6
      try clear q8
      obtain ⟨x4_3,x6_3,x7_3,rfl,rfl,rfl,HA,HK3,⟨m3,rfl⟩⟩:=hrel
      cases gk with
      | zero=>exact absurd HA.out (by simp [spec_ReadDec.l0])
      | succ k3 =>
       have H:=HA.out
       clear HA
       simp only [spec_ReadDec.l0] at H
       have HC14:=Aside0.mk H
       clear H
       go_upto_region 8 with (fail)
       go_cut [42] (fun v42 wc=>∃ (kq : Nat) (x42_13 : Bool),v42 = .bool x42_13 ∧ Aside0 (spec_ReadDec.j3 kq a0 x4_3 x5_8 x6_3 x7_3 x42_13 = some (r1,r2)) ∧ Aside0 (kq ≤ k3) ∧ Drawn0 w wc)
       case first =>
        have H:=HC14.out
        clear HC14
        by_cases c15 : x4_3 < (a0.size : Int)
        ·rw [if_pos c15] at H
         have c15b0 : decide (x4_3 < (a0.size : Int)) = true:=decide_eq_true c15
         clear c15
         (first|rw [c15b0]|(simp only [i64_w,i32_w];rw [c15b0])|skip)
         by_cases c16 : 0 ≤ x4_3
         ·rw [if_pos c16] at H
          have c16b0 : decide (0 ≤ x4_3) = true:=decide_eq_true c16
          clear c16
          replace H:=Option.bind_eq_some_iff.mp H
          obtain ⟨t104,A180,H⟩:=H
          replace H : (spec_ReadDec.j3 k3 a0 x4_3 x5_8 x6_3 x7_3 t104) = some (r1,r2):=H
          have A18:=Aside0.mk A180
          clear A180
          have H':=Aside0.mk H
          clear H
          have p17 : 0 ≤ (x4_3 : Int):=of_decide_eq_true (by first|(with_reducible assumption)|assumption)
          have q17 : x4_3 < (a0.size : Int):=of_decide_eq_true (by first|(with_reducible assumption)|assumption)
          have hx17:=bt_at a0 x4_3
          replace p17:=eq_true p17
          replace q17:=eq_true q17
          go_wp2_with (first|(go_at_call 54;(with_reducible refine (spec_l1digit.calls (bt a0 x4_3) t104 _ A18.out).mono ?_);rintro e w' ⟨rfl,⟨nd,rfl⟩⟩))
          go_meet
          case rel=>exact ⟨_,(t104),(by first|rfl|(simp;done)|(simp [*];done)),H',⟨by have:=HJ2.out;have:=HJ8.out;have:=HK3.out;first|omega|exact Nat.le_refl _⟩,by repeat (first|exact Drawn0.refl _|apply Drawn0.step)⟩
         ·rw [if_neg c16] at H
          exact absurd H (by simp)
        ·rw [if_neg c15] at H
         have c15b0 : decide (x4_3 < (a0.size : Int)) = false:=decide_eq_false c15
         clear c15
         (first|rw [c15b0]|(simp only [i64_w,i32_w];rw [c15b0])|skip)
         have H':=Aside0.mk H
         clear H
         go_wp2
         go_meet
         case rel=>exact ⟨_,(false),(by first|rfl|(simp;done)|(simp [*];done)),H',⟨by have:=HJ2.out;have:=HJ8.out;have:=HK3.out;first|omega|exact Nat.le_refl _⟩,by repeat (first|exact Drawn0.refl _|apply Drawn0.step)⟩
       case rest =>
        clear HC14
        try clear c1
        try clear p1
        try clear q1
        try clear hx1
        try clear c2
        try clear p2
        try clear c4
        try clear c4b0
        try clear c5
        try clear c5b0
        try clear p6
        try clear q6
        try clear hx6
        try clear c7
        try clear c7b0
        try clear c7b1
        try clear c8
        try clear p8
        try clear q8
        try clear hx8
        try clear c10
        try clear c11
        try clear c11b0
        try clear c12
        try clear c12b0
        try clear p13
        try clear q13
        try clear hx13
        try clear c15
        try clear c15b0
        try clear c16
        try clear c16b0
        try clear p17
        try clear q17
        try clear hx17
        try clear p1
        try clear p13
        try clear p17
        try clear p2
        try clear p6
        try clear p8
        try clear q1
        try clear q13
        try clear q17
        try clear q6
        try clear q8
        obtain ⟨kq,x42_13,rfl,HA,HJ13,⟨mc13,rfl⟩⟩:=hcut
        cases kq with
        | zero=>exact absurd HA.out (by simp [spec_ReadDec.j3])
        | succ kj13 =>
         have H:=HA.out
         clear HA
         simp only [spec_ReadDec.j3] at H
         by_cases c19 : x42_13 = true
         ·subst c19
          have H1 : (if 0 ≤ x4_3 then (if x4_3 < (a0.size : Int) then (if (wrap64 ((wrap64 (x6_3 * 10)) + ((((bt a0 x4_3) - 48) % 256) * 1000000))) > 9000000000000 then (spec_ReadDec.l0 kj13 a0 (wrap64 (x4_3 + 1)) x5_8 9000000000001 (wrap64 (x7_3 + 1))) else (spec_ReadDec.l0 kj13 a0 (wrap64 (x4_3 + 1)) x5_8 (wrap64 ((wrap64 (x6_3 * 10)) + ((((bt a0 x4_3) - 48) % 256) * 1000000))) (wrap64 (x7_3 + 1)))) else (none)) else (none)) = some (r1,r2):=by rw [if_pos rfl] at H;exact H
          clear H
          have H:=H1
          clear H1
          by_cases c20 : 0 ≤ x4_3
          ·rw [if_pos c20] at H
           have c20b0 : decide (0 ≤ x4_3) = true:=decide_eq_true c20
           clear c20
           by_cases c21 : x4_3 < (a0.size : Int)
           ·rw [if_pos c21] at H
            have c21b0 : decide (x4_3 < (a0.size : Int)) = true:=decide_eq_true c21
            clear c21
            by_cases c23 : (wrap64 ((wrap64 (x6_3 * 10)) + ((((bt a0 x4_3) - 48) % 256) * 1000000))) > 9000000000000
            ·rw [if_pos c23] at H
             have c23b0 : decide (9000000000000 < (wrap64 ((wrap64 (x6_3 * 10)) + ((((bt a0 x4_3) - 48) % 256) * 1000000)))) = true:=decide_eq_true c23
             clear c23
             have H':=Aside0.mk H
             clear H
             have p22 : 0 ≤ (x4_3 : Int):=of_decide_eq_true (by first|(with_reducible assumption)|assumption)
             have q22 : x4_3 < (a0.size : Int):=of_decide_eq_true (by first|(with_reducible assumption)|assumption)
             have hx22:=bt_at a0 x4_3
             replace p22:=eq_true p22
             replace q22:=eq_true q22
             go_wp2
             go_roundg kj13
             case measure=>have:=HJ2.out;have:=HJ8.out;have:=HK3.out;have:=HJ13.out;omega
             case rel=>exact ⟨(wrap64 (x4_3 + 1)),(9000000000001),(wrap64 (x7_3 + 1)),(by first|rfl|(simp;done)|(simp [*];done)),(by first|rfl|(simp;done)|(simp [*];done)),(by first|rfl|(simp;done)|(simp [*];done)),H',⟨by have:=HJ2.out;have:=HJ8.out;have:=HK3.out;have:=HJ13.out;omega⟩,by repeat (first|exact Drawn0.refl _|apply Drawn0.step)⟩
            ·rw [if_neg c23] at H
             have c23b0 : decide (9000000000000 < (wrap64 ((wrap64 (x6_3 * 10)) + ((((bt a0 x4_3) - 48) % 256) * 1000000)))) = false:=decide_eq_false c23
             clear c23
             have H':=Aside0.mk H
             clear H
             have p22 : 0 ≤ (x4_3 : Int):=of_decide_eq_true (by first|(with_reducible assumption)|assumption)
             have q22 : x4_3 < (a0.size : Int):=of_decide_eq_true (by first|(with_reducible assumption)|assumption)
             have hx22:=bt_at a0 x4_3
             replace p22:=eq_true p22
             replace q22:=eq_true q22
             go_wp2
             go_roundg kj13
             case measure=>have:=HJ2.out;have:=HJ8.out;have:=HK3.out;have:=HJ13.out;omega
             case rel=>exact ⟨(wrap64 (x4_3 + 1)),(wrap64 ((wrap64 (x6_3 * 10)) + ((((bt a0 x4_3) - 48) % 256) * 1000000))),(wrap64 (x7_3 + 1)),(by first|rfl|(simp;done)|(simp [*];done)),(by first|rfl|(simp;done)|(simp [*];done)),(by first|rfl|(simp;done)|(simp [*];done)),H',⟨by have:=HJ2.out;have:=HJ8.out;have:=HK3.out;have:=HJ13.out;omega⟩,by repeat (first|exact Drawn0.refl _|apply Drawn0.step)⟩
           ·rw [if_neg c21] at H
            exact absurd H (by simp)
          ·rw [if_neg c20] at H
           exact absurd H (by simp)
         ·replace c19:=Bool.eq_false_iff.mpr c19
          subst c19
          have H1 : (if x4_3 < (a0.size : Int) then (if 0 ≤ x4_3 then (if (bt a0 x4_3) = 46 then (if x7_3 > 0 then (spec_ReadDec.j4 kj13 a0 x4_3 x5_8 x6_3 x7_3 true) else (if (wrap64 (x4_3 + 1)) < (a0.size : Int) then (if 0 ≤ (wrap64 (x4_3 + 1)) then ((spec_l1digit.f (bt a0 (wrap64 (x4_3 + 1)))).bind fun t105=>(spec_ReadDec.j4 kj13 a0 x4_3 x5_8 x6_3 x7_3 t105)) else (none)) else (spec_ReadDec.j4 kj13 a0 x4_3 x5_8 x6_3 x7_3 false))) else (spec_ReadDec.j4 kj13 a0 x4_3 x5_8 x6_3 x7_3 false)) else (none)) else (spec_ReadDec.j4 kj13 a0 x4_3 x5_8 x6_3 x7_3 false)) = some (r1,r2):=by rw [if_neg (show ¬ (false = true) by decide)] at H;exact H
          clear H
          have H:=H1
          clear H1
          have HC24:=Aside0.mk H
          clear H
          go_upto_region 14 with (fail)
          go_cut [85] (fun v85 wc=>∃ (kq : Nat) (x85_23 : Bool),v85 = .bool x85_23 ∧ Aside0 (spec_ReadDec.j4 kq a0 x4_3 x5_8 x6_3 x7_3 x85_23 = some (r1,r2)) ∧ Aside0 (kq ≤ kj13) ∧ Drawn0 w wc)
          case first =>
           have H:=HC24.out
           clear HC24
           by_cases c25 : x4_3 < (a0.size : Int)
           ·rw [if_pos c25] at H
            have c25b0 : decide (x4_3 < (a0.size : Int)) = true:=decide_eq_true c25
            clear c25
            (first|rw [c25b0]|(simp only [i64_w,i32_w];rw [c25b0])|skip)
            by_cases c26 : 0 ≤ x4_3
            ·rw [if_pos c26] at H
             have c26b0 : decide (0 ≤ x4_3) = true:=decide_eq_true c26
             clear c26
             by_cases c28 : (bt a0 x4_3) = 46
             ·rw [if_pos c28] at H
              have c28b0 : ((bt a0 x4_3) == 46) = true:=beq_iff_eq.mpr c28
              have c28b1 : ((bt a0 x4_3) != 46) = false:=bne_eq_false_iff_eq.mpr c28
              clear c28
              by_cases c29 : x7_3 > 0
              ·rw [if_pos c29] at H
               have c29b0 : decide (0 < x7_3) = true:=decide_eq_true c29
               clear c29
               have H':=Aside0.mk H
               clear H
               have p27 : 0 ≤ (x4_3 : Int):=of_decide_eq_true (by first|(with_reducible assumption)|assumption)
               have q27 : x4_3 < (a0.size : Int):=of_decide_eq_true (by first|(with_reducible assumption)|assumption)
               have hx27:=bt_at a0 x4_3
               replace p27:=eq_true p27
               replace q27:=eq_true q27
               go_wp2
               go_meet
               case rel=>exact ⟨_,(true),(by first|rfl|(simp;done)|(simp [*];done)),H',⟨by have:=HJ2.out;have:=HJ8.out;have:=HK3.out;have:=HJ13.out;first|omega|exact Nat.le_refl _⟩,by repeat (first|exact Drawn0.refl _|apply Drawn0.step)⟩
              ·rw [if_neg c29] at H
               have c29b0 : decide (0 < x7_3) = false:=decide_eq_false c29
               clear c29
               by_cases c30 : (wrap64 (x4_3 + 1)) < (a0.size : Int)
               ·rw [if_pos c30] at H
                have c30b0 : decide ((wrap64 (x4_3 + 1)) < (a0.size : Int)) = true:=decide_eq_true c30
                clear c30
                obtain ⟨ji31,hji31⟩ : ∃ j_ : Int,(wrap64 (x4_3 + 1)) = j_:=⟨_,rfl⟩
                replace H : (if 0 ≤ (ji31) then ((spec_l1digit.f (bt a0 (ji31))).bind fun t105=>(spec_ReadDec.j4 kj13 a0 x4_3 x5_8 x6_3 x7_3 t105)) else (none)) = some (r1,r2):=by first|(rw [hji31] at H;exact H)|(simp only [hji31] at H ⊢;exact H)
                (try rw [hji31] at c30b0)
                have hji31w : (IntKind.i64.wrap (x4_3 + 1)) = ji31:=(i64_w _).trans hji31
                by_cases c32 : 0 ≤ (ji31)
                ·rw [if_pos c32] at H
                 have c32b0 : decide (0 ≤ (ji31)) = true:=decide_eq_true c32
                 clear c32
                 replace H:=Option.bind_eq_some_iff.mp H
                 obtain ⟨t105,A340,H⟩:=H
                 replace H : (spec_ReadDec.j4 kj13 a0 x4_3 x5_8 x6_3 x7_3 t105) = some (r1,r2):=H
                 have A34:=Aside0.mk A340
                 clear A340
                 have H':=Aside0.mk H
                 clear H
                 have p27 : 0 ≤ (x4_3 : Int):=of_decide_eq_true (by first|(with_reducible assumption)|assumption)
                 have q27 : x4_3 < (a0.size : Int):=of_decide_eq_true (by first|(with_reducible assumption)|assumption)
                 have hx27:=bt_at a0 x4_3
                 replace p27:=eq_true p27
                 replace q27:=eq_true q27
                 have p33 : 0 ≤ ((ji31) : Int):=of_decide_eq_true (by first|(with_reducible assumption)|assumption)
                 have q33 : (ji31) < (a0.size : Int):=of_decide_eq_true (by first|(with_reducible assumption)|assumption)
                 have hx33:=bt_at a0 (ji31)
                 replace p33:=eq_true p33
                 replace q33:=eq_true q33
                 go_wp2_with (first|(go_at_call 54;(with_reducible refine (spec_l1digit.calls (bt a0 (ji31)) t105 _ A34.out).mono ?_);rintro e w' ⟨rfl,⟨nd,rfl⟩⟩))
                 go_meet
                 case rel=>exact ⟨_,(t105),(by first|rfl|(simp;done)|(simp [*];done)),H',⟨by have:=HJ2.out;have:=HJ8.out;have:=HK3.out;have:=HJ13.out;first|omega|exact Nat.le_refl _⟩,by repeat (first|exact Drawn0.refl _|apply Drawn0.step)⟩
                ·rw [if_neg c32] at H
                 exact absurd H (by simp)
               ·rw [if_neg c30] at H
                have c30b0 : decide ((wrap64 (x4_3 + 1)) < (a0.size : Int)) = false:=decide_eq_false c30
                clear c30
                have H':=Aside0.mk H
                clear H
                have p27 : 0 ≤ (x4_3 : Int):=of_decide_eq_true (by first|(with_reducible assumption)|assumption)
                have q27 : x4_3 < (a0.size : Int):=of_decide_eq_true (by first|(with_reducible assumption)|assumption)
                have hx27:=bt_at a0 x4_3
                replace p27:=eq_true p27
                replace q27:=eq_true q27
                go_wp2
                go_meet
                case rel=>exact ⟨_,(false),(by first|rfl|(simp;done)|(simp [*];done)),H',⟨by have:=HJ2.out;have:=HJ8.out;have:=HK3.out;have:=HJ13.out;first|omega|exact Nat.le_refl _⟩,by repeat (first|exact Drawn0.refl _|apply Drawn0.step)⟩
             ·rw [if_neg c28] at H
              have c28b0 : ((bt a0 x4_3) == 46) = false:=beq_eq_false_iff_ne.mpr c28
              have c28b1 : ((bt a0 x4_3) != 46) = true:=bne_iff_ne.mpr c28
              have H':=Aside0.mk H
              clear H
              have p27 : 0 ≤ (x4_3 : Int):=of_decide_eq_true (by first|(with_reducible assumption)|assumption)
              have q27 : x4_3 < (a0.size : Int):=of_decide_eq_true (by first|(with_reducible assumption)|assumption)
              have hx27:=bt_at a0 x4_3
              replace p27:=eq_true p27
              replace q27:=eq_true q27
              go_wp2
              go_meet
              case rel=>exact ⟨_,(false),(by first|rfl|(simp;done)|(simp [*];done)),H',⟨by have:=HJ2.out;have:=HJ8.out;have:=HK3.out;have:=HJ13.out;first|omega|exact Nat.le_refl _⟩,by repeat (first|exact Drawn0.refl _|apply Drawn0.step)⟩
            ·rw [if_neg c26] at H
             exact absurd H (by simp)
           ·rw [if_neg c25] at H
            have c25b0 : decide (x4_3 < (a0.size : Int)) = false:=decide_eq_false c25
            clear c25
            (first|rw [c25b0]|(simp only [i64_w,i32_w];rw [c25b0])|skip)
            have H':=Aside0.mk H
            clear H
            go_wp2
            go_meet
            case rel=>exact ⟨_,(false),(by first|rfl|(simp;done)|(simp [*];done)),H',⟨by have:=HJ2.out;have:=HJ8.out;have:=HK3.out;have:=HJ13.out;first|omega|exact Nat.le_refl _⟩,by repeat (first|exact Drawn0.refl _|apply Drawn0.step)⟩
          case rest =>
           clear HC24
           try clear c1
           try clear p1
           try clear q1
           try clear hx1
           try clear c2
           try clear p2
           try clear q2
           try clear hx2
           try clear c3
           try clear p3
           try clear q3
           try clear hx3
           try clear c4
           try clear c4b0
           try clear c5
           try clear c5b0
           try clear p6
           try clear q6
           try clear hx6
           try clear c7
           try clear c7b0
           try clear c7b1
           try clear c8
           try clear p8
           try clear q8
           try clear hx8
           try clear c10
           try clear c11
           try clear c11b0
           try clear c12
           try clear c12b0
           try clear c13
           try clear p13
           try clear q13
           try clear hx13
           try clear c15
           try clear c15b0
           try clear c16
           try clear c16b0
           try clear p17
           try clear q17
           try clear hx17
           try clear c19
           try clear c20
           try clear c20b0
           try clear c21
           try clear c21b0
           try clear p22
           try clear q22
           try clear hx22
           try clear c23
           try clear c23b0
           try clear c25
           try clear c25b0
           try clear c26
           try clear c26b0
           try clear p27
           try clear q27
           try clear hx27
           try clear c28
           try clear c28b0
           try clear c28b1
           try clear c29
           try clear c29b0
           try clear c30
           try clear c30b0
           try clear c32
           try clear c32b0
           try clear p33
           try clear q33
           try clear hx33
           try clear p1
           try clear p13
           try clear p17
           try clear p2
           try clear p22
           try clear p27
           try clear p33
           try clear p6
           try clear p8
           try clear q1
           try clear q13
           try clear q17
           try clear q22
           try clear q27
           try clear q33
           try clear q6
           try clear q8
           obtain ⟨kq,x85_23,rfl,HA,HJ23,⟨mc23,rfl⟩⟩:=hcut
           cases kq with
           | zero=>exact absurd HA.out (by simp [spec_ReadDec.j4])
           | succ kj23 =>
            have H:=HA.out
            clear HA
            simp only [spec_ReadDec.j4] at H
            have HC35:=Aside0.mk H
            clear H
            go_upto_if 85 with (fail)
            go_cut [4,6,7] (fun v4 v6 v7 wc=>∃ (kq : Nat) (x4_34 : Int) (x6_34 : Int) (x7_34 : Int),v4 = .int .i64 x4_34 ∧ v6 = .int .i64 x6_34 ∧ v7 = .int .i64 x7_34 ∧ Aside0 (spec_ReadDec.j6 kq x4_34 x5_8 x6_34 x7_34 = some (r1,r2)) ∧ Aside0 (kq ≤ kj23) ∧ Drawn0 w wc)
            case first =>
             have H:=HC35.out
             clear HC35
             by_cases c36 : x85_23 = true
             ·subst c36
              have H1 : (spec_ReadDec.l1 kj23 a0 (wrap64 (x4_3 + 1)) x5_8 x6_3 x7_3 100000) = some (r1,r2):=by rw [if_pos rfl] at H;exact H
              clear H
              have H:=H1
              clear H1
              have H':=Aside0.mk H
              clear H
              go_wp2
              go_loopg [4,6,7,8] kj23 (fun kq v4 v6 v7 v8 w'=>∃ (x4_6 : Int) (x6_6 : Int) (x7_6 : Int) (x8_6 : Int),v4 = .int .i64 x4_6 ∧ v6 = .int .i64 x6_6 ∧ v7 = .int .i64 x7_6 ∧ v8 = .int .i64 x8_6 ∧ Aside0 (spec_ReadDec.l1 kq a0 x4_6 x5_8 x6_6 x7_6 x8_6 = some (r1,r2)) ∧ Aside0 (kq ≤ kj23) ∧ Drawn0 w w')
              case atStart=>exact ⟨(wrap64 (x4_3 + 1)),(x6_3),(x7_3),(100000),(by first|rfl|(simp;done)|(simp [*];done)),(by first|rfl|(simp;done)|(simp [*];done)),(by first|rfl|(simp;done)|(simp [*];done)),(by first|rfl|(simp;done)|(simp [*];done)),H',⟨Nat.le_refl _⟩,by repeat (first|exact Drawn0.refl _|apply Drawn0.step)⟩
              case round =>
               clear H'
               try clear c1
               try clear p1
               try clear q1
               try clear hx1
               try clear c2
               try clear p2
               try clear q2
               try clear hx2
               try clear c3
               try clear p3
               try clear q3
               try clear hx3
               try clear c4
               try clear c4b0
               try clear c5
               try clear c5b0
               try clear p6
               try clear q6
               try clear hx6
               try clear c7
               try clear c7b0
               try clear c7b1
               try clear c8
               try clear p8
               try clear q8
               try clear hx8
               try clear c10
               try clear c11
               try clear c11b0
               try clear c12
               try clear c12b0
               try clear c13
               try clear p13
               try clear q13
               try clear hx13
               try clear c15
               try clear c15b0
               try clear c16
               try clear c16b0
               try clear p17
               try clear q17
               try clear hx17
               try clear c19
               try clear c20
               try clear c20b0
               try clear c21
               try clear c21b0
               try clear p22
               try clear q22
               try clear hx22
               try clear c23
               try clear c23b0
               try clear c25
               try clear c25b0
               try clear c26
               try clear c26b0
               try clear p27
               try clear q27
               try clear hx27
               try clear c28
               try clear c28b0
               try clear c28b1
               try clear c29
               try clear c29b0
               try clear c30
               try clear c30b0
               try clear c32
               try clear c32b0
               try clear p33
               try clear q33
               try clear hx33
               try clear c36
               try clear p1
               try clear p13
               try clear p17
               try clear p2
               try clear p22
               try clear p27
               try clear p3
               try clear p33
               try clear p6
               try clear p8
               try clear q1
               try clear q13
               try clear q17
               try clear q2
               try clear q22
               try clear q27
               try clear q3
               try clear q33
               try clear q6
               try clear q8
               obtain ⟨x4_6,x6_6,x7_6,x8_6,rfl,rfl,rfl,rfl,HA,HK6,⟨m6,rfl⟩⟩:=hrel
               cases gk with
               | zero=>exact absurd HA.out (by simp [spec_ReadDec.l1])
               | succ k6 =>
                have H:=HA.out
                clear HA
                simp only [spec_ReadDec.l1] at H
                by_cases c37 : x4_6 < (a0.size : Int)
                ·rw [if_pos c37] at H
                 have c37b0 : decide (x4_6 < (a0.size : Int)) = true:=decide_eq_true c37
                 clear c37
                 (first|rw [c37b0]|(simp only [i64_w,i32_w];rw [c37b0])|skip)
                 by_cases c38 : 0 ≤ x4_6
                 ·rw [if_pos c38] at H
                  have c38b0 : decide (0 ≤ x4_6) = true:=decide_eq_true c38
                  clear c38
                  replace H:=Option.bind_eq_some_iff.mp H
                  obtain ⟨t106,A400,H⟩:=H
                  replace H : (if t106 = true then (spec_ReadDec.l1 k6 a0 (wrap64 (x4_6 + 1)) x5_8 (wrap64 (x6_6 + (wrap64 ((((bt a0 x4_6) - 48) % 256) * x8_6)))) (wrap64 (x7_6 + 1)) (wrap64 (Int.tdiv x8_6 10))) else (spec_ReadDec.j6 k6 x4_6 x5_8 x6_6 x7_6)) = some (r1,r2):=H
                  have A40:=Aside0.mk A400
                  clear A400
                  by_cases c41 : t106 = true
                  ·subst c41
                   have H1 : (spec_ReadDec.l1 k6 a0 (wrap64 (x4_6 + 1)) x5_8 (wrap64 (x6_6 + (wrap64 ((((bt a0 x4_6) - 48) % 256) * x8_6)))) (wrap64 (x7_6 + 1)) (wrap64 (Int.tdiv x8_6 10))) = some (r1,r2):=by rw [if_pos rfl] at H;exact H
                   clear H
                   have H:=H1
                   clear H1
                   have H':=Aside0.mk H
                   clear H
                   have p39 : 0 ≤ (x4_6 : Int):=of_decide_eq_true (by first|(with_reducible assumption)|assumption)
                   have q39 : x4_6 < (a0.size : Int):=of_decide_eq_true (by first|(with_reducible assumption)|assumption)
                   have hx39:=bt_at a0 x4_6
                   replace p39:=eq_true p39
                   replace q39:=eq_true q39
                   go_wp2_with (first|(go_at_call 54;(with_reducible refine (spec_l1digit.calls (bt a0 x4_6) true _ A40.out).mono ?_);rintro e w' ⟨rfl,⟨nd,rfl⟩⟩;have p42 : 0 ≤ (x4_6 : Int):=of_decide_eq_true (by first|(with_reducible assumption)|assumption);have q42 : x4_6 < (a0.size : Int):=of_decide_eq_true (by first|(with_reducible assumption)|assumption);have hx42:=bt_at a0 x4_6;replace p42:=eq_true p42;replace q42:=eq_true q42))
                   go_roundg k6
                   case measure=>have:=HJ2.out;have:=HJ8.out;have:=HK3.out;have:=HJ13.out;have:=HJ23.out;have:=HK6.out;omega
                   case rel=>exact ⟨(wrap64 (x4_6 + 1)),(wrap64 (x6_6 + (wrap64 ((((bt a0 x4_6) - 48) % 256) * x8_6)))),(wrap64 (x7_6 + 1)),(wrap64 (Int.tdiv x8_6 10)),(by first|rfl|(simp;done)|(simp [*];done)),(by first|rfl|(simp;done)|(simp [*];done)),(by first|rfl|(simp;done)|(simp [*];done)),(by first|rfl|(simp;done)|(simp [*];done)),H',⟨by have:=HJ2.out;have:=HJ8.out;have:=HK3.out;have:=HJ13.out;have:=HJ23.out;have:=HK6.out;omega⟩,by repeat (first|exact Drawn0.refl _|apply Drawn0.step)⟩
                  ·replace c41:=Bool.eq_false_iff.mpr c41
                   subst c41
                   have H1 : (spec_ReadDec.j6 k6 x4_6 x5_8 x6_6 x7_6) = some (r1,r2):=by rw [if_neg (show ¬ (false = true) by decide)] at H;exact H
                   clear H
                   have H:=H1
                   clear H1
                   have H':=Aside0.mk H
                   clear H
                   have p39 : 0 ≤ (x4_6 : Int):=of_decide_eq_true (by first|(with_reducible assumption)|assumption)
                   have q39 : x4_6 < (a0.size : Int):=of_decide_eq_true (by first|(with_reducible assumption)|assumption)
                   have hx39:=bt_at a0 x4_6
                   replace p39:=eq_true p39
                   replace q39:=eq_true q39
                   go_wp2_with (first|(go_at_call 54;(with_reducible refine (spec_l1digit.calls (bt a0 x4_6) false _ A40.out).mono ?_);rintro e w' ⟨rfl,⟨nd,rfl⟩⟩))
                   go_meet
                   case rel=>exact ⟨_,(x4_6),(x6_6),(x7_6),(by first|rfl|(simp;done)|(simp [*];done)),(by first|rfl|(simp;done)|(simp [*];done)),(by first|rfl|(simp;done)|(simp [*];done)),H',⟨by have:=HJ2.out;have:=HJ8.out;have:=HK3.out;have:=HJ13.out;have:=HJ23.out;have:=HK6.out;first|omega|exact Nat.le_refl _⟩,by repeat (first|exact Drawn0.refl _|apply Drawn0.step)⟩
                 ·rw [if_neg c38] at H
                  exact absurd H (by simp)
                ·rw [if_neg c37] at H
                 have c37b0 : decide (x4_6 < (a0.size : Int)) = false:=decide_eq_false c37
                 clear c37
                 (first|rw [c37b0]|(simp only [i64_w,i32_w];rw [c37b0])|skip)
                 have H':=Aside0.mk H
                 clear H
                 go_wp2
                 go_meet
                 case rel=>exact ⟨_,(x4_6),(x6_6),(x7_6),(by first|rfl|(simp;done)|(simp [*];done)),(by first|rfl|(simp;done)|(simp [*];done)),(by first|rfl|(simp;done)|(simp [*];done)),H',⟨by have:=HJ2.out;have:=HJ8.out;have:=HK3.out;have:=HJ13.out;have:=HJ23.out;have:=HK6.out;first|omega|exact Nat.le_refl _⟩,by repeat (first|exact Drawn0.refl _|apply Drawn0.step)⟩
             ·replace c36:=Bool.eq_false_iff.mpr c36
              subst c36
              have H1 : (spec_ReadDec.j6 kj23 x4_3 x5_8 x6_3 x7_3) = some (r1,r2):=by rw [if_neg (show ¬ (false = true) by decide)] at H;exact H
              clear H
              have H:=H1
              clear H1
              have H':=Aside0.mk H
              clear H
              go_wp2
              go_meet
              case rel=>exact ⟨_,(x4_3),(x6_3),(x7_3),(by first|rfl|(simp;done)|(simp [*];done)),(by first|rfl|(simp;done)|(simp [*];done)),(by first|rfl|(simp;done)|(simp [*];done)),H',⟨by have:=HJ2.out;have:=HJ8.out;have:=HK3.out;have:=HJ13.out;have:=HJ23.out;first|omega|exact Nat.le_refl _⟩,by repeat (first|exact Drawn0.refl _|apply Drawn0.step)⟩
            case rest =>
             clear HC35
             try clear c1
             try clear p1
             try clear q1
             try clear hx1
             try clear c2
             try clear p2
             try clear q2
             try clear hx2
             try clear c3
             try clear p3
             try clear q3
             try clear hx3
             try clear c4
             try clear c4b0
             try clear p4
             try clear q4
             try clear hx4
             try clear c5
             try clear c5b0
             try clear p6
             try clear q6
             try clear hx6
             try clear c7
             try clear c7b0
             try clear c7b1
             try clear c8
             try clear p8
             try clear q8
             try clear hx8
             try clear c10
             try clear c11
             try clear c11b0
             try clear c12
             try clear c12b0
             try clear c13
             try clear p13
             try clear q13
             try clear hx13
             try clear c15
             try clear c15b0
             try clear c16
             try clear c16b0
             try clear p17
             try clear q17
             try clear hx17
             try clear c19
             try clear c20
             try clear c20b0
             try clear c21
             try clear c21b0
             try clear p22
             try clear q22
             try clear hx22
             try clear c23
             try clear c23b0
             try clear c25
             try clear c25b0
             try clear c26
             try clear c26b0
             try clear p27
             try clear q27
             try clear hx27
             try clear c28
             try clear c28b0
             try clear c28b1
             try clear c29
             try clear c29b0
             try clear c30
             try clear c30b0
             try clear c32
             try clear c32b0
             try clear p33
             try clear q33
             try clear hx33
             try clear c36
             try clear c37
             try clear c37b0
             try clear c38
             try clear c38b0
             try clear p39
             try clear q39
             try clear hx39
             try clear c41
             try clear p42
             try clear q42
             try clear hx42
             try clear p1
             try clear p13
             try clear p17
             try clear p2
             try clear p22
             try clear p27
             try clear p3
             try clear p33
             try clear p39
             try clear p42
             try clear p6
             try clear p8
             try clear q1
             try clear q13
             try clear q17
             try clear q2
             try clear q22
             try clear q27
             try clear q3
             try clear q33
             try clear q39
             try clear q42
             try clear q6
             try clear q8
             obtain ⟨kq,x4_34,x6_34,x7_34,rfl,rfl,rfl,HA,HJ34,⟨mc34,rfl⟩⟩:=hcut
             cases kq with
             | zero=>exact absurd HA.out (by simp [spec_ReadDec.j6])
             | succ kj34 =>
              have H:=HA.out
              clear HA
              simp only [spec_ReadDec.j6] at H
              by_cases c43 : x7_34 = 0
              ·rw [if_pos c43] at H
               have c43b0 : (x7_34 == 0) = true:=beq_iff_eq.mpr c43
               have c43b1 : (x7_34 != 0) = false:=bne_eq_false_iff_eq.mpr c43
               clear c43
               simp only [Option.some.injEq,Prod.mk.injEq] at H
               obtain ⟨rfl,rfl⟩:=H
               go_wp2
               go_ret2
               exact ⟨by first|rfl|(simp;done)|(simp [*];done),by repeat (first|exact Drawn0.refl _|apply Drawn0.step)⟩
              ·rw [if_neg c43] at H
               have c43b0 : (x7_34 == 0) = false:=beq_eq_false_iff_ne.mpr c43
               have c43b1 : (x7_34 != 0) = true:=bne_iff_ne.mpr c43
               by_cases c44 : x6_34 > 9000000000000
               ·rw [if_pos c44] at H
                have c44b0 : decide (9000000000000 < x6_34) = true:=decide_eq_true c44
                clear c44
                by_cases c45 : x5_8 = true
                ·subst c45
                 have H1 : (some (-9000000000000,x4_34)) = some (r1,r2):=by rw [if_pos rfl] at H;exact H
                 clear H
                 have H:=H1
                 clear H1
                 simp only [Option.some.injEq,Prod.mk.injEq] at H
                 obtain ⟨rfl,rfl⟩:=H
                 go_wp2
                 go_ret2
                 exact ⟨by first|rfl|(simp;done)|(simp [*];done),by repeat (first|exact Drawn0.refl _|apply Drawn0.step)⟩
                ·replace c45:=Bool.eq_false_iff.mpr c45
                 subst c45
                 have H1 : (some (9000000000000,x4_34)) = some (r1,r2):=by rw [if_neg (show ¬ (false = true) by decide)] at H;exact H
                 clear H
                 have H:=H1
                 clear H1
                 simp only [Option.some.injEq,Prod.mk.injEq] at H
                 obtain ⟨rfl,rfl⟩:=H
                 go_wp2
                 go_ret2
                 exact ⟨by first|rfl|(simp;done)|(simp [*];done),by repeat (first|exact Drawn0.refl _|apply Drawn0.step)⟩
               ·rw [if_neg c44] at H
                have c44b0 : decide (9000000000000 < x6_34) = false:=decide_eq_false c44
                clear c44
                by_cases c46 : x5_8 = true
                ·subst c46
                 have H1 : (some (wrap64 (-x6_34),x4_34)) = some (r1,r2):=by rw [if_pos rfl] at H;exact H
                 clear H
                 have H:=H1
                 clear H1
                 simp only [Option.some.injEq,Prod.mk.injEq] at H
                 obtain ⟨rfl,rfl⟩:=H
                 go_wp2
                 go_ret2
                 exact ⟨by first|rfl|(simp;done)|(simp [*];done),by repeat (first|exact Drawn0.refl _|apply Drawn0.step)⟩
                ·replace c46:=Bool.eq_false_iff.mpr c46
                 subst c46
                 have H1 : (some (x6_34,x4_34)) = some (r1,r2):=by rw [if_neg (show ¬ (false = true) by decide)] at H;exact H
                 clear H
                 have H:=H1
                 clear H1
                 simp only [Option.some.injEq,Prod.mk.injEq] at H
                 obtain ⟨rfl,rfl⟩:=H
                 go_wp2
                 go_ret2
                 exact ⟨by first|rfl|(simp;done)|(simp [*];done),by repeat (first|exact Drawn0.refl _|apply Drawn0.step)⟩
def impl_between.f (a0 : Int) (a1 : Int) (a2 : Int) : Option (Bool):=if a0 ≥ a1 then (some (decide (a0 ≤ a2))) else (some false)
set_option maxHeartbeats 8000000 in
set_option maxRecDepth 100000 in
theorem impl_between.calls (a0 : Int) (a1 : Int) (a2 : Int) (r : Bool) (w : World) (h : impl_between.f a0 a1 a2 = some r) :
  Calls Tryd.prog 66 #[.int .i64 a0,.int .i64 a1,.int .i64 a2] w fun e w'=>e = .returned (.bool r) ∧ Drawn0 w w':=by
 have H : (if a0 ≥ a1 then (some (decide (a0 ≤ a2))) else (some false)) = some r:=h
 clear h
 by_cases c4 : a0 ≥ a1
 ·rw [if_pos c4] at H
  have c4b0 : decide (a1 ≤ a0) = true:=decide_eq_true c4
  clear c4
  obtain rfl:=Option.some.inj H
  go_enter Tryd.func66,Tryd.ntmps66
  go_wp2
  go_ret
  exact ⟨by first|rfl|(simp;done)|(simp [*];done),by repeat (first|exact Drawn0.refl _|apply Drawn0.step)⟩
 ·rw [if_neg c4] at H
  have c4b0 : decide (a1 ≤ a0) = false:=decide_eq_false c4
  clear c4
  obtain rfl:=Option.some.inj H
  go_enter Tryd.func66,Tryd.ntmps66
  go_wp2
  go_ret
  exact ⟨by first|rfl|(simp;done)|(simp [*];done),by repeat (first|exact Drawn0.refl _|apply Drawn0.step)⟩
def impl_DecOk.f (a0 : Int) : Option (Bool):=(impl_between.f a0 (-9000000000000) 9000000000000).bind fun t138=>(some t138)
set_option maxHeartbeats 8000000 in
set_option maxRecDepth 100000 in
theorem impl_DecOk.calls (a0 : Int) (r : Bool) (w : World) (h : impl_DecOk.f a0 = some r) :
  Calls Tryd.prog 58 #[.int .i64 a0] w fun e w'=>e = .returned (.bool r) ∧ Drawn0 w w':=by
 have H : ((impl_between.f a0 (-9000000000000) 9000000000000).bind fun t138=>(some t138)) = some r:=h
 clear h
 replace H:=Option.bind_eq_some_iff.mp H
 obtain ⟨t138,A20,H⟩:=H
 replace H : (some t138) = some r:=H
 have A2:=Aside0.mk A20
 clear A20
 obtain rfl:=Option.some.inj H
 go_enter Tryd.func58,Tryd.ntmps58
 go_wp2_with (first|((with_reducible refine gate_callee (f:=66) rfl ?_);refine goesL_ (some 4) rfl rfl Tryd.func66 (by kernel_rfl) rfl #[.int .i64 a0,.int .i64 (-9000000000000),.int .i64 9000000000000] rfl (by (try simp only [List.map_toArray,List.map_cons,List.map_nil]);first|done|rfl|(simp only [List.length_drop,List.length_take];rfl)) ?_;(with_reducible refine (impl_between.calls a0 (-9000000000000) 9000000000000 t138 _ A2.out).mono ?_);rintro e w' ⟨rfl,⟨nd,rfl⟩⟩;refine ⟨_,rfl,?_⟩))
 go_ret
 exact ⟨by first|rfl|(simp;done)|(simp [*];done),by repeat (first|exact Drawn0.refl _|apply Drawn0.step)⟩
def impl_isSpace.f (a0 : Int) : Option (Bool):=if a0 = 32 then (some true) else (if a0 = 9 then (some true) else (some (a0 == 10)))
set_option maxHeartbeats 8000000 in
set_option maxRecDepth 100000 in
theorem impl_isSpace.calls (a0 : Int) (r : Bool) (w : World) (h : impl_isSpace.f a0 = some r) :
  Calls Tryd.prog 75 #[.int .u8 a0] w fun e w'=>e = .returned (.bool r) ∧ Drawn0 w w':=by
 have H : (if a0 = 32 then (some true) else (if a0 = 9 then (some true) else (some (a0 == 10)))) = some r:=h
 clear h
 by_cases c2 : a0 = 32
 ·rw [if_pos c2] at H
  have c2b0 : (a0 == 32) = true:=beq_iff_eq.mpr c2
  have c2b1 : (a0 != 32) = false:=bne_eq_false_iff_eq.mpr c2
  clear c2
  obtain rfl:=Option.some.inj H
  go_enter Tryd.func75,Tryd.ntmps75
  go_wp2
  go_ret
  exact ⟨by first|rfl|(simp;done)|(simp [*];done),by repeat (first|exact Drawn0.refl _|apply Drawn0.step)⟩
 ·rw [if_neg c2] at H
  have c2b0 : (a0 == 32) = false:=beq_eq_false_iff_ne.mpr c2
  have c2b1 : (a0 != 32) = true:=bne_iff_ne.mpr c2
  by_cases c3 : a0 = 9
  ·rw [if_pos c3] at H
   have c3b0 : (a0 == 9) = true:=beq_iff_eq.mpr c3
   have c3b1 : (a0 != 9) = false:=bne_eq_false_iff_eq.mpr c3
   clear c3
   obtain rfl:=Option.some.inj H
   go_enter Tryd.func75,Tryd.ntmps75
   go_wp2
   go_ret
   exact ⟨by first|rfl|(simp;done)|(simp [*];done),by repeat (first|exact Drawn0.refl _|apply Drawn0.step)⟩
  ·rw [if_neg c3] at H
   have c3b0 : (a0 == 9) = false:=beq_eq_false_iff_ne.mpr c3
   have c3b1 : (a0 != 9) = true:=bne_iff_ne.mpr c3
   obtain rfl:=Option.some.inj H
   go_enter Tryd.func75,Tryd.ntmps75
   go_wp2
   go_ret
   exact ⟨by first|rfl|(simp;done)|(simp [*];done),by repeat (first|exact Drawn0.refl _|apply Drawn0.step)⟩
def IsS90 (w0 W : World) (g : Nat) (f0 : List Int) (f1 : Int) (f2 : Int) : Prop:=∃ A0 c0,W.heap[g]? = some (.cells #[.slice A0 f0.length c0,.int .i64 f1,.int .i64 f2] 90 (0,0)) ∧ w0.heap.size ≤ g ∧ Kd.C (Kd.int .u8) w0 A0 f0.length f0
theorem IsS90.grown {w0 W : World} {g : Nat} {f0 : List Int} {f1 : Int} {f2 : Int} {W1 : World} {row : Option Nat} (h : IsS90 w0 W g f0 f1 f2) (hw : W.grownBy W1 row) (hne : some g ≠ row) : IsS90 w0 W1 g f0 f1 f2:=by
 obtain ⟨A0,c0,hb,hg,hr0⟩:=h
 exact ⟨A0,c0,blk_grown hb hw hne,hg,hr0⟩
theorem IsS90.fresh {w0 W : World} {g : Nat} {f0 : List Int} {f1 : Int} {f2 : Int} (h : IsS90 w0 W g f0 f1 f2) : ∀ k,W.heap.size ≤ k → k ≠ g:=by
 obtain ⟨A0,c0,hb,hg,hr0⟩:=h
 exact Kd.freshB hb
theorem IsS90.kept {w0 W : World} {g : Nat} {f0 : List Int} {f1 : Int} {f2 : Int} {W1 : World} {S : Nat → Prop} (h : IsS90 w0 W g f0 f1 f2) (hk : Kept W W1 S) (hne : ¬ S g) : IsS90 w0 W1 g f0 f1 f2:=by
 obtain ⟨A0,c0,hb,hg,hr0⟩:=h
 exact ⟨A0,c0,blk_kept hb hk hne,hg,hr0⟩
theorem IsS90.below {w0 W : World} {g : Nat} {f0 : List Int} {f1 : Int} {f2 : Int} {W1 : World} (h : IsS90 w0 W g f0 f1 f2) (hw : Below W.heap.size W W1) : IsS90 w0 W1 g f0 f1 f2:=h.grown (grown_of_below hw none) (by simp)
theorem IsS90.alloc {w0 W : World} {g : Nat} {f0 : List Int} {f1 : Int} {f2 : Int} (h : IsS90 w0 W g f0 f1 f2) (o : Obj) : IsS90 w0 (W.alloc o) g f0 f1 f2:=h.below (below_alloc (Below.refl _ _) o)
theorem IsS90.drewN {w0 W : World} {g : Nat} {f0 : List Int} {f1 : Int} {f2 : Int} (h : IsS90 w0 W g f0 f1 f2) (m : Nat) : IsS90 w0 (W.drewN m) g f0 f1 f2:=h
theorem IsS90.drew {w0 W : World} {g : Nat} {f0 : List Int} {f1 : Int} {f2 : Int} (h : IsS90 w0 W g f0 f1 f2) : IsS90 w0 W.drew g f0 f1 f2:=h
theorem IsS90.at_ {w0 W : World} {g : Nat} {f0 : List Int} {f1 : Int} {f2 : Int} {w' : World} {m : Nat} (hq : W.drewN m = w') (h : IsS90 w0 W g f0 f1 f2) : IsS90 w0 w' g f0 f1 f2:=by subst hq;exact IsS90.drewN h m
theorem IsS90.apart {w0 W : World} {g : Nat} {f0 : List Int} {f1 : Int} {f2 : Int} {α : Type} {d : Kd α} {e : Nat} {base : Nat} {ok : Nat → Prop} {v : Value} {xs : List α} (h : IsS90 w0 W g f0 f1 f2) (ho : d.R e W base ok v xs) (ht : ∀ q,q ∈ e :: d.E → q ≠ 90) : d.R e W base (fun k=>ok k ∧ k ≠ g) v xs:=by
 obtain ⟨A0,c0,hb,hg,hr0⟩:=h
 exact Kd.R_types ho hb ht
theorem IsS90.own_ne {w0 W : World} {g : Nat} {f0 : List Int} {f1 : Int} {f2 : Int} {α : Type} {d : Kd α} {e : Nat} {base : Nat} {ok : Nat → Prop} {v : Value} {xs : List α} (h : IsS90 w0 W g f0 f1 f2) (ho : d.R e W base ok v xs) (ht : e ≠ 90) : some g ≠ v.ownBlock:=by
 obtain ⟨A0,c0,hb,hg,hr0⟩:=h
 exact Kd.R_ne ho hb ht
theorem IsS90.ge {w0 W : World} {g : Nat} {f0 : List Int} {f1 : Int} {f2 : Int} (h : IsS90 w0 W g f0 f1 f2) : w0.heap.size ≤ g:=by
 obtain ⟨A0,c0,hb,hg,hr0⟩:=h
 exact hg
theorem IsS90.far {w0 W : World} {g : Nat} {f0 : List Int} {f1 : Int} {f2 : Int} {p : Addr} (h : IsS90 w0 W g f0 f1 f2) (hne : g ≠ p.block) (u : Value) : IsS90 w0 (W.setCell p u) g f0 f1 f2:=by
 obtain ⟨A0,c0,hb,hg,hr0⟩:=h
 exact ⟨A0,c0,blk_far hb hne u,hg,hr0⟩
theorem cellS90_0 {W : World} {g : Nat} {A0 : Option Addr} {c0 : Nat} {f0 : List Int} {f1 : Int} {f2 : Int} (h : W.heap[g]? = some (.cells #[.slice A0 f0.length c0,.int .i64 f1,.int .i64 f2] 90 (0,0))) : W.cell? ⟨g,0,none⟩ = some (.slice A0 f0.length c0):=(blk_cell h 0).trans rfl
theorem cellS90_1 {W : World} {g : Nat} {A0 : Option Addr} {c0 : Nat} {f0 : List Int} {f1 : Int} {f2 : Int} (h : W.heap[g]? = some (.cells #[.slice A0 f0.length c0,.int .i64 f1,.int .i64 f2] 90 (0,0))) : W.cell? ⟨g,1,none⟩ = some (.int .i64 f1):=(blk_cell h 1).trans rfl
theorem IsS90.set_1 {w0 W : World} {g : Nat} {f0 : List Int} {f1 : Int} {f2 : Int} (h : IsS90 w0 W g f0 f1 f2) (x : Int) : IsS90 w0 (W.setCell ⟨g,1,none⟩ (.int .i64 x)) g f0 x f2:=by
 obtain ⟨A0,c0,hb,hg,hr0⟩:=h
 exact ⟨A0,c0,by simpa using blk_set hb 1 (.int .i64 x),hg,hr0⟩
theorem cellS90_2 {W : World} {g : Nat} {A0 : Option Addr} {c0 : Nat} {f0 : List Int} {f1 : Int} {f2 : Int} (h : W.heap[g]? = some (.cells #[.slice A0 f0.length c0,.int .i64 f1,.int .i64 f2] 90 (0,0))) : W.cell? ⟨g,2,none⟩ = some (.int .i64 f2):=(blk_cell h 2).trans rfl
theorem IsS90.set_2 {w0 W : World} {g : Nat} {f0 : List Int} {f1 : Int} {f2 : Int} (h : IsS90 w0 W g f0 f1 f2) (x : Int) : IsS90 w0 (W.setCell ⟨g,2,none⟩ (.int .i64 x)) g f0 f1 x:=by
 obtain ⟨A0,c0,hb,hg,hr0⟩:=h
 exact ⟨A0,c0,by simpa using blk_set hb 2 (.int .i64 x),hg,hr0⟩
theorem IsS90.new (w0 W : World) (A0 : Option Addr) (c0 : Nat) (f0 : List Int) (f1 : Int) (f2 : Int) (hB : Below w0.heap.size w0 W) (hr0 : Kd.C (Kd.int .u8) w0 A0 f0.length f0) : IsS90 w0 (W.alloc (.cells #[.slice A0 f0.length c0,.int .i64 f1,.int .i64 f2] 90)) W.heap.size f0 f1 f2:=⟨A0,c0,by simpa using heap_alloc_new W _,hB.size,hr0⟩
def spec_l1New.l0 : Nat → List Int → Int → Int → Option (List Int × Int × Int)
 | 0,_,_,_=>none
 | k + 1,x0,x3,x4=>if x4 < (x0.length : Int) then (if x4 < 4000 then (if 0 ≤ x4 then (spec_l1New.l0 k x0 (Go.bits .and .i64 (wrap64 ((wrap64 ((wrap64 (x3 * 131)) + (wrap64 (rd x0 x4)))) + 7)) 1073741823) (wrap64 (x4 + 1))) else (none)) else (some (x0,0,x3))) else (some (x0,0,x3))
def spec_l1New.f (k : Nat) (l0 : List Int) : Option (List Int × Int × Int):=spec_l1New.l0 k l0 (wrap64 (64242 + (l0.length : Int))) 0
set_option maxHeartbeats 8000000 in
set_option maxRecDepth 100000 in
theorem spec_l1New.calls (k : Nat) (A0 : Option Addr) (c0 : Nat) (l0 : List Int) (r1 : List Int) (r2 : Int) (r3 : Int) (w0 w : World) (hB : Below w0.heap.size w0 w) (hr0 : Kd.C (Kd.int .u8) w0 A0 l0.length l0) (hc0 : l0.length ≤ c0) (h : spec_l1New.f k l0 = some (r1,r2,r3)) :
  Calls Tryd.prog 45 #[.slice A0 l0.length c0] w fun e w'=>∃ g_ : Nat,e = .returned (.pointer (some ⟨g_,0,none⟩)) ∧ IsS90 w0 w' g_ r1 r2 r3 ∧ Below w0.heap.size w0 w' ∧ Below w.heap.size w w':=by
 have hu90:=Tryd.underlying90
 have HR0:=Aside0.mk hr0
 have HC0:=Aside0.mk hc0
 clear hr0 hc0
 have HBW:=Aside0.mk (Below.refl w.heap.size w)
 have HW0:=Aside0.mk hB.size
 have HB:=Aside0.mk hB
 clear hB
 have H : (spec_l1New.l0 k l0 (wrap64 (64242 + (l0.length : Int))) 0) = some (r1,r2,r3):=h
 clear h
 have H':=Aside0.mk H
 clear H
 go_enter Tryd.func45,Tryd.ntmps45
 go_wp2
 go_loopg [3,4] k (fun kq v3 v4 w'=>∃ (x3_1 : Int) (x4_1 : Int),v3 = .int .i64 x3_1 ∧ v4 = .int .i64 x4_1 ∧ Aside0 (spec_l1New.l0 kq l0 x3_1 x4_1 = some (r1,r2,r3)) ∧ Aside0 (kq ≤ k) ∧ Aside0 (Below w0.heap.size w0 w') ∧ Aside0 (Below w.heap.size w w'))
 case atStart=>exact ⟨(wrap64 (64242 + (l0.length : Int))),(0),(by first|rfl|(simp;done)|(simp [*];done)),(by first|rfl|(simp;done)|(simp [*];done)),H',⟨Nat.le_refl _⟩,⟨by repeat (first|(with_reducible first|exact HB.out|apply below_alloc|apply pw_below_drewN|apply below_drew1)|exact HB.out)⟩,⟨by repeat (first|(with_reducible first|exact HBW.out|apply below_alloc|apply pw_below_drewN|apply below_drew1)|exact HBW.out)⟩⟩
 case round =>
  clear H'
  obtain ⟨x3_1,x4_1,rfl,rfl,HA,HK1,HB,HBW⟩:=hrel
  cases gk with
  | zero=>exact absurd HA.out (by simp [spec_l1New.l0])
  | succ k1 =>
   have H:=HA.out
   clear HA
   simp only [spec_l1New.l0] at H
   by_cases c2 : x4_1 < (l0.length : Int)
   ·rw [if_pos c2] at H
    have c2b0 : decide (x4_1 < (l0.length : Int)) = true:=decide_eq_true c2
    clear c2
    by_cases c3 : x4_1 < 4000
    ·rw [if_pos c3] at H
     have c3b0 : decide (x4_1 < 4000) = true:=decide_eq_true c3
     clear c3
     by_cases c4 : 0 ≤ x4_1
     ·rw [if_pos c4] at H
      have c4b0 : decide (0 ≤ x4_1) = true:=decide_eq_true c4
      clear c4
      have H':=Aside0.mk H
      clear H
      have p218 : 0 ≤ (x4_1 : Int):=of_decide_eq_true (by first|(with_reducible assumption)|assumption)
      have q218 : x4_1 < (l0.length : Int):=of_decide_eq_true (by first|(with_reducible assumption)|assumption)
      obtain ⟨ad218,e218,hx218_0⟩:=Kd.at_int HR0.out x4_1 p218 q218
      cases e218
      replace hx218_0:=pw_cell_below HB.out hx218_0
      replace p218:=eq_true p218
      replace q218:=eq_true q218
      go_wp2
      go_roundg k1
      case measure=>have:=HK1.out;omega
      case rel=>exact ⟨(Go.bits .and .i64 (wrap64 ((wrap64 ((wrap64 (x3_1 * 131)) + (wrap64 (rd l0 x4_1)))) + 7)) 1073741823),(wrap64 (x4_1 + 1)),(by first|rfl|(simp;done)|(simp [*];done)),(by first|rfl|(simp;done)|(simp [*];done)),H',⟨by have:=HK1.out;omega⟩,⟨by repeat (first|(with_reducible first|exact HB.out|apply below_alloc|apply pw_below_drewN|apply below_drew1)|exact HB.out)⟩,⟨by repeat (first|(with_reducible first|exact HBW.out|apply below_alloc|apply pw_below_drewN|apply below_drew1)|exact HBW.out)⟩⟩
     ·rw [if_neg c4] at H
      exact absurd H (by simp)
    ·rw [if_neg c3] at H
     have c3b0 : decide (x4_1 < 4000) = false:=decide_eq_false c3
     clear c3
     simp only [Option.some.injEq,Prod.mk.injEq] at H
     obtain ⟨rfl,rfl,rfl⟩:=H
     go_wp2_with (first|((with_reducible refine gate_dst (N:=31) rfl ?_);refine box_event ?hg (N:=31) ?hd (cs:=#[.slice A0 l0.length c0,.int .i64 0,.int .i64 x3_1]) (t:=90) ?hr ?_;(case hd=>rfl);(case hg=>rfl);(case hr=>first|(go_simp;done)|(go_simp;rfl));intro gb219 hg w5 hbox hb;have n0_:=Aside0.mk (below_step HBW.out hb);have n1_:=Aside0.mk (below_step (by repeat (first|(with_reducible first|exact HB.out|apply below_alloc|apply pw_below_drewN|apply below_drew1)|exact HB.out)) hb);have n2_:=Aside0.mk (hbox);have n3_:=Aside0.mk ((by rw [hg];exact (below_size (by repeat (first|(with_reducible first|exact HBW.out|apply below_alloc|apply pw_below_drewN|apply below_drew1)|exact HBW.out))) : w.heap.size ≤ gb219));have n4_:=Aside0.mk ((Nat.le_trans HW0.out (by rw [hg];exact (below_size (by repeat (first|(with_reducible first|exact HBW.out|apply below_alloc|apply pw_below_drewN|apply below_drew1)|exact HBW.out))) : w.heap.size ≤ gb219) : w0.heap.size ≤ gb219));clear HBW;clear HB;have HBW:=n0_;have HB:=n1_;have BK219:=n2_;have GW219:=n3_;have GE219:=n4_;clear n0_ n1_ n2_ n3_ n4_;clear hb hbox hg))
     go_ret
     exact ⟨_,rfl,(show IsS90 w0 _ gb219 l0 0 x3_1 from ⟨_,_,by (with_reducible repeat (first|refine blk_drewN ?_ _|refine blk_drew ?_|refine blk_alloc ?_ _));exact BK219.out,GE219.out,HR0.out⟩),by repeat (first|(with_reducible first|exact HB.out|apply below_alloc|apply pw_below_drewN|apply below_drew1|refine below_set ?_ GE219.out)|exact HB.out),by repeat (first|(with_reducible first|exact HBW.out|apply below_alloc|apply pw_below_drewN|apply below_drew1|refine below_set ?_ GW219.out)|exact HBW.out)⟩
   ·rw [if_neg c2] at H
    have c2b0 : decide (x4_1 < (l0.length : Int)) = false:=decide_eq_false c2
    clear c2
    simp only [Option.some.injEq,Prod.mk.injEq] at H
    obtain ⟨rfl,rfl,rfl⟩:=H
    go_wp2_with (first|((with_reducible refine gate_dst (N:=31) rfl ?_);refine box_event ?hg (N:=31) ?hd (cs:=#[.slice A0 l0.length c0,.int .i64 0,.int .i64 x3_1]) (t:=90) ?hr ?_;(case hd=>rfl);(case hg=>rfl);(case hr=>first|(go_simp;done)|(go_simp;rfl));intro gb220 hg w6 hbox hb;have n0_:=Aside0.mk (below_step HBW.out hb);have n1_:=Aside0.mk (below_step (by repeat (first|(with_reducible first|exact HB.out|apply below_alloc|apply pw_below_drewN|apply below_drew1)|exact HB.out)) hb);have n2_:=Aside0.mk (hbox);have n3_:=Aside0.mk ((by rw [hg];exact (below_size (by repeat (first|(with_reducible first|exact HBW.out|apply below_alloc|apply pw_below_drewN|apply below_drew1)|exact HBW.out))) : w.heap.size ≤ gb220));have n4_:=Aside0.mk ((Nat.le_trans HW0.out (by rw [hg];exact (below_size (by repeat (first|(with_reducible first|exact HBW.out|apply below_alloc|apply pw_below_drewN|apply below_drew1)|exact HBW.out))) : w.heap.size ≤ gb220) : w0.heap.size ≤ gb220));clear HBW;clear HB;have HBW:=n0_;have HB:=n1_;have BK220:=n2_;have GW220:=n3_;have GE220:=n4_;clear n0_ n1_ n2_ n3_ n4_;clear hb hbox hg))
    go_ret
    exact ⟨_,rfl,(show IsS90 w0 _ gb220 l0 0 x3_1 from ⟨_,_,by (with_reducible repeat (first|refine blk_drewN ?_ _|refine blk_drew ?_|refine blk_alloc ?_ _));exact BK220.out,GE220.out,HR0.out⟩),by repeat (first|(with_reducible first|exact HB.out|apply below_alloc|apply pw_below_drewN|apply below_drew1|refine below_set ?_ GE220.out)|exact HB.out),by repeat (first|(with_reducible first|exact HBW.out|apply below_alloc|apply pw_below_drewN|apply below_drew1|refine below_set ?_ GW220.out)|exact HBW.out)⟩
def spec_l1Byte.f (s0_0 : List Int) (s0_1 : Int) (s0_2 : Int) : Option (Int × Int × Int):=if s0_1 < (s0_0.length : Int) then (if 0 ≤ s0_1 then (some (Go.bits .and .i64 (wrap64 ((Go.bits .and .i64 (Go.bits .xor .i64 ((wrap64 ((wrap64 (s0_2 * 6364136223846793005)) + 1442695040888963407)) / 8589934592) ((wrap64 ((wrap64 (s0_2 * 6364136223846793005)) + 1442695040888963407)) / 35184372088832)) 255) + (wrap64 (rd s0_0 s0_1)))) 255,wrap64 (s0_1 + 1),wrap64 ((wrap64 (s0_2 * 6364136223846793005)) + 1442695040888963407))) else (none)) else (some (Go.bits .and .i64 (Go.bits .xor .i64 ((wrap64 ((wrap64 (s0_2 * 6364136223846793005)) + 1442695040888963407)) / 8589934592) ((wrap64 ((wrap64 (s0_2 * 6364136223846793005)) + 1442695040888963407)) / 35184372088832)) 255,s0_1,wrap64 ((wrap64 (s0_2 * 6364136223846793005)) + 1442695040888963407)))
set_option maxHeartbeats 8000000 in
set_option maxRecDepth 100000 in
theorem spec_l1Byte.calls (g : Nat) (s0_0 : List Int) (s0_1 : Int) (s0_2 : Int) (r1 : Int) (r2 : Int) (r3 : Int) (w0 w : World) (hI : IsS90 w0 w g s0_0 s0_1 s0_2) (hB : Below w0.heap.size w0 w) (h : spec_l1Byte.f s0_0 s0_1 s0_2 = some (r1,r2,r3)) :
  Calls Tryd.prog 91 #[.pointer (some ⟨g,0,none⟩)] w fun e w'=>e = .returned (.int .i64 r1) ∧ IsS90 w0 w' g s0_0 r2 r3 ∧ Below w0.heap.size w0 w' ∧ KeepBut w w' g none:=by
 have HI0:=Aside0.mk hI
 have HK:=Aside0.mk (KeepBut.refl w g none)
 have HL:=Aside0.mk hB.size
 clear hI
 have HW0:=Aside0.mk hB.size
 have HB:=Aside0.mk hB
 clear hB
 have H : (if s0_1 < (s0_0.length : Int) then (if 0 ≤ s0_1 then (some (Go.bits .and .i64 (wrap64 ((Go.bits .and .i64 (Go.bits .xor .i64 ((wrap64 ((wrap64 (s0_2 * 6364136223846793005)) + 1442695040888963407)) / 8589934592) ((wrap64 ((wrap64 (s0_2 * 6364136223846793005)) + 1442695040888963407)) / 35184372088832)) 255) + (wrap64 (rd s0_0 s0_1)))) 255,wrap64 (s0_1 + 1),wrap64 ((wrap64 (s0_2 * 6364136223846793005)) + 1442695040888963407))) else (none)) else (some (Go.bits .and .i64 (Go.bits .xor .i64 ((wrap64 ((wrap64 (s0_2 * 6364136223846793005)) + 1442695040888963407)) / 8589934592) ((wrap64 ((wrap64 (s0_2 * 6364136223846793005)) + 1442695040888963407)) / 35184372088832)) 255,s0_1,wrap64 ((wrap64 (s0_2 * 6364136223846793005)) + 1442695040888963407)))) = some (r1,r2,r3):=h
 clear h
 by_cases c2 : s0_1 < (s0_0.length : Int)
 ·rw [if_pos c2] at H
  have c2b0 : decide (s0_1 < (s0_0.length : Int)) = true:=decide_eq_true c2
  clear c2
  by_cases c3 : 0 ≤ s0_1
  ·rw [if_pos c3] at H
   have c3b0 : decide (0 ≤ s0_1) = true:=decide_eq_true c3
   clear c3
   simp only [Option.some.injEq,Prod.mk.injEq] at H
   obtain ⟨rfl,rfl,rfl⟩:=H
   obtain ⟨ASz4_0,cSz4_0,HGz4,hgz4,HSz4_0⟩:=HI0.out
   have hcz4_0:=cellS90_0 HGz4
   have hcz4_1:=cellS90_1 HGz4
   have hcz4_2:=cellS90_2 HGz4
   have hfz4_1:=blk_frozen HGz4 1
   have hfz4_2:=blk_frozen HGz4 2
   clear HGz4 hgz4
   have p221 : 0 ≤ (s0_1 : Int):=of_decide_eq_true (by first|(with_reducible assumption)|assumption)
   have q221 : s0_1 < (s0_0.length : Int):=of_decide_eq_true (by first|(with_reducible assumption)|assumption)
   obtain ⟨ad221,e221,hx221_0⟩:=Kd.at_int HSz4_0 s0_1 p221 q221
   cases e221
   have hn221_0 : ad221.block ≠ g:=Nat.ne_of_lt (Nat.lt_of_lt_of_le (by have:=World.block_lt_of_cell? _ _ hx221_0;first|rwa [add_block] at this|exact this) (IsS90.ge HI0.out))
   replace hx221_0:=pw_cell_below HB.out hx221_0
   replace hx221_0:=(cell_far (p:=⟨g,2,none⟩) (by first|(rw [add_block];exact hn221_0)|(show (Addr.add _ _).block ≠ _;rw [add_block];exact hn221_0)|exact hn221_0) (.int .i64 (wrap64 ((wrap64 (s0_2 * 6364136223846793005)) + 1442695040888963407)))).trans hx221_0
   (try have hy221_0:=fun (n_ : Nat)=>(show (((w.drewN n_).setCell ⟨g,2,none⟩ (.int .i64 (wrap64 ((wrap64 (s0_2 * 6364136223846793005)) + 1442695040888963407))))).cell? _ = some _ from hx221_0))
   clear hn221_0
   replace p221:=eq_true p221
   replace q221:=eq_true q221
   go_enter Tryd.func91,Tryd.ntmps91
   go_wp2
   repeat (go_quiet (fail);try go_wp2)
   go_ret
   exact ⟨by first|rfl|(simp [errW_none,errW_some] <;> rfl)|(simp [*,errW_none,errW_some] <;> rfl),by repeat (first|(with_reducible first|exact HI0.out|apply IsS90.alloc|apply IsS90.drewN|apply IsS90.drew|apply IsS90.set_1|apply IsS90.set_2)|exact HI0.out),by repeat (first|(with_reducible first|exact HB.out|apply below_alloc|apply pw_below_drewN|apply below_drew1|refine below_set ?_ (IsS90.ge HI0.out))|exact HB.out),by repeat (first|(with_reducible first|exact HK.out|apply KeepBut.set_|apply keep_drewN|apply keep_drew|apply keep_alloc)|exact HK.out)⟩
  ·rw [if_neg c3] at H
   exact absurd H (by simp)
 ·rw [if_neg c2] at H
  have c2b0 : decide (s0_1 < (s0_0.length : Int)) = false:=decide_eq_false c2
  clear c2
  simp only [Option.some.injEq,Prod.mk.injEq] at H
  obtain ⟨rfl,rfl,rfl⟩:=H
  obtain ⟨ASz5_0,cSz5_0,HGz5,hgz5,HSz5_0⟩:=HI0.out
  have hcz5_0:=cellS90_0 HGz5
  have hcz5_1:=cellS90_1 HGz5
  have hcz5_2:=cellS90_2 HGz5
  have hfz5_1:=blk_frozen HGz5 1
  have hfz5_2:=blk_frozen HGz5 2
  clear HGz5 hgz5
  go_enter Tryd.func91,Tryd.ntmps91
  go_wp2
  repeat (go_quiet (fail);try go_wp2)
  go_ret
  exact ⟨by first|rfl|(simp [errW_none,errW_some] <;> rfl)|(simp [*,errW_none,errW_some] <;> rfl),by repeat (first|(with_reducible first|exact HI0.out|apply IsS90.alloc|apply IsS90.drewN|apply IsS90.drew|apply IsS90.set_1|apply IsS90.set_2)|exact HI0.out),by repeat (first|(with_reducible first|exact HB.out|apply below_alloc|apply pw_below_drewN|apply below_drew1|refine below_set ?_ (IsS90.ge HI0.out))|exact HB.out),by repeat (first|(with_reducible first|exact HK.out|apply KeepBut.set_|apply keep_drewN|apply keep_drew|apply keep_alloc)|exact HK.out)⟩
def spec_l1Below.f (s0_0 : List Int) (s0_1 : Int) (s0_2 : Int) (a1 : Int) : Option (Int × Int × Int):=if a1 ≤ 0 then (some (0,s0_1,s0_2)) else (if a1 ≤ 256 then ((spec_l1Byte.f s0_0 s0_1 s0_2).bind fun bt222=>(if a1 = 0 then (none) else (some (Int.tmod bt222.1 a1,bt222.2.1,bt222.2.2)))) else ((spec_l1Byte.f s0_0 s0_1 s0_2).bind fun bt225=>((spec_l1Byte.f s0_0 bt225.2.1 bt225.2.2).bind fun bt228=>((spec_l1Byte.f s0_0 bt228.2.1 bt228.2.2).bind fun bt231=>((spec_l1Byte.f s0_0 bt231.2.1 bt231.2.2).bind fun bt234=>(if a1 = 0 then (none) else (some (Int.tmod (wrap64 ((wrap64 ((wrap64 ((wrap64 (bt225.1 * 16777216)) + (wrap64 (bt228.1 * 65536)))) + (wrap64 (bt231.1 * 256)))) + bt234.1)) a1,bt234.2.1,bt234.2.2))))))))
set_option maxHeartbeats 8000000 in
set_option maxRecDepth 100000 in
theorem spec_l1Below.calls (g : Nat) (s0_0 : List Int) (s0_1 : Int) (s0_2 : Int) (a1 : Int) (r1 : Int) (r2 : Int) (r3 : Int) (w0 w : World) (hI : IsS90 w0 w g s0_0 s0_1 s0_2) (hB : Below w0.heap.size w0 w) (h : spec_l1Below.f s0_0 s0_1 s0_2 a1 = some (r1,r2,r3)) :
  Calls Tryd.prog 48 #[.pointer (some ⟨g,0,none⟩),.int .i64 a1] w fun e w'=>e = .returned (.int .i64 r1) ∧ IsS90 w0 w' g s0_0 r2 r3 ∧ Below w0.heap.size w0 w' ∧ KeepBut w w' g none:=by
 have HI0:=Aside0.mk hI
 have HK:=Aside0.mk (KeepBut.refl w g none)
 have HL:=Aside0.mk hB.size
 clear hI
 have HW0:=Aside0.mk hB.size
 have HB:=Aside0.mk hB
 clear hB
 have H : (if a1 ≤ 0 then (some (0,s0_1,s0_2)) else (if a1 ≤ 256 then ((spec_l1Byte.f s0_0 s0_1 s0_2).bind fun bt222=>(if a1 = 0 then (none) else (some (Int.tmod bt222.1 a1,bt222.2.1,bt222.2.2)))) else ((spec_l1Byte.f s0_0 s0_1 s0_2).bind fun bt225=>((spec_l1Byte.f s0_0 bt225.2.1 bt225.2.2).bind fun bt228=>((spec_l1Byte.f s0_0 bt228.2.1 bt228.2.2).bind fun bt231=>((spec_l1Byte.f s0_0 bt231.2.1 bt231.2.2).bind fun bt234=>(if a1 = 0 then (none) else (some (Int.tmod (wrap64 ((wrap64 ((wrap64 ((wrap64 (bt225.1 * 16777216)) + (wrap64 (bt228.1 * 65536)))) + (wrap64 (bt231.1 * 256)))) + bt234.1)) a1,bt234.2.1,bt234.2.2))))))))) = some (r1,r2,r3):=h
 clear h
 by_cases c3 : a1 ≤ 0
 ·rw [if_pos c3] at H
  have c3b0 : decide (a1 ≤ 0) = true:=decide_eq_true c3
  clear c3
  simp only [Option.some.injEq,Prod.mk.injEq] at H
  obtain ⟨rfl,rfl,rfl⟩:=H
  go_enter Tryd.func48,Tryd.ntmps48
  go_wp2
  go_ret
  exact ⟨by first|rfl|(simp [errW_none,errW_some] <;> rfl)|(simp [*,errW_none,errW_some] <;> rfl),by repeat (first|(with_reducible first|exact HI0.out|apply IsS90.alloc|apply IsS90.drewN|apply IsS90.drew|apply IsS90.set_1|apply IsS90.set_2)|exact HI0.out),by repeat (first|(with_reducible first|exact HB.out|apply below_alloc|apply pw_below_drewN|apply below_drew1|refine below_set ?_ (IsS90.ge HI0.out))|exact HB.out),by repeat (first|(with_reducible first|exact HK.out|apply KeepBut.set_|apply keep_drewN|apply keep_drew|apply keep_alloc)|exact HK.out)⟩
 ·rw [if_neg c3] at H
  have c3b0 : decide (a1 ≤ 0) = false:=decide_eq_false c3
  clear c3
  by_cases c4 : a1 ≤ 256
  ·rw [if_pos c4] at H
   have c4b0 : decide (a1 ≤ 256) = true:=decide_eq_true c4
   clear c4
   replace H:=Option.bind_eq_some_iff.mp H
   obtain ⟨⟨t222,t223,t224⟩,A50,H⟩:=H
   replace H : (if a1 = 0 then (none) else (some (Int.tmod t222 a1,t223,t224))) = some (r1,r2,r3):=H
   have A5:=Aside0.mk A50
   clear A50
   by_cases c6 : a1 = 0
   ·rw [if_pos c6] at H
    exact absurd H (by simp)
   ·rw [if_neg c6] at H
    have c6b0 : (a1 == 0) = false:=beq_eq_false_iff_ne.mpr c6
    have c6b1 : (a1 != 0) = true:=bne_iff_ne.mpr c6
    simp only [Option.some.injEq,Prod.mk.injEq] at H
    obtain ⟨rfl,rfl,rfl⟩:=H
    go_enter Tryd.func48,Tryd.ntmps48
    go_wp2_with (first|((with_reducible refine gate_callee (f:=91) rfl ?_);refine goesL_ (some 14) rfl rfl Tryd.func91 (by kernel_rfl) rfl #[.pointer (some ⟨g,0,none⟩)] rfl (by (try simp only [List.map_toArray,List.map_cons,List.map_nil]);first|done|rfl|(simp only [List.length_drop,List.length_take];rfl)) ?_;(with_reducible refine (spec_l1Byte.calls g s0_0 s0_1 s0_2 t222 t223 t224 w0 _ ?side1 ?side2 A5.out).mono ?_);(case side1=>repeat (first|(with_reducible first|exact HI0.out|apply IsS90.alloc|apply IsS90.drewN|apply IsS90.drew|apply IsS90.set_1|apply IsS90.set_2)|exact HI0.out));(case side2=>repeat (first|(with_reducible first|exact HB.out|apply below_alloc|apply pw_below_drewN|apply below_drew1|refine below_set ?_ (IsS90.ge HI0.out))|exact HB.out));rintro e w7 ⟨rfl,hi,hb,hk⟩;refine ⟨_,rfl,?_⟩;have n0_:=Aside0.mk (KeepBut.trans (by repeat (first|(with_reducible first|exact HK.out|apply KeepBut.set_|apply keep_drewN|apply keep_drew|apply keep_alloc)|exact HK.out)) hk (.inl rfl));have n1_:=Aside0.mk (hb);have n2_:=Aside0.mk (hi);clear HK;clear HB;clear HI0;have HK:=n0_;have HB:=n1_;have HI0:=n2_;clear n0_ n1_ n2_;(try clear hb);(try clear hb2);(try clear hk);(try clear hi)))
    go_ret
    exact ⟨by first|rfl|(simp [errW_none,errW_some] <;> rfl)|(simp [*,errW_none,errW_some] <;> rfl),by repeat (first|(with_reducible first|exact HI0.out|apply IsS90.alloc|apply IsS90.drewN|apply IsS90.drew|apply IsS90.set_1|apply IsS90.set_2)|exact HI0.out),by repeat (first|(with_reducible first|exact HB.out|apply below_alloc|apply pw_below_drewN|apply below_drew1|refine below_set ?_ (IsS90.ge HI0.out))|exact HB.out),by repeat (first|(with_reducible first|exact HK.out|apply KeepBut.set_|apply keep_drewN|apply keep_drew|apply keep_alloc)|exact HK.out)⟩
  ·rw [if_neg c4] at H
   have c4b0 : decide (a1 ≤ 256) = false:=decide_eq_false c4
   clear c4
   replace H:=Option.bind_eq_some_iff.mp H
   obtain ⟨⟨t225,t226,t227⟩,A80,H⟩:=H
   replace H : ((spec_l1Byte.f s0_0 t226 t227).bind fun bt228=>((spec_l1Byte.f s0_0 bt228.2.1 bt228.2.2).bind fun bt231=>((spec_l1Byte.f s0_0 bt231.2.1 bt231.2.2).bind fun bt234=>(if a1 = 0 then (none) else (some (Int.tmod (wrap64 ((wrap64 ((wrap64 ((wrap64 (t225 * 16777216)) + (wrap64 (bt228.1 * 65536)))) + (wrap64 (bt231.1 * 256)))) + bt234.1)) a1,bt234.2.1,bt234.2.2)))))) = some (r1,r2,r3):=H
   have A8:=Aside0.mk A80
   clear A80
   replace H:=Option.bind_eq_some_iff.mp H
   obtain ⟨⟨t228,t229,t230⟩,A90,H⟩:=H
   replace H : ((spec_l1Byte.f s0_0 t229 t230).bind fun bt231=>((spec_l1Byte.f s0_0 bt231.2.1 bt231.2.2).bind fun bt234=>(if a1 = 0 then (none) else (some (Int.tmod (wrap64 ((wrap64 ((wrap64 ((wrap64 (t225 * 16777216)) + (wrap64 (t228 * 65536)))) + (wrap64 (bt231.1 * 256)))) + bt234.1)) a1,bt234.2.1,bt234.2.2))))) = some (r1,r2,r3):=H
   have A9:=Aside0.mk A90
   clear A90
   replace H:=Option.bind_eq_some_iff.mp H
   obtain ⟨⟨t231,t232,t233⟩,A100,H⟩:=H
   replace H : ((spec_l1Byte.f s0_0 t232 t233).bind fun bt234=>(if a1 = 0 then (none) else (some (Int.tmod (wrap64 ((wrap64 ((wrap64 ((wrap64 (t225 * 16777216)) + (wrap64 (t228 * 65536)))) + (wrap64 (t231 * 256)))) + bt234.1)) a1,bt234.2.1,bt234.2.2)))) = some (r1,r2,r3):=H
   have A10:=Aside0.mk A100
   clear A100
   replace H:=Option.bind_eq_some_iff.mp H
   obtain ⟨⟨t234,t235,t236⟩,A110,H⟩:=H
   replace H : (if a1 = 0 then (none) else (some (Int.tmod (wrap64 ((wrap64 ((wrap64 ((wrap64 (t225 * 16777216)) + (wrap64 (t228 * 65536)))) + (wrap64 (t231 * 256)))) + t234)) a1,t235,t236))) = some (r1,r2,r3):=H
   have A11:=Aside0.mk A110
   clear A110
   by_cases c12 : a1 = 0
   ·rw [if_pos c12] at H
    exact absurd H (by simp)
   ·rw [if_neg c12] at H
    have c12b0 : (a1 == 0) = false:=beq_eq_false_iff_ne.mpr c12
    have c12b1 : (a1 != 0) = true:=bne_iff_ne.mpr c12
    simp only [Option.some.injEq,Prod.mk.injEq] at H
    obtain ⟨rfl,rfl,rfl⟩:=H
    go_enter Tryd.func48,Tryd.ntmps48
    go_wp2_with (first|((with_reducible refine gate_callee (f:=91) rfl ?_);refine goesL_ (some 18) rfl rfl Tryd.func91 (by kernel_rfl) rfl #[.pointer (some ⟨g,0,none⟩)] rfl (by (try simp only [List.map_toArray,List.map_cons,List.map_nil]);first|done|rfl|(simp only [List.length_drop,List.length_take];rfl)) ?_;(with_reducible refine (spec_l1Byte.calls g s0_0 s0_1 s0_2 t225 t226 t227 w0 _ ?side1 ?side2 A8.out).mono ?_);(case side1=>repeat (first|(with_reducible first|exact HI0.out|apply IsS90.alloc|apply IsS90.drewN|apply IsS90.drew|apply IsS90.set_1|apply IsS90.set_2)|exact HI0.out));(case side2=>repeat (first|(with_reducible first|exact HB.out|apply below_alloc|apply pw_below_drewN|apply below_drew1|refine below_set ?_ (IsS90.ge HI0.out))|exact HB.out));rintro e w13 ⟨rfl,hi,hb,hk⟩;refine ⟨_,rfl,?_⟩;have n0_:=Aside0.mk (KeepBut.trans (by repeat (first|(with_reducible first|exact HK.out|apply KeepBut.set_|apply keep_drewN|apply keep_drew|apply keep_alloc)|exact HK.out)) hk (.inl rfl));have n1_:=Aside0.mk (hb);have n2_:=Aside0.mk (hi);clear HK;clear HB;clear HI0;have HK:=n0_;have HB:=n1_;have HI0:=n2_;clear n0_ n1_ n2_;(try clear hb);(try clear hb2);(try clear hk);(try clear hi))|((with_reducible refine gate_callee (f:=91) rfl ?_);refine goesL_ (some 20) rfl rfl Tryd.func91 (by kernel_rfl) rfl #[.pointer (some ⟨g,0,none⟩)] rfl (by (try simp only [List.map_toArray,List.map_cons,List.map_nil]);first|done|rfl|(simp only [List.length_drop,List.length_take];rfl)) ?_;(with_reducible refine (spec_l1Byte.calls g s0_0 t226 t227 t228 t229 t230 w0 _ ?side1 ?side2 A9.out).mono ?_);(case side1=>repeat (first|(with_reducible first|exact HI0.out|apply IsS90.alloc|apply IsS90.drewN|apply IsS90.drew|apply IsS90.set_1|apply IsS90.set_2)|exact HI0.out));(case side2=>repeat (first|(with_reducible first|exact HB.out|apply below_alloc|apply pw_below_drewN|apply below_drew1|refine below_set ?_ (IsS90.ge HI0.out))|exact HB.out));rintro e w14 ⟨rfl,hi,hb,hk⟩;refine ⟨_,rfl,?_⟩;have n0_:=Aside0.mk (KeepBut.trans (by repeat (first|(with_reducible first|exact HK.out|apply KeepBut.set_|apply keep_drewN|apply keep_drew|apply keep_alloc)|exact HK.out)) hk (.inl rfl));have n1_:=Aside0.mk (hb);have n2_:=Aside0.mk (hi);clear HK;clear HB;clear HI0;have HK:=n0_;have HB:=n1_;have HI0:=n2_;clear n0_ n1_ n2_;(try clear hb);(try clear hb2);(try clear hk);(try clear hi))|((with_reducible refine gate_callee (f:=91) rfl ?_);refine goesL_ (some 22) rfl rfl Tryd.func91 (by kernel_rfl) rfl #[.pointer (some ⟨g,0,none⟩)] rfl (by (try simp only [List.map_toArray,List.map_cons,List.map_nil]);first|done|rfl|(simp only [List.length_drop,List.length_take];rfl)) ?_;(with_reducible refine (spec_l1Byte.calls g s0_0 t229 t230 t231 t232 t233 w0 _ ?side1 ?side2 A10.out).mono ?_);(case side1=>repeat (first|(with_reducible first|exact HI0.out|apply IsS90.alloc|apply IsS90.drewN|apply IsS90.drew|apply IsS90.set_1|apply IsS90.set_2)|exact HI0.out));(case side2=>repeat (first|(with_reducible first|exact HB.out|apply below_alloc|apply pw_below_drewN|apply below_drew1|refine below_set ?_ (IsS90.ge HI0.out))|exact HB.out));rintro e w15 ⟨rfl,hi,hb,hk⟩;refine ⟨_,rfl,?_⟩;have n0_:=Aside0.mk (KeepBut.trans (by repeat (first|(with_reducible first|exact HK.out|apply KeepBut.set_|apply keep_drewN|apply keep_drew|apply keep_alloc)|exact HK.out)) hk (.inl rfl));have n1_:=Aside0.mk (hb);have n2_:=Aside0.mk (hi);clear HK;clear HB;clear HI0;have HK:=n0_;have HB:=n1_;have HI0:=n2_;clear n0_ n1_ n2_;(try clear hb);(try clear hb2);(try clear hk);(try clear hi))|((with_reducible refine gate_callee (f:=91) rfl ?_);refine goesL_ (some 24) rfl rfl Tryd.func91 (by kernel_rfl) rfl #[.pointer (some ⟨g,0,none⟩)] rfl (by (try simp only [List.map_toArray,List.map_cons,List.map_nil]);first|done|rfl|(simp only [List.length_drop,List.length_take];rfl)) ?_;(with_reducible refine (spec_l1Byte.calls g s0_0 t232 t233 t234 t235 t236 w0 _ ?side1 ?side2 A11.out).mono ?_);(case side1=>repeat (first|(with_reducible first|exact HI0.out|apply IsS90.alloc|apply IsS90.drewN|apply IsS90.drew|apply IsS90.set_1|apply IsS90.set_2)|exact HI0.out));(case side2=>repeat (first|(with_reducible first|exact HB.out|apply below_alloc|apply pw_below_drewN|apply below_drew1|refine below_set ?_ (IsS90.ge HI0.out))|exact HB.out));rintro e w16 ⟨rfl,hi,hb,hk⟩;refine ⟨_,rfl,?_⟩;have n0_:=Aside0.mk (KeepBut.trans (by repeat (first|(with_reducible first|exact HK.out|apply KeepBut.set_|apply keep_drewN|apply keep_drew|apply keep_alloc)|exact HK.out)) hk (.inl rfl));have n1_:=Aside0.mk (hb);have n2_:=Aside0.mk (hi);clear HK;clear HB;clear HI0;have HK:=n0_;have HB:=n1_;have HI0:=n2_;clear n0_ n1_ n2_;(try clear hb);(try clear hb2);(try clear hk);(try clear hi)))
    go_ret
    exact ⟨by first|rfl|(simp [errW_none,errW_some] <;> rfl)|(simp [*,errW_none,errW_some] <;> rfl),by repeat (first|(with_reducible first|exact HI0.out|apply IsS90.alloc|apply IsS90.drewN|apply IsS90.drew|apply IsS90.set_1|apply IsS90.set_2)|exact HI0.out),by repeat (first|(with_reducible first|exact HB.out|apply below_alloc|apply pw_below_drewN|apply below_drew1|refine below_set ?_ (IsS90.ge HI0.out))|exact HB.out),by repeat (first|(with_reducible first|exact HK.out|apply KeepBut.set_|apply keep_drewN|apply keep_drew|apply keep_alloc)|exact HK.out)⟩
def spec_l1Once.f (s0_0 : List Int) (s0_1 : Int) (s0_2 : Int) (a1 : Int) : Option (Bool × Int × Int):=(spec_l1Below.f s0_0 s0_1 s0_2 a1).bind fun bt237=>(some ((bt237.1 == 0),bt237.2.1,bt237.2.2))
set_option maxHeartbeats 8000000 in
set_option maxRecDepth 100000 in
theorem spec_l1Once.calls (g : Nat) (s0_0 : List Int) (s0_1 : Int) (s0_2 : Int) (a1 : Int) (r1 : Bool) (r2 : Int) (r3 : Int) (w0 w : World) (hI : IsS90 w0 w g s0_0 s0_1 s0_2) (hB : Below w0.heap.size w0 w) (h : spec_l1Once.f s0_0 s0_1 s0_2 a1 = some (r1,r2,r3)) :
  Calls Tryd.prog 46 #[.pointer (some ⟨g,0,none⟩),.int .i64 a1] w fun e w'=>e = .returned (.bool r1) ∧ IsS90 w0 w' g s0_0 r2 r3 ∧ Below w0.heap.size w0 w' ∧ KeepBut w w' g none:=by
 have HI0:=Aside0.mk hI
 have HK:=Aside0.mk (KeepBut.refl w g none)
 have HL:=Aside0.mk hB.size
 clear hI
 have HW0:=Aside0.mk hB.size
 have HB:=Aside0.mk hB
 clear hB
 have H : ((spec_l1Below.f s0_0 s0_1 s0_2 a1).bind fun bt237=>(some ((bt237.1 == 0),bt237.2.1,bt237.2.2))) = some (r1,r2,r3):=h
 clear h
 replace H:=Option.bind_eq_some_iff.mp H
 obtain ⟨⟨t237,t238,t239⟩,A30,H⟩:=H
 replace H : (some ((t237 == 0),t238,t239)) = some (r1,r2,r3):=H
 have A3:=Aside0.mk A30
 clear A30
 simp only [Option.some.injEq,Prod.mk.injEq] at H
 obtain ⟨rfl,rfl,rfl⟩:=H
 go_enter Tryd.func46,Tryd.ntmps46
 go_wp2_with (first|((with_reducible refine gate_callee (f:=48) rfl ?_);refine goesL_ (some 7) rfl rfl Tryd.func48 (by kernel_rfl) rfl #[.pointer (some ⟨g,0,none⟩),.int .i64 a1] rfl (by (try simp only [List.map_toArray,List.map_cons,List.map_nil]);first|done|rfl|(simp only [List.length_drop,List.length_take];rfl)) ?_;(with_reducible refine (spec_l1Below.calls g s0_0 s0_1 s0_2 a1 t237 t238 t239 w0 _ ?side1 ?side2 A3.out).mono ?_);(case side1=>repeat (first|(with_reducible first|exact HI0.out|apply IsS90.alloc|apply IsS90.drewN|apply IsS90.drew|apply IsS90.set_1|apply IsS90.set_2)|exact HI0.out));(case side2=>repeat (first|(with_reducible first|exact HB.out|apply below_alloc|apply pw_below_drewN|apply below_drew1|refine below_set ?_ (IsS90.ge HI0.out))|exact HB.out));rintro e w4 ⟨rfl,hi,hb,hk⟩;refine ⟨_,rfl,?_⟩;have n0_:=Aside0.mk (KeepBut.trans (by repeat (first|(with_reducible first|exact HK.out|apply KeepBut.set_|apply keep_drewN|apply keep_drew|apply keep_alloc)|exact HK.out)) hk (.inl rfl));have n1_:=Aside0.mk (hb);have n2_:=Aside0.mk (hi);clear HK;clear HB;clear HI0;have HK:=n0_;have HB:=n1_;have HI0:=n2_;clear n0_ n1_ n2_;(try clear hb);(try clear hb2);(try clear hk);(try clear hi)))
 go_ret
 exact ⟨by first|rfl|(simp [errW_none,errW_some] <;> rfl)|(simp [*,errW_none,errW_some] <;> rfl),by repeat (first|(with_reducible first|exact HI0.out|apply IsS90.alloc|apply IsS90.drewN|apply IsS90.drew|apply IsS90.set_1|apply IsS90.set_2)|exact HI0.out),by repeat (first|(with_reducible first|exact HB.out|apply below_alloc|apply pw_below_drewN|apply below_drew1|refine below_set ?_ (IsS90.ge HI0.out))|exact HB.out),by repeat (first|(with_reducible first|exact HK.out|apply KeepBut.set_|apply keep_drewN|apply keep_drew|apply keep_alloc)|exact HK.out)⟩
def spec_l1of.l0 : Nat → Int → ByteArray → List Int → Int → List Int → Int → Int → Option (ByteArray × Int × Int)
 | 0,_,_,_,_,_,_,_=>none
 | k + 1,x1,x2,x7,x8,x1000,x1001,x1002=>if x8 < x1 then ((spec_l1Below.f x1000 x1001 x1002 (x2.size : Int)).bind fun bt240=>(if 0 ≤ bt240.1 then (if bt240.1 < (x2.size : Int) then (if x7.length < 140737488355328 then (spec_l1of.l0 k x1 x2 (x7 ++ [bt x2 bt240.1]) (wrap64 (x8 + 1)) x1000 bt240.2.1 bt240.2.2) else (none)) else (none)) else (none))) else (some (strOfNums x7,x1001,x1002))
def spec_l1of.f (k : Nat) (s0_0 : List Int) (s0_1 : Int) (s0_2 : Int) (a1 : Int) (a2 : ByteArray) : Option (ByteArray × Int × Int):=spec_l1of.l0 k a1 a2 ([] : List Int) 0 s0_0 s0_1 s0_2
set_option maxHeartbeats 8000000 in
set_option maxRecDepth 100000 in
theorem spec_l1of.calls (k : Nat) (g : Nat) (s0_0 : List Int) (s0_1 : Int) (s0_2 : Int) (a1 : Int) (a2 : ByteArray) (r1 : ByteArray) (r2 : Int) (r3 : Int) (w0 w : World) (hI : IsS90 w0 w g s0_0 s0_1 s0_2) (hB : Below w0.heap.size w0 w) (h : spec_l1of.f k s0_0 s0_1 s0_2 a1 a2 = some (r1,r2,r3)) :
  Calls Tryd.prog 47 #[.pointer (some ⟨g,0,none⟩),.int .i64 a1,.string a2] w fun e w'=>e = .returned (.string r1) ∧ IsS90 w0 w' g s0_0 r2 r3 ∧ Below w0.heap.size w0 w' ∧ KeepBut w w' g none:=by
 have HI0:=Aside0.mk hI
 have HK:=Aside0.mk (KeepBut.refl w g none)
 have HL:=Aside0.mk hB.size
 clear hI
 have HW0:=Aside0.mk hB.size
 have HB:=Aside0.mk hB
 clear hB
 have H : (spec_l1of.l0 k a1 a2 ([] : List Int) 0 s0_0 s0_1 s0_2) = some (r1,r2,r3):=h
 clear h
 have H':=Aside0.mk H
 clear H
 go_enter Tryd.func47,Tryd.ntmps47
 go_wp2
 go_loopg [7,8] k (fun kq v7 v8 w'=>∃ (x7_1 : List Int) (x8_1 : Int) (x1001_1 : Int) (x1002_1 : Int),v8 = .int .i64 x8_1 ∧ Aside0 (spec_l1of.l0 kq a1 a2 x7_1 x8_1 s0_0 x1001_1 x1002_1 = some (r1,r2,r3)) ∧ Aside0 (kq ≤ k) ∧ Aside0 (Kd.R (Kd.int .u8) 5 w' w.heap.size (fun _=>True) v7 x7_1) ∧ Aside0 (IsS90 w0 w' g s0_0 x1001_1 x1002_1) ∧ Aside0 (KeepBut w w' g none) ∧ Aside0 (Below w0.heap.size w0 w'))
 case atStart=>exact ⟨(([] : List Int)),(0),(s0_1),(s0_2),(by first|rfl|(simp;done)|(simp [*];done)),H',⟨Nat.le_refl _⟩,⟨by first|exact Kd.R_nil _ _ _ _ _|exact Kd.N_nil _ _ _ _ _|exact Kd.V_nil _ _ _ _ _|exact Kd.Q_nil _ _ _ _ _|exact Kd.S_nil _ _ _ _ _⟩,⟨by repeat (first|(with_reducible first|exact HI0.out|apply IsS90.alloc|apply IsS90.drewN|apply IsS90.drew|apply IsS90.set_1|apply IsS90.set_2)|exact HI0.out)⟩,⟨by repeat (first|(with_reducible first|exact HK.out|apply KeepBut.set_|apply keep_drewN|apply keep_drew|apply keep_alloc)|exact HK.out)⟩,⟨by repeat (first|(with_reducible first|exact HB.out|apply below_alloc|apply pw_below_drewN|apply below_drew1|refine below_set ?_ (IsS90.ge HI0.out))|exact HB.out)⟩⟩
 case round =>
  clear H'
  try clear p2
  obtain ⟨x7_1,x8_1,x1001_1,x1002_1,rfl,HA,HK1,HO_7,HI0,HK,HB⟩:=hrel
  cases gk with
  | zero=>exact absurd HA.out (by simp [spec_l1of.l0])
  | succ k1 =>
   have H:=HA.out
   clear HA
   simp only [spec_l1of.l0] at H
   by_cases c4 : x8_1 < a1
   ·rw [if_pos c4] at H
    have c4b0 : decide (x8_1 < a1) = true:=decide_eq_true c4
    clear c4
    replace H:=Option.bind_eq_some_iff.mp H
    obtain ⟨⟨t240,t241,t242⟩,A50,H⟩:=H
    replace H : (if 0 ≤ t240 then (if t240 < (a2.size : Int) then (if x7_1.length < 140737488355328 then (spec_l1of.l0 k1 a1 a2 (x7_1 ++ [bt a2 t240]) (wrap64 (x8_1 + 1)) s0_0 t241 t242) else (none)) else (none)) else (none)) = some (r1,r2,r3):=H
    have A5:=Aside0.mk A50
    clear A50
    by_cases c6 : 0 ≤ t240
    ·rw [if_pos c6] at H
     have c6b0 : decide (0 ≤ t240) = true:=decide_eq_true c6
     clear c6
     by_cases c7 : t240 < (a2.size : Int)
     ·rw [if_pos c7] at H
      have c7b0 : decide (t240 < (a2.size : Int)) = true:=decide_eq_true c7
      clear c7
      by_cases c9 : x7_1.length < 140737488355328
      ·rw [if_pos c9] at H
       have LMc9:=Aside0.mk c9
       clear c9
       obtain ⟨y243,hy243⟩ : ∃ y_ : List Int,y_ = (x7_1 ++ [bt a2 t240]):=⟨_,rfl⟩
       replace H : (spec_l1of.l0 k1 a1 a2 y243 (wrap64 (x8_1 + 1)) s0_0 t241 t242) = some (r1,r2,r3):=by first|(rw [hy243];with_reducible exact H)|(have H2_:=(Option.bind_some _ _).symm.trans H;rw [hy243];with_reducible exact H2_)|(have H2_:=(Option.bind_some _ _).symm.trans H;with_reducible exact H2_)|with_reducible exact H|(rw [hy243];exact H)|exact H
       have Ny243:=Aside0.mk hy243
       clear hy243
       have H':=Aside0.mk H
       clear H
       go_wp2_with (first|((with_reducible refine gate_callee (f:=48) rfl ?_);refine goesL_ (some 19) rfl rfl Tryd.func48 (by kernel_rfl) rfl #[.pointer (some ⟨g,0,none⟩),.int .i64 (a2.size : Int)] rfl (by (try simp only [List.map_toArray,List.map_cons,List.map_nil]);first|done|rfl|(simp only [List.length_drop,List.length_take];rfl)) ?_;(with_reducible refine (spec_l1Below.calls g s0_0 x1001_1 x1002_1 (a2.size : Int) t240 t241 t242 w0 _ ?side1 ?side2 A5.out).mono ?_);(case side1=>repeat (first|(with_reducible first|exact HI0.out|apply IsS90.alloc|apply IsS90.drewN|apply IsS90.drew|apply IsS90.set_1|apply IsS90.set_2)|exact HI0.out));(case side2=>repeat (first|(with_reducible first|exact HB.out|apply below_alloc|apply pw_below_drewN|apply below_drew1|refine below_set ?_ (IsS90.ge HI0.out))|exact HB.out));rintro e w10 ⟨rfl,hi,hb,hk⟩;refine ⟨_,rfl,?_⟩;have n0_:=Aside0.mk (Kd.R_mono (Kd.R_keep (IsS90.apart (show IsS90 w0 _ g s0_0 x1001_1 x1002_1 from by repeat (first|(with_reducible first|exact HI0.out|apply IsS90.alloc|apply IsS90.drewN|apply IsS90.drew|apply IsS90.set_1|apply IsS90.set_2)|exact HI0.out)) (by (with_reducible repeat (first|apply Kd.R_alloc|apply Kd.R_drewN|apply Kd.R_drew));exact HO_7.out) (by decide)) hk (fun _ h=>h.2)) (fun _ h=>h.1));have n1_:=Aside0.mk (KeepBut.trans (by repeat (first|(with_reducible first|exact HK.out|apply KeepBut.set_|apply keep_drewN|apply keep_drew|apply keep_alloc)|exact HK.out)) hk (.inl rfl));have n2_:=Aside0.mk (hb);have n3_:=Aside0.mk (hi);clear HO_7;clear HK;clear HB;clear HI0;have HO_7:=n0_;have HK:=n1_;have HB:=n2_;have HI0:=n3_;clear n0_ n1_ n2_ n3_;(try clear hb);(try clear hb2);(try clear hk);(try clear hi);have p8 : 0 ≤ (t240 : Int):=of_decide_eq_true (by first|(with_reducible assumption)|assumption);have q8 : t240 < (a2.size : Int):=of_decide_eq_true (by first|(with_reducible assumption)|assumption);have hx8:=bt_at a2 t240;replace p8:=eq_true p8;replace q8:=eq_true q8)|((with_reducible refine gate_builtin (b:=.append) (xs:=#[.tmp 14,.tmp 21]) rfl ?_);at_builtin;refine Kd.R_append (Kd.int .u8) w.heap.size rfl (.tmp 14) (.tmp 21) 31 5 (.int .u8 0) 1 rfl Tryd.underlying31 info5 rfl (by decide) (by omega) u7 x7_1 (bt a2 t240) [.int .u8 (bt a2 t240)] (fun _=>True) (fun _=>False) rfl rfl ?aP (fun _ hk=>hk.elim) ?aF ?aO (Below.refl _ _) ?aS ?aL ?_;(case aP=>exact rfl);(case aF=>exact (fun _ _=>trivial));(case aO=>exact (by (with_reducible repeat (first|apply Kd.R_alloc|apply Kd.R_drewN|apply Kd.R_drew));exact HO_7.out));(case aS=>exact (keep_size (w:=w) (g:=g) (row:=none) (by repeat (first|(with_reducible first|exact HK.out|apply KeepBut.set_|apply keep_drewN|apply keep_drew|apply keep_alloc)|exact HK.out))));(case aL=>have:=LMc9.out;omega);intro v244 w11 ho hb hg hat;rw [← Ny243.out] at ho;have n0_:=Aside0.mk (IsS90.grown (by repeat (first|(with_reducible first|exact HI0.out|apply IsS90.alloc|apply IsS90.drewN|apply IsS90.drew|apply IsS90.set_1|apply IsS90.set_2)|exact HI0.out)) hg (IsS90.own_ne HI0.out HO_7.out (by decide)));have n1_:=Aside0.mk (below_weaken (by repeat (first|(with_reducible first|exact HB.out|apply below_alloc|apply pw_below_drewN|apply below_drew1|refine below_set ?_ (IsS90.ge HI0.out))|exact HB.out)) HL.out hb);have n2_:=Aside0.mk (KeepBut.trans (by repeat (first|(with_reducible first|exact HK.out|apply KeepBut.set_|apply keep_drewN|apply keep_drew|apply keep_alloc)|exact HK.out)) (KeepBut.of_grown hg g) (Kd.R_base2 HO_7.out));have n3_:=Aside0.mk (ho);clear HI0;clear HB;clear HK;clear HO_7;have HI0:=n0_;have HB:=n1_;have HK:=n2_;have HO245:=n3_;clear n0_ n1_ n2_ n3_;clear ho hb hg hat))
       go_roundg k1
       case measure=>have:=HK1.out;omega
       case rel=>exact ⟨(y243),(wrap64 (x8_1 + 1)),(t241),(t242),(by first|rfl|(simp;done)|(simp [*];done)),H',⟨by have:=HK1.out;omega⟩,⟨by (with_reducible repeat (first|apply Kd.R_alloc|apply Kd.R_drewN|apply Kd.R_drew));exact HO245.out⟩,⟨by repeat (first|(with_reducible first|exact HI0.out|apply IsS90.alloc|apply IsS90.drewN|apply IsS90.drew|apply IsS90.set_1|apply IsS90.set_2)|exact HI0.out)⟩,⟨by repeat (first|(with_reducible first|exact HK.out|apply KeepBut.set_|apply keep_drewN|apply keep_drew|apply keep_alloc)|exact HK.out)⟩,⟨by repeat (first|(with_reducible first|exact HB.out|apply below_alloc|apply pw_below_drewN|apply below_drew1|refine below_set ?_ (IsS90.ge HI0.out))|exact HB.out)⟩⟩
      ·rw [if_neg c9] at H
       exact absurd H (by simp)
     ·rw [if_neg c7] at H
      exact absurd H (by simp)
    ·rw [if_neg c6] at H
     exact absurd H (by simp)
   ·rw [if_neg c4] at H
    have c4b0 : decide (x8_1 < a1) = false:=decide_eq_false c4
    clear c4
    simp only [Option.some.injEq,Prod.mk.injEq] at H
    obtain ⟨rfl,rfl,rfl⟩:=H
    have hcv12:=own_string (P:=Tryd.prog) Tryd.underlying31 Tryd.underlying5 Tryd.underlying9 (Kd.own_of_R HO_7.out)
    go_wp2
    go_ret
    exact ⟨by first|rfl|(simp [errW_none,errW_some] <;> rfl)|(simp [*,errW_none,errW_some] <;> rfl),by repeat (first|(with_reducible first|exact HI0.out|apply IsS90.alloc|apply IsS90.drewN|apply IsS90.drew|apply IsS90.set_1|apply IsS90.set_2)|exact HI0.out),by repeat (first|(with_reducible first|exact HB.out|apply below_alloc|apply pw_below_drewN|apply below_drew1|refine below_set ?_ (IsS90.ge HI0.out))|exact HB.out),by repeat (first|(with_reducible first|exact HK.out|apply KeepBut.set_|apply keep_drewN|apply keep_drew|apply keep_alloc)|exact HK.out)⟩
def spec_l1bend.f (k : Nat) (s0_0 : List Int) (s0_1 : Int) (s0_2 : Int) (a1 : ByteArray) : Option (ByteArray × Int × Int):=(spec_l1Below.f s0_0 s0_1 s0_2 (wrap64 ((a1.size : Int) + 1))).bind fun bt246=>((spec_l1Below.f s0_0 bt246.2.1 bt246.2.2 3).bind fun bt249=>(if bt249.1 = 0 then (if 0 ≤ bt246.1 then (if bt246.1 ≤ (a1.size : Int) then ((spec_l1of.f k s0_0 bt249.2.1 bt249.2.2 1 (⟨#[97,40,41,123,125,91,93,59,44,61,43,45,42,47,60,33,126,36,34,120,49,32,46,124,94]⟩ : ByteArray)).bind fun bt252=>(if (a1.extract 0 (bt246.1 : Int).toNat).size + bt252.1.size ≤ 9223372036854775807 then (if ((a1.extract 0 (bt246.1 : Int).toNat) ++ bt252.1).size + (a1.extract (bt246.1 : Int).toNat a1.size).size ≤ 9223372036854775807 then (some (((a1.extract 0 (bt246.1 : Int).toNat) ++ bt252.1) ++ (a1.extract (bt246.1 : Int).toNat a1.size),bt252.2.1,bt252.2.2)) else (none)) else (none))) else (none)) else (none)) else (if bt249.1 = 1 then (if 0 ≤ bt246.1 then (if bt246.1 ≤ (a1.size : Int) then (some (a1.extract 0 (bt246.1 : Int).toNat,bt249.2.1,bt249.2.2)) else (none)) else (none)) else (if bt246.1 < (a1.size : Int) then (if 0 ≤ bt246.1 then (if bt246.1 ≤ (a1.size : Int) then (if 0 ≤ (wrap64 (bt246.1 + 1)) then (if (wrap64 (bt246.1 + 1)) ≤ (a1.size : Int) then (if (a1.extract 0 (bt246.1 : Int).toNat).size + (a1.extract ((wrap64 (bt246.1 + 1)) : Int).toNat a1.size).size ≤ 9223372036854775807 then (some ((a1.extract 0 (bt246.1 : Int).toNat) ++ (a1.extract ((wrap64 (bt246.1 + 1)) : Int).toNat a1.size),bt249.2.1,bt249.2.2)) else (none)) else (none)) else (none)) else (none)) else (none)) else (if a1.size + 1 ≤ 9223372036854775807 then (some (a1 ++ (⟨#[125]⟩ : ByteArray),bt249.2.1,bt249.2.2)) else (none))))))
def spec_l1bend.T4 : Bool × List (List Nat × List Nat):=(true,[([],[]),([],[]),([0,1],[0,1]),([],[]),([3],[3]),([2,4],[2,4]),([],[]),([],[]),([6,7],[6,7]),([5,8],[5,8]),([9,4,0,1,2,3,4,5,6,7,8,9],[9])])
def spec_l1bend.B4 : List Nat:=[0,0,3,0,8,31,0,0,192,511,1023]
theorem spec_l1bend.tab4 : rtab .any (opsOf Tryd.f74 4) = spec_l1bend.T4:=by kernel_rfl
theorem spec_l1bend.bits4 : waitsOk spec_l1bend.T4.2 spec_l1bend.B4 = true:=by kernel_rfl
def spec_l1bend.T8 : Bool × List (List Nat × List Nat):=(true,[([],[]),([],[]),([0,1],[0,1]),([],[]),([],[]),([4],[4]),([3,5],[3,5]),([2,6],[2,6]),([7,0,1,2,3,4,5,6,7],[7])])
def spec_l1bend.B8 : List Nat:=[0,0,3,0,0,16,56,127,255]
theorem spec_l1bend.tab8 : rtab .any (opsOf Tryd.f74 8) = spec_l1bend.T8:=by kernel_rfl
theorem spec_l1bend.bits8 : waitsOk spec_l1bend.T8.2 spec_l1bend.B8 = true:=by kernel_rfl
set_option maxHeartbeats 8000000 in
set_option maxRecDepth 100000 in
theorem spec_l1bend.calls (k : Nat) (g : Nat) (s0_0 : List Int) (s0_1 : Int) (s0_2 : Int) (a1 : ByteArray) (r1 : ByteArray) (r2 : Int) (r3 : Int) (w0 w : World) (hI : IsS90 w0 w g s0_0 s0_1 s0_2) (hB : Below w0.heap.size w0 w) (h : spec_l1bend.f k s0_0 s0_1 s0_2 a1 = some (r1,r2,r3)) :
  Calls Tryd.prog 74 #[.pointer (some ⟨g,0,none⟩),.string a1] w fun e w'=>e = .returned (.string r1) ∧ IsS90 w0 w' g s0_0 r2 r3 ∧ Below w0.heap.size w0 w' ∧ KeepBut w w' g none:=by
 have HI0:=Aside0.mk hI
 have HK:=Aside0.mk (KeepBut.refl w g none)
 have HL:=Aside0.mk hB.size
 clear hI
 have HW0:=Aside0.mk hB.size
 have HB:=Aside0.mk hB
 clear hB
 have H : ((spec_l1Below.f s0_0 s0_1 s0_2 (wrap64 ((a1.size : Int) + 1))).bind fun bt246=>((spec_l1Below.f s0_0 bt246.2.1 bt246.2.2 3).bind fun bt249=>(if bt249.1 = 0 then (if 0 ≤ bt246.1 then (if bt246.1 ≤ (a1.size : Int) then ((spec_l1of.f k s0_0 bt249.2.1 bt249.2.2 1 (⟨#[97,40,41,123,125,91,93,59,44,61,43,45,42,47,60,33,126,36,34,120,49,32,46,124,94]⟩ : ByteArray)).bind fun bt252=>(if (a1.extract 0 (bt246.1 : Int).toNat).size + bt252.1.size ≤ 9223372036854775807 then (if ((a1.extract 0 (bt246.1 : Int).toNat) ++ bt252.1).size + (a1.extract (bt246.1 : Int).toNat a1.size).size ≤ 9223372036854775807 then (some (((a1.extract 0 (bt246.1 : Int).toNat) ++ bt252.1) ++ (a1.extract (bt246.1 : Int).toNat a1.size),bt252.2.1,bt252.2.2)) else (none)) else (none))) else (none)) else (none)) else (if bt249.1 = 1 then (if 0 ≤ bt246.1 then (if bt246.1 ≤ (a1.size : Int) then (some (a1.extract 0 (bt246.1 : Int).toNat,bt249.2.1,bt249.2.2)) else (none)) else (none)) else (if bt246.1 < (a1.size : Int) then (if 0 ≤ bt246.1 then (if bt246.1 ≤ (a1.size : Int) then (if 0 ≤ (wrap64 (bt246.1 + 1)) then (if (wrap64 (bt246.1 + 1)) ≤ (a1.size : Int) then (if (a1.extract 0 (bt246.1 : Int).toNat).size + (a1.extract ((wrap64 (bt246.1 + 1)) : Int).toNat a1.size).size ≤ 9223372036854775807 then (some ((a1.extract 0 (bt246.1 : Int).toNat) ++ (a1.extract ((wrap64 (bt246.1 + 1)) : Int).toNat a1.size),bt249.2.1,bt249.2.2)) else (none)) else (none)) else (none)) else (none)) else (none)) else (if a1.size + 1 ≤ 9223372036854775807 then (some (a1 ++ (⟨#[125]⟩ : ByteArray),bt249.2.1,bt249.2.2)) else (none))))))) = some (r1,r2,r3):=h
 clear h
 replace H:=Option.bind_eq_some_iff.mp H
 obtain ⟨⟨t246,t247,t248⟩,A30,H⟩:=H
 replace H : ((spec_l1Below.f s0_0 t247 t248 3).bind fun bt249=>(if bt249.1 = 0 then (if 0 ≤ t246 then (if t246 ≤ (a1.size : Int) then ((spec_l1of.f k s0_0 bt249.2.1 bt249.2.2 1 (⟨#[97,40,41,123,125,91,93,59,44,61,43,45,42,47,60,33,126,36,34,120,49,32,46,124,94]⟩ : ByteArray)).bind fun bt252=>(if (a1.extract 0 (t246 : Int).toNat).size + bt252.1.size ≤ 9223372036854775807 then (if ((a1.extract 0 (t246 : Int).toNat) ++ bt252.1).size + (a1.extract (t246 : Int).toNat a1.size).size ≤ 9223372036854775807 then (some (((a1.extract 0 (t246 : Int).toNat) ++ bt252.1) ++ (a1.extract (t246 : Int).toNat a1.size),bt252.2.1,bt252.2.2)) else (none)) else (none))) else (none)) else (none)) else (if bt249.1 = 1 then (if 0 ≤ t246 then (if t246 ≤ (a1.size : Int) then (some (a1.extract 0 (t246 : Int).toNat,bt249.2.1,bt249.2.2)) else (none)) else (none)) else (if t246 < (a1.size : Int) then (if 0 ≤ t246 then (if t246 ≤ (a1.size : Int) then (if 0 ≤ (wrap64 (t246 + 1)) then (if (wrap64 (t246 + 1)) ≤ (a1.size : Int) then (if (a1.extract 0 (t246 : Int).toNat).size + (a1.extract ((wrap64 (t246 + 1)) : Int).toNat a1.size).size ≤ 9223372036854775807 then (some ((a1.extract 0 (t246 : Int).toNat) ++ (a1.extract ((wrap64 (t246 + 1)) : Int).toNat a1.size),bt249.2.1,bt249.2.2)) else (none)) else (none)) else (none)) else (none)) else (none)) else (if a1.size + 1 ≤ 9223372036854775807 then (some (a1 ++ (⟨#[125]⟩ : ByteArray),bt249.2.1,bt249.2.2)) else (none)))))) = some (r1,r2,r3):=H
 have A3:=Aside0.mk A30
 clear A30
 replace H:=Option.bind_eq_some_iff.mp H
 obtain ⟨⟨t249,t250,t251⟩,A40,H⟩:=H
 replace H : (if t249 = 0 then (if 0 ≤ t246 then (if t246 ≤ (a1.size : Int) then ((spec_l1of.f k s0_0 t250 t251 1 (⟨#[97,40,41,123,125,91,93,59,44,61,43,45,42,47,60,33,126,36,34,120,49,32,46,124,94]⟩ : ByteArray)).bind fun bt252=>(if (a1.extract 0 (t246 : Int).toNat).size + bt252.1.size ≤ 9223372036854775807 then (if ((a1.extract 0 (t246 : Int).toNat) ++ bt252.1).size + (a1.extract (t246 : Int).toNat a1.size).size ≤ 9223372036854775807 then (some (((a1.extract 0 (t246 : Int).toNat) ++ bt252.1) ++ (a1.extract (t246 : Int).toNat a1.size),bt252.2.1,bt252.2.2)) else (none)) else (none))) else (none)) else (none)) else (if t249 = 1 then (if 0 ≤ t246 then (if t246 ≤ (a1.size : Int) then (some (a1.extract 0 (t246 : Int).toNat,t250,t251)) else (none)) else (none)) else (if t246 < (a1.size : Int) then (if 0 ≤ t246 then (if t246 ≤ (a1.size : Int) then (if 0 ≤ (wrap64 (t246 + 1)) then (if (wrap64 (t246 + 1)) ≤ (a1.size : Int) then (if (a1.extract 0 (t246 : Int).toNat).size + (a1.extract ((wrap64 (t246 + 1)) : Int).toNat a1.size).size ≤ 9223372036854775807 then (some ((a1.extract 0 (t246 : Int).toNat) ++ (a1.extract ((wrap64 (t246 + 1)) : Int).toNat a1.size),t250,t251)) else (none)) else (none)) else (none)) else (none)) else (none)) else (if a1.size + 1 ≤ 9223372036854775807 then (some (a1 ++ (⟨#[125]⟩ : ByteArray),t250,t251)) else (none))))) = some (r1,r2,r3):=H
 have A4:=Aside0.mk A40
 clear A40
 by_cases c5 : t249 = 0
 ·rw [if_pos c5] at H
  have c5b0 : (t249 == 0) = true:=beq_iff_eq.mpr c5
  have c5b1 : (t249 != 0) = false:=bne_eq_false_iff_eq.mpr c5
  clear c5
  by_cases c6 : 0 ≤ t246
  ·rw [if_pos c6] at H
   have c6b0:=eq_true c6
   have c6b1 : decide (0 ≤ t246) = true:=decide_eq_true c6
   clear c6
   by_cases c7 : t246 ≤ (a1.size : Int)
   ·rw [if_pos c7] at H
    have c7b0:=eq_true c7
    have c7b1 : decide (t246 ≤ (a1.size : Int)) = true:=decide_eq_true c7
    clear c7
    replace H:=Option.bind_eq_some_iff.mp H
    obtain ⟨⟨t252,t253,t254⟩,A80,H⟩:=H
    replace H : (if (a1.extract 0 (t246 : Int).toNat).size + t252.size ≤ 9223372036854775807 then (if ((a1.extract 0 (t246 : Int).toNat) ++ t252).size + (a1.extract (t246 : Int).toNat a1.size).size ≤ 9223372036854775807 then (some (((a1.extract 0 (t246 : Int).toNat) ++ t252) ++ (a1.extract (t246 : Int).toNat a1.size),t253,t254)) else (none)) else (none)) = some (r1,r2,r3):=H
    have A8:=Aside0.mk A80
    clear A80
    by_cases c9 : (a1.extract 0 (t246 : Int).toNat).size + t252.size ≤ 9223372036854775807
    ·rw [if_pos c9] at H
     have c9b0:=eq_true c9
     have c9b1 : decide ((a1.extract 0 (t246 : Int).toNat).size + t252.size ≤ 9223372036854775807) = true:=decide_eq_true c9
     try have c9b2 : (9223372036854775807 < (a1.extract 0 (t246 : Int).toNat).size + t252.size) = False:=eq_false (Nat.not_lt.2 c9)
     have c10b0:=eq_true (of_decide_eq_true (by first|(with_reducible assumption)|assumption) : 0 ≤ t246)
     have c11b0:=eq_true (of_decide_eq_true (by first|(with_reducible assumption)|assumption) : t246 ≤ (a1.size : Int))
     by_cases c12 : ((a1.extract 0 (t246 : Int).toNat) ++ t252).size + (a1.extract (t246 : Int).toNat a1.size).size ≤ 9223372036854775807
     ·rw [if_pos c12] at H
      have c12b0:=eq_true c12
      have c12b1 : decide (((a1.extract 0 (t246 : Int).toNat) ++ t252).size + (a1.extract (t246 : Int).toNat a1.size).size ≤ 9223372036854775807) = true:=decide_eq_true c12
      try have c12b2 : (9223372036854775807 < ((a1.extract 0 (t246 : Int).toNat) ++ t252).size + (a1.extract (t246 : Int).toNat a1.size).size) = False:=eq_false (Nat.not_lt.2 c12)
      try (have c12b4:=c12b2;simp only [ByteArray.size_append] at c12b4)
      simp only [Option.some.injEq,Prod.mk.injEq] at H
      obtain ⟨rfl,rfl,rfl⟩:=H
      go_enter Tryd.func74,Tryd.ntmps74
      try go_wp2_with (first|((with_reducible refine gate_callee (f:=48) rfl ?_);refine goesL_ (some 10) rfl rfl Tryd.func48 (by kernel_rfl) rfl #[.pointer (some ⟨g,0,none⟩),.int .i64 (wrap64 ((a1.size : Int) + 1))] rfl (by (try simp only [List.map_toArray,List.map_cons,List.map_nil]);first|done|rfl|(simp only [List.length_drop,List.length_take];rfl)) ?_;(with_reducible refine (spec_l1Below.calls g s0_0 s0_1 s0_2 (wrap64 ((a1.size : Int) + 1)) t246 t247 t248 w0 _ ?side1 ?side2 A3.out).mono ?_);(case side1=>repeat (first|(with_reducible first|exact HI0.out|apply IsS90.alloc|apply IsS90.drewN|apply IsS90.drew|apply IsS90.set_1|apply IsS90.set_2)|exact HI0.out));(case side2=>repeat (first|(with_reducible first|exact HB.out|apply below_alloc|apply pw_below_drewN|apply below_drew1|refine below_set ?_ (IsS90.ge HI0.out))|exact HB.out));rintro e w13 ⟨rfl,hi,hb,hk⟩;refine ⟨_,rfl,?_⟩;have n0_:=Aside0.mk (KeepBut.trans (by repeat (first|(with_reducible first|exact HK.out|apply KeepBut.set_|apply keep_drewN|apply keep_drew|apply keep_alloc)|exact HK.out)) hk (.inl rfl));have n1_:=Aside0.mk (hb);have n2_:=Aside0.mk (hi);clear HK;clear HB;clear HI0;have HK:=n0_;have HB:=n1_;have HI0:=n2_;clear n0_ n1_ n2_;(try clear hb);(try clear hb2);(try clear hk);(try clear hi))|((with_reducible refine gate_callee (f:=48) rfl ?_);refine goesL_ (some 12) rfl rfl Tryd.func48 (by kernel_rfl) rfl #[.pointer (some ⟨g,0,none⟩),.int .i64 3] rfl (by (try simp only [List.map_toArray,List.map_cons,List.map_nil]);first|done|rfl|(simp only [List.length_drop,List.length_take];rfl)) ?_;(with_reducible refine (spec_l1Below.calls g s0_0 t247 t248 3 t249 t250 t251 w0 _ ?side1 ?side2 A4.out).mono ?_);(case side1=>repeat (first|(with_reducible first|exact HI0.out|apply IsS90.alloc|apply IsS90.drewN|apply IsS90.drew|apply IsS90.set_1|apply IsS90.set_2)|exact HI0.out));(case side2=>repeat (first|(with_reducible first|exact HB.out|apply below_alloc|apply pw_below_drewN|apply below_drew1|refine below_set ?_ (IsS90.ge HI0.out))|exact HB.out));rintro e w14 ⟨rfl,hi,hb,hk⟩;refine ⟨_,rfl,?_⟩;have n0_:=Aside0.mk (KeepBut.trans (by repeat (first|(with_reducible first|exact HK.out|apply KeepBut.set_|apply keep_drewN|apply keep_drew|apply keep_alloc)|exact HK.out)) hk (.inl rfl));have n1_:=Aside0.mk (hb);have n2_:=Aside0.mk (hi);clear HK;clear HB;clear HI0;have HK:=n0_;have HB:=n1_;have HI0:=n2_;clear n0_ n1_ n2_;(try clear hb);(try clear hb2);(try clear hk);(try clear hi)))
      have n0_:=Aside0.mk (IsS90.drew HI0.out)
      have n1_:=Aside0.mk (keep_drew HK.out)
      have n2_:=Aside0.mk (below_drew1 HB.out)
      clear HI0
      clear HK
      clear HB
      have HI0:=n0_
      have HK:=n1_
      have HB:=n2_
      clear n0_ n1_ n2_
      refine start_ (n:=11) (S:=fun w'=>True) (ds:=[]) #[false,false,false,false,false,false,false,false,false,false,false] (by kernel_rfl) rfl rfl trivial (fun hHeld=>?_);refine with_tabW spec_l1bend.tab4 spec_l1bend.bits4 (fun HT_ HW_=>?_)
      generalize w14.drew = w15 at HI0 HK HB hHeld ⊢
      refine pure_ (i:=0) (N:=some 15) (v:=?_) (a':=?_) #[true,false,false,false,false,false,false,false,false,false,false] rfl rfl (any_of HT_.out (by kernel_rfl)) (fun _ _ _ h=>h) (Or.inl ⟨by rfl,?_⟩) ?_ ?_
      rotate_left
      ·intro w'
       go_simp
       first|with_reducible rfl|(rw [if_neg (by simp only [ByteArray.size_append,ByteArray.size_extract,eq_iff_iff,iff_true,iff_false] at *;omega)];try with_reducible rfl)
      rotate_left
      ·simp only [Act.put,List.setIfInBounds_toArray,List.set_cons_zero,List.set_cons_succ,i64_w,i32_w]
       rfl
      refine pure_ (i:=1) (N:=some 16) (v:=?_) (a':=?_) #[true,true,false,false,false,false,false,false,false,false,false] rfl rfl (any_of HT_.out (by kernel_rfl)) (fun _ _ _ h=>h) (Or.inl ⟨by rfl,?_⟩) ?_ ?_
      rotate_left
      ·intro w'
       go_simp
       first|with_reducible rfl|(rw [if_neg (by simp only [ByteArray.size_append,ByteArray.size_extract,eq_iff_iff,iff_true,iff_false] at *;omega)];try with_reducible rfl)
      rotate_left
      ·simp only [Act.put,List.setIfInBounds_toArray,List.set_cons_zero,List.set_cons_succ,i64_w,i32_w]
       rfl
      refine pure_ (i:=2) (N:=some 17) (v:=?_) (a':=?_) #[true,true,true,false,false,false,false,false,false,false,false] rfl rfl (any_of HT_.out (by kernel_rfl)) (fun _ _ _ h=>h) (Or.inl ⟨by rfl,?_⟩) ?_ ?_
      rotate_left
      ·intro w'
       go_simp
       first|with_reducible rfl|(rw [if_neg (by simp only [ByteArray.size_append,ByteArray.size_extract,eq_iff_iff,iff_true,iff_false] at *;omega)];try with_reducible rfl)
      rotate_left
      ·simp only [Act.put,List.setIfInBounds_toArray,List.set_cons_zero,List.set_cons_succ,i64_w,i32_w]
       rfl
      refine pure_ (i:=3) (N:=some 18) (v:=?_) (a':=?_) #[true,true,true,true,false,false,false,false,false,false,false] rfl rfl (any_of HT_.out (by kernel_rfl)) (fun _ _ _ h=>h) (Or.inl ⟨by rfl,?_⟩) ?_ ?_
      rotate_left
      ·intro w'
       go_simp
       first|with_reducible rfl|(rw [if_neg (by simp only [ByteArray.size_append,ByteArray.size_extract,eq_iff_iff,iff_true,iff_false] at *;omega)];try with_reducible rfl)
      rotate_left
      ·simp only [Act.put,List.setIfInBounds_toArray,List.set_cons_zero,List.set_cons_succ,i64_w,i32_w]
       rfl
      refine pure_ (i:=6) (N:=some 21) (v:=?_) (a':=?_) #[true,true,true,true,false,false,true,false,false,false,false] rfl rfl (any_of HT_.out (by kernel_rfl)) (fun _ _ _ h=>h) (Or.inl ⟨by rfl,?_⟩) ?_ ?_
      rotate_left
      ·intro w'
       go_simp
       first|with_reducible rfl|(rw [if_neg (by simp only [ByteArray.size_append,ByteArray.size_extract,eq_iff_iff,iff_true,iff_false] at *;omega)];try with_reducible rfl)
      rotate_left
      ·simp only [Act.put,List.setIfInBounds_toArray,List.set_cons_zero,List.set_cons_succ,i64_w,i32_w]
       rfl
      refine pure_ (i:=7) (N:=some 22) (v:=?_) (a':=?_) #[true,true,true,true,false,false,true,true,false,false,false] rfl rfl (any_of HT_.out (by kernel_rfl)) (fun _ _ _ h=>h) (Or.inl ⟨by rfl,?_⟩) ?_ ?_
      rotate_left
      ·intro w'
       go_simp
       first|with_reducible rfl|(rw [if_neg (by simp only [ByteArray.size_append,ByteArray.size_extract,eq_iff_iff,iff_true,iff_false] at *;omega)];try with_reducible rfl)
      rotate_left
      ·simp only [Act.put,List.setIfInBounds_toArray,List.set_cons_zero,List.set_cons_succ,i64_w,i32_w]
       rfl
      refine pure_ (i:=8) (N:=some 23) (v:=?_) (a':=?_) #[true,true,true,true,false,false,true,true,true,false,false] rfl rfl (any_of HT_.out (by kernel_rfl)) (fun _ _ _ h=>h) (Or.inl ⟨by rfl,?_⟩) ?_ ?_
      rotate_left
      ·intro w'
       go_simp
       first|with_reducible rfl|(rw [if_neg (by simp only [ByteArray.size_append,ByteArray.size_extract,eq_iff_iff,iff_true,iff_false] at *;omega)];try with_reducible rfl)
      rotate_left
      ·simp only [Act.put,List.setIfInBounds_toArray,List.set_cons_zero,List.set_cons_succ,i64_w,i32_w]
       rfl
      refine one_ (i:=4) (N:=some 19) #[true,true,true,true,true,false,true,true,true,false,false] rfl rfl (one_of HT_.out (by kernel_rfl)) (by decide) (fun K hK=>?_)
      refine goes_ Tryd.func47 (by kernel_rfl) rfl #[.pointer (some ⟨g,0,none⟩),.int .i64 1,.string (⟨#[97,40,41,123,125,91,93,59,44,61,43,45,42,47,60,33,126,36,34,120,49,32,46,124,94]⟩ : ByteArray)] (by rfl) rfl rfl (by (try simp only [List.map_toArray,List.map_cons,List.map_nil]);first|done|rfl|(simp only [List.length_drop,List.length_take];rfl)) ?_
      with_reducible refine (spec_l1of.calls k g s0_0 t250 t251 1 (⟨#[97,40,41,123,125,91,93,59,44,61,43,45,42,47,60,33,126,36,34,120,49,32,46,124,94]⟩ : ByteArray) t252 t253 t254 w0 _ ?side1 ?side2 A8.out).mono ?_
      (case side1=>repeat (first|(with_reducible first|exact HI0.out|apply IsS90.alloc|apply IsS90.drewN|apply IsS90.drew|apply IsS90.set_1|apply IsS90.set_2)|exact HI0.out))
      (case side2=>repeat (first|(with_reducible first|exact HB.out|apply below_alloc|apply pw_below_drewN|apply below_drew1|refine below_set ?_ (IsS90.ge HI0.out))|exact HB.out))
      rintro e w16 ⟨rfl,hi,hb,hk⟩
      refine ⟨_,rfl,?_⟩
      have n0_:=Aside0.mk (KeepBut.trans (by repeat (first|(with_reducible first|exact HK.out|apply KeepBut.set_|apply keep_drewN|apply keep_drew|apply keep_alloc)|exact HK.out)) hk (.inl rfl))
      have n1_:=Aside0.mk (hb)
      have n2_:=Aside0.mk (hi)
      clear HK
      clear HB
      clear HI0
      have HK:=n0_
      have HB:=n1_
      have HI0:=n2_
      clear n0_ n1_ n2_
      (try clear hb)
      (try clear hb2)
      (try clear hk)
      (try clear hi)
      refine hK.out _ _ trivial (fun hHeld=>?_)
      clear hK K
      refine norm_ (a':=?_) ?_ ?_
      rotate_left
      ·show Act.put _ (some 19) _ = _
       simp only [Act.put,List.setIfInBounds_toArray,List.set_cons_zero,List.set_cons_succ,i64_w,i32_w]
       rfl
      refine pure_ (i:=5) (N:=some 20) (v:=?_) (a':=?_) #[true,true,true,true,true,true,true,true,true,false,false] rfl rfl (any_of HT_.out (by kernel_rfl)) (fun _ _ _ h=>h) (Or.inl ⟨by rfl,?_⟩) ?_ ?_
      rotate_left
      ·intro w'
       go_simp
       first|with_reducible rfl|(rw [if_neg (by simp only [ByteArray.size_append,ByteArray.size_extract,eq_iff_iff,iff_true,iff_false] at *;omega)];try with_reducible rfl)
      rotate_left
      ·simp only [Act.put,List.setIfInBounds_toArray,List.set_cons_zero,List.set_cons_succ,i64_w,i32_w]
       rfl
      refine pure_ (i:=9) (N:=some 24) (v:=?_) (a':=?_) #[true,true,true,true,true,true,true,true,true,true,false] rfl rfl (any_of HT_.out (by kernel_rfl)) (fun _ _ _ h=>h) (Or.inl ⟨by rfl,?_⟩) ?_ ?_
      rotate_left
      ·intro w'
       go_simp
       first|with_reducible rfl|(rw [if_neg (by simp only [ByteArray.size_append,ByteArray.size_extract,eq_iff_iff,iff_true,iff_false] at *;omega)];try with_reducible rfl)
      rotate_left
      ·simp only [Act.put,List.setIfInBounds_toArray,List.set_cons_zero,List.set_cons_succ,i64_w,i32_w]
       rfl
      refine pure_ (i:=10) (N:=some 4) (v:=?_) (a':=?_) #[true,true,true,true,true,true,true,true,true,true,true] rfl rfl (any_of HT_.out (by kernel_rfl)) (fun _ _ _ h=>h) (Or.inl ⟨by rfl,?_⟩) ?_ ?_
      rotate_left
      ·intro w'
       go_simp
       first|with_reducible rfl|(rw [if_neg (by simp only [ByteArray.size_append,ByteArray.size_extract,eq_iff_iff,iff_true,iff_false] at *;omega)];try with_reducible rfl)
      rotate_left
      ·simp only [Act.put,List.setIfInBounds_toArray,List.set_cons_zero,List.set_cons_succ,i64_w,i32_w]
       rfl
      refine done_ (done_of HT_.out (by kernel_rfl)) ?_
      try go_wp2
      go_ret
      exact ⟨by first|rfl|(simp [errW_none,errW_some] <;> rfl)|(simp [*,errW_none,errW_some] <;> rfl),by repeat (first|(with_reducible first|exact HI0.out|apply IsS90.alloc|apply IsS90.drewN|apply IsS90.drew|apply IsS90.set_1|apply IsS90.set_2)|exact HI0.out),by repeat (first|(with_reducible first|exact HB.out|apply below_alloc|apply pw_below_drewN|apply below_drew1|refine below_set ?_ (IsS90.ge HI0.out))|exact HB.out),by repeat (first|(with_reducible first|exact HK.out|apply KeepBut.set_|apply keep_drewN|apply keep_drew|apply keep_alloc)|exact HK.out)⟩
     ·rw [if_neg c12] at H
      exact absurd H (by simp)
    ·rw [if_neg c9] at H
     exact absurd H (by simp)
   ·rw [if_neg c7] at H
    exact absurd H (by simp)
  ·rw [if_neg c6] at H
   exact absurd H (by simp)
 ·rw [if_neg c5] at H
  have c5b0 : (t249 == 0) = false:=beq_eq_false_iff_ne.mpr c5
  have c5b1 : (t249 != 0) = true:=bne_iff_ne.mpr c5
  by_cases c17 : t249 = 1
  ·rw [if_pos c17] at H
   have c17b0 : (t249 == 1) = true:=beq_iff_eq.mpr c17
   have c17b1 : (t249 != 1) = false:=bne_eq_false_iff_eq.mpr c17
   clear c17
   by_cases c18 : 0 ≤ t246
   ·rw [if_pos c18] at H
    have c18b0:=eq_true c18
    have c18b1 : decide (0 ≤ t246) = true:=decide_eq_true c18
    clear c18
    by_cases c19 : t246 ≤ (a1.size : Int)
    ·rw [if_pos c19] at H
     have c19b0:=eq_true c19
     have c19b1 : decide (t246 ≤ (a1.size : Int)) = true:=decide_eq_true c19
     clear c19
     simp only [Option.some.injEq,Prod.mk.injEq] at H
     obtain ⟨rfl,rfl,rfl⟩:=H
     go_enter Tryd.func74,Tryd.ntmps74
     go_wp2_with (first|((with_reducible refine gate_callee (f:=48) rfl ?_);refine goesL_ (some 10) rfl rfl Tryd.func48 (by kernel_rfl) rfl #[.pointer (some ⟨g,0,none⟩),.int .i64 (wrap64 ((a1.size : Int) + 1))] rfl (by (try simp only [List.map_toArray,List.map_cons,List.map_nil]);first|done|rfl|(simp only [List.length_drop,List.length_take];rfl)) ?_;(with_reducible refine (spec_l1Below.calls g s0_0 s0_1 s0_2 (wrap64 ((a1.size : Int) + 1)) t246 t247 t248 w0 _ ?side1 ?side2 A3.out).mono ?_);(case side1=>repeat (first|(with_reducible first|exact HI0.out|apply IsS90.alloc|apply IsS90.drewN|apply IsS90.drew|apply IsS90.set_1|apply IsS90.set_2)|exact HI0.out));(case side2=>repeat (first|(with_reducible first|exact HB.out|apply below_alloc|apply pw_below_drewN|apply below_drew1|refine below_set ?_ (IsS90.ge HI0.out))|exact HB.out));rintro e w20 ⟨rfl,hi,hb,hk⟩;refine ⟨_,rfl,?_⟩;have n0_:=Aside0.mk (KeepBut.trans (by repeat (first|(with_reducible first|exact HK.out|apply KeepBut.set_|apply keep_drewN|apply keep_drew|apply keep_alloc)|exact HK.out)) hk (.inl rfl));have n1_:=Aside0.mk (hb);have n2_:=Aside0.mk (hi);clear HK;clear HB;clear HI0;have HK:=n0_;have HB:=n1_;have HI0:=n2_;clear n0_ n1_ n2_;(try clear hb);(try clear hb2);(try clear hk);(try clear hi))|((with_reducible refine gate_callee (f:=48) rfl ?_);refine goesL_ (some 12) rfl rfl Tryd.func48 (by kernel_rfl) rfl #[.pointer (some ⟨g,0,none⟩),.int .i64 3] rfl (by (try simp only [List.map_toArray,List.map_cons,List.map_nil]);first|done|rfl|(simp only [List.length_drop,List.length_take];rfl)) ?_;(with_reducible refine (spec_l1Below.calls g s0_0 t247 t248 3 t249 t250 t251 w0 _ ?side1 ?side2 A4.out).mono ?_);(case side1=>repeat (first|(with_reducible first|exact HI0.out|apply IsS90.alloc|apply IsS90.drewN|apply IsS90.drew|apply IsS90.set_1|apply IsS90.set_2)|exact HI0.out));(case side2=>repeat (first|(with_reducible first|exact HB.out|apply below_alloc|apply pw_below_drewN|apply below_drew1|refine below_set ?_ (IsS90.ge HI0.out))|exact HB.out));rintro e w21 ⟨rfl,hi,hb,hk⟩;refine ⟨_,rfl,?_⟩;have n0_:=Aside0.mk (KeepBut.trans (by repeat (first|(with_reducible first|exact HK.out|apply KeepBut.set_|apply keep_drewN|apply keep_drew|apply keep_alloc)|exact HK.out)) hk (.inl rfl));have n1_:=Aside0.mk (hb);have n2_:=Aside0.mk (hi);clear HK;clear HB;clear HI0;have HK:=n0_;have HB:=n1_;have HI0:=n2_;clear n0_ n1_ n2_;(try clear hb);(try clear hb2);(try clear hk);(try clear hi)))
     go_ret
     exact ⟨by first|rfl|(simp [errW_none,errW_some] <;> rfl)|(simp [*,errW_none,errW_some] <;> rfl),by repeat (first|(with_reducible first|exact HI0.out|apply IsS90.alloc|apply IsS90.drewN|apply IsS90.drew|apply IsS90.set_1|apply IsS90.set_2)|exact HI0.out),by repeat (first|(with_reducible first|exact HB.out|apply below_alloc|apply pw_below_drewN|apply below_drew1|refine below_set ?_ (IsS90.ge HI0.out))|exact HB.out),by repeat (first|(with_reducible first|exact HK.out|apply KeepBut.set_|apply keep_drewN|apply keep_drew|apply keep_alloc)|exact HK.out)⟩
    ·rw [if_neg c19] at H
     exact absurd H (by simp)
   ·rw [if_neg c18] at H
    exact absurd H (by simp)
  ·rw [if_neg c17] at H
   have c17b0 : (t249 == 1) = false:=beq_eq_false_iff_ne.mpr c17
   have c17b1 : (t249 != 1) = true:=bne_iff_ne.mpr c17
   by_cases c22 : t246 < (a1.size : Int)
   ·rw [if_pos c22] at H
    have c22b0 : decide (t246 < (a1.size : Int)) = true:=decide_eq_true c22
    clear c22
    by_cases c23 : 0 ≤ t246
    ·rw [if_pos c23] at H
     have c23b0:=eq_true c23
     have c23b1 : decide (0 ≤ t246) = true:=decide_eq_true c23
     clear c23
     by_cases c24 : t246 ≤ (a1.size : Int)
     ·rw [if_pos c24] at H
      have c24b0:=eq_true c24
      have c24b1 : decide (t246 ≤ (a1.size : Int)) = true:=decide_eq_true c24
      clear c24
      obtain ⟨ji25,hji25⟩ : ∃ j_ : Int,(wrap64 (t246 + 1)) = j_:=⟨_,rfl⟩
      replace H : (if 0 ≤ (ji25) then (if (ji25) ≤ (a1.size : Int) then (if (a1.extract 0 (t246 : Int).toNat).size + (a1.extract ((ji25) : Int).toNat a1.size).size ≤ 9223372036854775807 then (some ((a1.extract 0 (t246 : Int).toNat) ++ (a1.extract ((ji25) : Int).toNat a1.size),t250,t251)) else (none)) else (none)) else (none)) = some (r1,r2,r3):=by first|(rw [hji25] at H;exact H)|(simp only [hji25] at H ⊢;exact H)
      (try rw [hji25] at A3)
      (try rw [hji25] at A4)
      have hji25w : (IntKind.i64.wrap (t246 + 1)) = ji25:=(i64_w _).trans hji25
      by_cases c26 : 0 ≤ (ji25)
      ·rw [if_pos c26] at H
       have c26b0:=eq_true c26
       have c26b1 : decide (0 ≤ (ji25)) = true:=decide_eq_true c26
       clear c26
       by_cases c27 : (ji25) ≤ (a1.size : Int)
       ·rw [if_pos c27] at H
        have c27b0:=eq_true c27
        have c27b1 : decide ((ji25) ≤ (a1.size : Int)) = true:=decide_eq_true c27
        clear c27
        by_cases c28 : (a1.extract 0 (t246 : Int).toNat).size + (a1.extract ((ji25) : Int).toNat a1.size).size ≤ 9223372036854775807
        ·rw [if_pos c28] at H
         have c28b0:=eq_true c28
         have c28b1 : decide ((a1.extract 0 (t246 : Int).toNat).size + (a1.extract ((ji25) : Int).toNat a1.size).size ≤ 9223372036854775807) = true:=decide_eq_true c28
         try have c28b2 : (9223372036854775807 < (a1.extract 0 (t246 : Int).toNat).size + (a1.extract ((ji25) : Int).toNat a1.size).size) = False:=eq_false (Nat.not_lt.2 c28)
         simp only [Option.some.injEq,Prod.mk.injEq] at H
         obtain ⟨rfl,rfl,rfl⟩:=H
         go_enter Tryd.func74,Tryd.ntmps74
         try go_wp2_with (first|((with_reducible refine gate_callee (f:=48) rfl ?_);refine goesL_ (some 10) rfl rfl Tryd.func48 (by kernel_rfl) rfl #[.pointer (some ⟨g,0,none⟩),.int .i64 (wrap64 ((a1.size : Int) + 1))] rfl (by (try simp only [List.map_toArray,List.map_cons,List.map_nil]);first|done|rfl|(simp only [List.length_drop,List.length_take];rfl)) ?_;(with_reducible refine (spec_l1Below.calls g s0_0 s0_1 s0_2 (wrap64 ((a1.size : Int) + 1)) t246 t247 t248 w0 _ ?side1 ?side2 A3.out).mono ?_);(case side1=>repeat (first|(with_reducible first|exact HI0.out|apply IsS90.alloc|apply IsS90.drewN|apply IsS90.drew|apply IsS90.set_1|apply IsS90.set_2)|exact HI0.out));(case side2=>repeat (first|(with_reducible first|exact HB.out|apply below_alloc|apply pw_below_drewN|apply below_drew1|refine below_set ?_ (IsS90.ge HI0.out))|exact HB.out));rintro e w29 ⟨rfl,hi,hb,hk⟩;refine ⟨_,rfl,?_⟩;have n0_:=Aside0.mk (KeepBut.trans (by repeat (first|(with_reducible first|exact HK.out|apply KeepBut.set_|apply keep_drewN|apply keep_drew|apply keep_alloc)|exact HK.out)) hk (.inl rfl));have n1_:=Aside0.mk (hb);have n2_:=Aside0.mk (hi);clear HK;clear HB;clear HI0;have HK:=n0_;have HB:=n1_;have HI0:=n2_;clear n0_ n1_ n2_;(try clear hb);(try clear hb2);(try clear hk);(try clear hi))|((with_reducible refine gate_callee (f:=48) rfl ?_);refine goesL_ (some 12) rfl rfl Tryd.func48 (by kernel_rfl) rfl #[.pointer (some ⟨g,0,none⟩),.int .i64 3] rfl (by (try simp only [List.map_toArray,List.map_cons,List.map_nil]);first|done|rfl|(simp only [List.length_drop,List.length_take];rfl)) ?_;(with_reducible refine (spec_l1Below.calls g s0_0 t247 t248 3 t249 t250 t251 w0 _ ?side1 ?side2 A4.out).mono ?_);(case side1=>repeat (first|(with_reducible first|exact HI0.out|apply IsS90.alloc|apply IsS90.drewN|apply IsS90.drew|apply IsS90.set_1|apply IsS90.set_2)|exact HI0.out));(case side2=>repeat (first|(with_reducible first|exact HB.out|apply below_alloc|apply pw_below_drewN|apply below_drew1|refine below_set ?_ (IsS90.ge HI0.out))|exact HB.out));rintro e w30 ⟨rfl,hi,hb,hk⟩;refine ⟨_,rfl,?_⟩;have n0_:=Aside0.mk (KeepBut.trans (by repeat (first|(with_reducible first|exact HK.out|apply KeepBut.set_|apply keep_drewN|apply keep_drew|apply keep_alloc)|exact HK.out)) hk (.inl rfl));have n1_:=Aside0.mk (hb);have n2_:=Aside0.mk (hi);clear HK;clear HB;clear HI0;have HK:=n0_;have HB:=n1_;have HI0:=n2_;clear n0_ n1_ n2_;(try clear hb);(try clear hb2);(try clear hk);(try clear hi)))
         have n0_:=Aside0.mk (IsS90.drew HI0.out)
         have n1_:=Aside0.mk (keep_drew HK.out)
         have n2_:=Aside0.mk (below_drew1 HB.out)
         clear HI0
         clear HK
         clear HB
         have HI0:=n0_
         have HK:=n1_
         have HB:=n2_
         clear n0_ n1_ n2_
         refine start_ (n:=9) (S:=fun w'=>True) (ds:=[]) #[false,false,false,false,false,false,false,false,false] (by kernel_rfl) rfl rfl trivial (fun hHeld=>?_);refine with_tabW spec_l1bend.tab8 spec_l1bend.bits8 (fun HT_ HW_=>?_)
         generalize w30.drew = w31 at HI0 HK HB hHeld ⊢
         refine pure_ (i:=0) (N:=some 34) (v:=?_) (a':=?_) #[true,false,false,false,false,false,false,false,false] rfl rfl (any_of HT_.out (by kernel_rfl)) (fun _ _ _ h=>h) (Or.inl ⟨by rfl,?_⟩) ?_ ?_
         rotate_left
         ·intro w'
          go_simp
          first|with_reducible rfl|(rw [if_neg (by simp only [ByteArray.size_append,ByteArray.size_extract,eq_iff_iff,iff_true,iff_false] at *;omega)];try with_reducible rfl)
         rotate_left
         ·simp only [Act.put,List.setIfInBounds_toArray,List.set_cons_zero,List.set_cons_succ,i64_w,i32_w]
          rfl
         refine pure_ (i:=1) (N:=some 35) (v:=?_) (a':=?_) #[true,true,false,false,false,false,false,false,false] rfl rfl (any_of HT_.out (by kernel_rfl)) (fun _ _ _ h=>h) (Or.inl ⟨by rfl,?_⟩) ?_ ?_
         rotate_left
         ·intro w'
          go_simp
          first|with_reducible rfl|(rw [if_neg (by simp only [ByteArray.size_append,ByteArray.size_extract,eq_iff_iff,iff_true,iff_false] at *;omega)];try with_reducible rfl)
         rotate_left
         ·simp only [Act.put,List.setIfInBounds_toArray,List.set_cons_zero,List.set_cons_succ,i64_w,i32_w]
          rfl
         refine pure_ (i:=2) (N:=some 36) (v:=?_) (a':=?_) #[true,true,true,false,false,false,false,false,false] rfl rfl (any_of HT_.out (by kernel_rfl)) (fun _ _ _ h=>h) (Or.inl ⟨by rfl,?_⟩) ?_ ?_
         rotate_left
         ·intro w'
          go_simp
          first|with_reducible rfl|(rw [if_neg (by simp only [ByteArray.size_append,ByteArray.size_extract,eq_iff_iff,iff_true,iff_false] at *;omega)];try with_reducible rfl)
         rotate_left
         ·simp only [Act.put,List.setIfInBounds_toArray,List.set_cons_zero,List.set_cons_succ,i64_w,i32_w]
          rfl
         refine pure_ (i:=3) (N:=some 37) (v:=?_) (a':=?_) #[true,true,true,true,false,false,false,false,false] rfl rfl (any_of HT_.out (by kernel_rfl)) (fun _ _ _ h=>h) (Or.inl ⟨by rfl,?_⟩) ?_ ?_
         rotate_left
         ·intro w'
          go_simp
          first|with_reducible rfl|(rw [if_neg (by simp only [ByteArray.size_append,ByteArray.size_extract,eq_iff_iff,iff_true,iff_false] at *;omega)];try with_reducible rfl)
         rotate_left
         ·simp only [Act.put,List.setIfInBounds_toArray,List.set_cons_zero,List.set_cons_succ,i64_w,i32_w]
          rfl
         refine pure_ (i:=4) (N:=some 38) (v:=?_) (a':=?_) #[true,true,true,true,true,false,false,false,false] rfl rfl (any_of HT_.out (by kernel_rfl)) (fun _ _ _ h=>h) (Or.inl ⟨by rfl,?_⟩) ?_ ?_
         rotate_left
         ·intro w'
          go_simp
          first|with_reducible rfl|(rw [if_neg (by simp only [ByteArray.size_append,ByteArray.size_extract,eq_iff_iff,iff_true,iff_false] at *;omega)];try with_reducible rfl)
         rotate_left
         ·simp only [Act.put,List.setIfInBounds_toArray,List.set_cons_zero,List.set_cons_succ,i64_w,i32_w]
          rfl
         refine pure_ (i:=5) (N:=some 39) (v:=?_) (a':=?_) #[true,true,true,true,true,true,false,false,false] rfl rfl (any_of HT_.out (by kernel_rfl)) (fun _ _ _ h=>h) (Or.inl ⟨by rfl,?_⟩) ?_ ?_
         rotate_left
         ·intro w'
          go_simp
          first|with_reducible rfl|(rw [if_neg (by simp only [ByteArray.size_append,ByteArray.size_extract,eq_iff_iff,iff_true,iff_false] at *;omega)];try with_reducible rfl)
         rotate_left
         ·simp only [Act.put,List.setIfInBounds_toArray,List.set_cons_zero,List.set_cons_succ,i64_w,i32_w]
          rfl
         refine pure_ (i:=6) (N:=some 40) (v:=?_) (a':=?_) #[true,true,true,true,true,true,true,false,false] rfl rfl (any_of HT_.out (by kernel_rfl)) (fun _ _ _ h=>h) (Or.inl ⟨by rfl,?_⟩) ?_ ?_
         rotate_left
         ·intro w'
          go_simp
          first|with_reducible rfl|(rw [if_neg (by simp only [ByteArray.size_append,ByteArray.size_extract,eq_iff_iff,iff_true,iff_false] at *;omega)];try with_reducible rfl)
         rotate_left
         ·simp only [Act.put,List.setIfInBounds_toArray,List.set_cons_zero,List.set_cons_succ,i64_w,i32_w]
          rfl
         refine pure_ (i:=7) (N:=some 41) (v:=?_) (a':=?_) #[true,true,true,true,true,true,true,true,false] rfl rfl (any_of HT_.out (by kernel_rfl)) (fun _ _ _ h=>h) (Or.inl ⟨by rfl,?_⟩) ?_ ?_
         rotate_left
         ·intro w'
          go_simp
          first|with_reducible rfl|(rw [if_neg (by simp only [ByteArray.size_append,ByteArray.size_extract,eq_iff_iff,iff_true,iff_false] at *;omega)];try with_reducible rfl)
         rotate_left
         ·simp only [Act.put,List.setIfInBounds_toArray,List.set_cons_zero,List.set_cons_succ,i64_w,i32_w]
          rfl
         refine pure_ (i:=8) (N:=some 4) (v:=?_) (a':=?_) #[true,true,true,true,true,true,true,true,true] rfl rfl (any_of HT_.out (by kernel_rfl)) (fun _ _ _ h=>h) (Or.inl ⟨by rfl,?_⟩) ?_ ?_
         rotate_left
         ·intro w'
          go_simp
          first|with_reducible rfl|(rw [if_neg (by simp only [ByteArray.size_append,ByteArray.size_extract,eq_iff_iff,iff_true,iff_false] at *;omega)];try with_reducible rfl)
         rotate_left
         ·simp only [Act.put,List.setIfInBounds_toArray,List.set_cons_zero,List.set_cons_succ,i64_w,i32_w]
          rfl
         refine done_ (done_of HT_.out (by kernel_rfl)) ?_
         try go_wp2
         go_ret
         exact ⟨by first|rfl|(simp [errW_none,errW_some] <;> rfl)|(simp only [← hji25];first|rfl|(simp [errW_none,errW_some] <;> rfl))|(simp [*,errW_none,errW_some] <;> rfl),by repeat (first|(with_reducible first|exact HI0.out|apply IsS90.alloc|apply IsS90.drewN|apply IsS90.drew|apply IsS90.set_1|apply IsS90.set_2)|exact HI0.out),by repeat (first|(with_reducible first|exact HB.out|apply below_alloc|apply pw_below_drewN|apply below_drew1|refine below_set ?_ (IsS90.ge HI0.out))|exact HB.out),by repeat (first|(with_reducible first|exact HK.out|apply KeepBut.set_|apply keep_drewN|apply keep_drew|apply keep_alloc)|exact HK.out)⟩
        ·rw [if_neg c28] at H
         exact absurd H (by simp)
       ·rw [if_neg c27] at H
        exact absurd H (by simp)
      ·rw [if_neg c26] at H
       exact absurd H (by simp)
     ·rw [if_neg c24] at H
      exact absurd H (by simp)
    ·rw [if_neg c23] at H
     exact absurd H (by simp)
   ·rw [if_neg c22] at H
    have c22b0 : decide (t246 < (a1.size : Int)) = false:=decide_eq_false c22
    clear c22
    by_cases c32 : a1.size + 1 ≤ 9223372036854775807
    ·rw [if_pos c32] at H
     have c32b0:=eq_true c32
     have c32b1 : decide (a1.size + 1 ≤ 9223372036854775807) = true:=decide_eq_true c32
     try have c32b2 : (9223372036854775807 < a1.size + 1) = False:=eq_false (Nat.not_lt.2 c32)
     try have c32b3 : (9223372036854775807 ≤ a1.size) = False:=eq_false (by omega)
     try clear c32 c32b0 c32b1
     simp only [Option.some.injEq,Prod.mk.injEq] at H
     obtain ⟨rfl,rfl,rfl⟩:=H
     go_enter Tryd.func74,Tryd.ntmps74
     go_wp2_with (first|((with_reducible refine gate_callee (f:=48) rfl ?_);refine goesL_ (some 10) rfl rfl Tryd.func48 (by kernel_rfl) rfl #[.pointer (some ⟨g,0,none⟩),.int .i64 (wrap64 ((a1.size : Int) + 1))] rfl (by (try simp only [List.map_toArray,List.map_cons,List.map_nil]);first|done|rfl|(simp only [List.length_drop,List.length_take];rfl)) ?_;(with_reducible refine (spec_l1Below.calls g s0_0 s0_1 s0_2 (wrap64 ((a1.size : Int) + 1)) t246 t247 t248 w0 _ ?side1 ?side2 A3.out).mono ?_);(case side1=>repeat (first|(with_reducible first|exact HI0.out|apply IsS90.alloc|apply IsS90.drewN|apply IsS90.drew|apply IsS90.set_1|apply IsS90.set_2)|exact HI0.out));(case side2=>repeat (first|(with_reducible first|exact HB.out|apply below_alloc|apply pw_below_drewN|apply below_drew1|refine below_set ?_ (IsS90.ge HI0.out))|exact HB.out));rintro e w33 ⟨rfl,hi,hb,hk⟩;refine ⟨_,rfl,?_⟩;have n0_:=Aside0.mk (KeepBut.trans (by repeat (first|(with_reducible first|exact HK.out|apply KeepBut.set_|apply keep_drewN|apply keep_drew|apply keep_alloc)|exact HK.out)) hk (.inl rfl));have n1_:=Aside0.mk (hb);have n2_:=Aside0.mk (hi);clear HK;clear HB;clear HI0;have HK:=n0_;have HB:=n1_;have HI0:=n2_;clear n0_ n1_ n2_;(try clear hb);(try clear hb2);(try clear hk);(try clear hi))|((with_reducible refine gate_callee (f:=48) rfl ?_);refine goesL_ (some 12) rfl rfl Tryd.func48 (by kernel_rfl) rfl #[.pointer (some ⟨g,0,none⟩),.int .i64 3] rfl (by (try simp only [List.map_toArray,List.map_cons,List.map_nil]);first|done|rfl|(simp only [List.length_drop,List.length_take];rfl)) ?_;(with_reducible refine (spec_l1Below.calls g s0_0 t247 t248 3 t249 t250 t251 w0 _ ?side1 ?side2 A4.out).mono ?_);(case side1=>repeat (first|(with_reducible first|exact HI0.out|apply IsS90.alloc|apply IsS90.drewN|apply IsS90.drew|apply IsS90.set_1|apply IsS90.set_2)|exact HI0.out));(case side2=>repeat (first|(with_reducible first|exact HB.out|apply below_alloc|apply pw_below_drewN|apply below_drew1|refine below_set ?_ (IsS90.ge HI0.out))|exact HB.out));rintro e w34 ⟨rfl,hi,hb,hk⟩;refine ⟨_,rfl,?_⟩;have n0_:=Aside0.mk (KeepBut.trans (by repeat (first|(with_reducible first|exact HK.out|apply KeepBut.set_|apply keep_drewN|apply keep_drew|apply keep_alloc)|exact HK.out)) hk (.inl rfl));have n1_:=Aside0.mk (hb);have n2_:=Aside0.mk (hi);clear HK;clear HB;clear HI0;have HK:=n0_;have HB:=n1_;have HI0:=n2_;clear n0_ n1_ n2_;(try clear hb);(try clear hb2);(try clear hk);(try clear hi)))
     go_ret
     exact ⟨by first|rfl|(simp [errW_none,errW_some] <;> rfl)|(simp [*,errW_none,errW_some] <;> rfl),by repeat (first|(with_reducible first|exact HI0.out|apply IsS90.alloc|apply IsS90.drewN|apply IsS90.drew|apply IsS90.set_1|apply IsS90.set_2)|exact HI0.out),by repeat (first|(with_reducible first|exact HB.out|apply below_alloc|apply pw_below_drewN|apply below_drew1|refine below_set ?_ (IsS90.ge HI0.out))|exact HB.out),by repeat (first|(with_reducible first|exact HK.out|apply KeepBut.set_|apply keep_drewN|apply keep_drew|apply keep_alloc)|exact HK.out)⟩
    ·rw [if_neg c32] at H
     exact absurd H (by simp)
def strings_trimRightByte.l0 : Nat → ByteArray → Int → Option (ByteArray)
 | 0,_,_=>none
 | k + 1,x0,x1=>if (x0.size : Int) > 0 then (if 0 ≤ (wrap64 ((x0.size : Int) - 1)) then (if (wrap64 ((x0.size : Int) - 1)) < (x0.size : Int) then (if (bt x0 (wrap64 ((x0.size : Int) - 1))) = x1 then (if (wrap64 ((x0.size : Int) - 1)) ≤ (x0.size : Int) then (strings_trimRightByte.l0 k (x0.extract 0 ((wrap64 ((x0.size : Int) - 1)) : Int).toNat) x1) else (none)) else (some x0)) else (none)) else (none)) else (some x0)
def strings_trimRightByte.f (k : Nat) (a0 : ByteArray) (a1 : Int) : Option (ByteArray):=strings_trimRightByte.l0 k a0 a1
theorem strings_trimRightByte.mono_l : ∀ k,(∀ y0 y1,LeO (strings_trimRightByte.l0 k y0 y1) (strings_trimRightByte.l0 (k + 1) y0 y1))
 | 0=>fun _ _ r h=>by simp [strings_trimRightByte.l0] at h
 | k + 1=>by
  have ih0:=strings_trimRightByte.mono_l k
  ·intro y0 y1
   unfold strings_trimRightByte.l0
   repeat' first
   | (with_reducible exact ih0 _ _)
   | (with_reducible exact LeO.refl _)
   | (with_reducible exact LeO.none _)
   | (with_reducible refine LeO.ite ?_ ?_)
   | (with_reducible refine LeO.bind ?_ (fun _=>?_))
   | exact ih0 _ _
   | exact LeO.none _
   | refine LeO.ite ?_ ?_
   | refine LeO.bind ?_ (fun _=>?_)
theorem strings_trimRightByte.mono : ∀ a0 a1 k,LeO (strings_trimRightByte.f k a0 a1) (strings_trimRightByte.f (k + 1) a0 a1):=by
 intro a0 a1 k
 have ih0:=strings_trimRightByte.mono_l k
 unfold strings_trimRightByte.f
 repeat' first
   | (with_reducible exact ih0 _ _)
   | (with_reducible exact LeO.refl _)
   | (with_reducible exact LeO.none _)
   | (with_reducible refine LeO.ite ?_ ?_)
   | (with_reducible refine LeO.bind ?_ (fun _=>?_))
   | exact ih0 _ _
   | exact LeO.none _
   | refine LeO.ite ?_ ?_
   | refine LeO.bind ?_ (fun _=>?_)
set_option maxHeartbeats 8000000 in
set_option maxRecDepth 100000 in
theorem strings_trimRightByte.calls (k : Nat) (a0 : ByteArray) (a1 : Int) (r : ByteArray) (w : World) (h : strings_trimRightByte.f k a0 a1 = some r) :
  Calls Tryd.prog 139 #[.string a0,.int .u8 a1] w fun e w'=>e = .returned (.string r) ∧ Drawn0 w w':=by
 have H : (strings_trimRightByte.l0 k a0 a1) = some r:=h
 clear h
 have H':=Aside0.mk H
 clear H
 go_enter Tryd.func139,Tryd.ntmps139
 go_wp2
 go_loopg [0] k (fun kq v0 w'=>∃ (x0_1 : ByteArray),v0 = .string x0_1 ∧ Aside0 (strings_trimRightByte.l0 kq x0_1 a1 = some r) ∧ Aside0 (kq ≤ k) ∧ Drawn0 w w')
 case atStart=>exact ⟨(a0),(by first|rfl|(simp;done)|(simp [*];done)),H',⟨Nat.le_refl _⟩,by repeat (first|exact Drawn0.refl _|apply Drawn0.step)⟩
 case round =>
  clear H'
  try clear c1
  try clear p2
  obtain ⟨x0_1,rfl,HA,HK1,⟨m1,rfl⟩⟩:=hrel
  cases gk with
  | zero=>exact absurd HA.out (by simp [strings_trimRightByte.l0])
  | succ k1 =>
   have H:=HA.out
   clear HA
   simp only [strings_trimRightByte.l0] at H
   by_cases c3 : (x0_1.size : Int) > 0
   ·rw [if_pos c3] at H
    have c3b0 : decide (0 < (x0_1.size : Int)) = true:=decide_eq_true c3
    have c3b1 : decide (0 < x0_1.size) = true:=decide_eq_true (by omega)
    clear c3
    obtain ⟨ji4,hji4⟩ : ∃ j_ : Int,(wrap64 ((x0_1.size : Int) - 1)) = j_:=⟨_,rfl⟩
    replace H : (if 0 ≤ (ji4) then (if (ji4) < (x0_1.size : Int) then (if (bt x0_1 (ji4)) = a1 then (if (ji4) ≤ (x0_1.size : Int) then (strings_trimRightByte.l0 k1 (x0_1.extract 0 ((ji4) : Int).toNat) a1) else (none)) else (some x0_1)) else (none)) else (none)) = some r:=by first|(rw [hji4] at H;exact H)|(simp only [hji4] at H ⊢;exact H)
    have hji4w : (IntKind.i64.wrap ((x0_1.size : Int) - 1)) = ji4:=(i64_w _).trans hji4
    by_cases c5 : 0 ≤ (ji4)
    ·rw [if_pos c5] at H
     have c5b0 : decide (0 ≤ (ji4)) = true:=decide_eq_true c5
     clear c5
     by_cases c6 : (ji4) < (x0_1.size : Int)
     ·rw [if_pos c6] at H
      have c6b0 : decide ((ji4) < (x0_1.size : Int)) = true:=decide_eq_true c6
      clear c6
      by_cases c8 : (bt x0_1 (ji4)) = a1
      ·rw [if_pos c8] at H
       have c8b0 : ((bt x0_1 (ji4)) == a1) = true:=beq_iff_eq.mpr c8
       have c8b1 : ((bt x0_1 (ji4)) != a1) = false:=bne_eq_false_iff_eq.mpr c8
       clear c8
       have c9b0:=eq_true (of_decide_eq_true (by first|(with_reducible assumption)|assumption) : 0 ≤ (ji4))
       by_cases c10 : (ji4) ≤ (x0_1.size : Int)
       ·rw [if_pos c10] at H
        have c10b0:=eq_true c10
        have c10b1 : decide ((ji4) ≤ (x0_1.size : Int)) = true:=decide_eq_true c10
        clear c10
        have H':=Aside0.mk H
        clear H
        have p7 : 0 ≤ ((ji4) : Int):=of_decide_eq_true (by first|(with_reducible assumption)|assumption)
        have q7 : (ji4) < (x0_1.size : Int):=of_decide_eq_true (by first|(with_reducible assumption)|assumption)
        have hx7:=bt_at x0_1 (ji4)
        replace p7:=eq_true p7
        replace q7:=eq_true q7
        go_wp2
        go_roundg k1
        case measure=>have:=HK1.out;omega
        case rel=>exact ⟨(x0_1.extract 0 ((ji4) : Int).toNat),(by first|rfl|(simp;done)|(simp only [← hji4] <;> (first|rfl|simp))|(simp [*];done)),H',⟨by have:=HK1.out;omega⟩,by repeat (first|exact Drawn0.refl _|apply Drawn0.step)⟩
       ·rw [if_neg c10] at H
        exact absurd H (by simp)
      ·rw [if_neg c8] at H
       have c8b0 : ((bt x0_1 (ji4)) == a1) = false:=beq_eq_false_iff_ne.mpr c8
       have c8b1 : ((bt x0_1 (ji4)) != a1) = true:=bne_iff_ne.mpr c8
       obtain rfl:=Option.some.inj H
       have p7 : 0 ≤ ((ji4) : Int):=of_decide_eq_true (by first|(with_reducible assumption)|assumption)
       have q7 : (ji4) < (x0_1.size : Int):=of_decide_eq_true (by first|(with_reducible assumption)|assumption)
       have hx7:=bt_at x0_1 (ji4)
       replace p7:=eq_true p7
       replace q7:=eq_true q7
       go_wp2
       go_ret
       exact ⟨by first|rfl|(simp;done)|(simp only [← hji4] <;> (first|rfl|simp))|(simp [*];done),by repeat (first|exact Drawn0.refl _|apply Drawn0.step)⟩
     ·rw [if_neg c6] at H
      exact absurd H (by simp)
    ·rw [if_neg c5] at H
     exact absurd H (by simp)
   ·rw [if_neg c3] at H
    have c3b0 : decide (0 < (x0_1.size : Int)) = false:=decide_eq_false c3
    have c3b1 : decide (0 < x0_1.size) = false:=decide_eq_false (by omega)
    clear c3
    obtain rfl:=Option.some.inj H
    go_wp2
    go_ret
    exact ⟨by first|rfl|(simp;done)|(simp [*];done),by repeat (first|exact Drawn0.refl _|apply Drawn0.step)⟩
mutual
def strings_TrimRight.j0 : Nat → ByteArray → ByteArray → Bool → Option (ByteArray)
 | 0,_,_,_=>none
 | k + 1,x0,x1,x12=>if x12 = true then (some x0) else (if (x1.size : Int) = 1 then (if 0 < (x1.size : Int) then (strings_TrimRight.j1 k x0 x1 (decide ((bt x1 0) < 128))) else (none)) else (strings_TrimRight.j1 k x0 x1 false))
def strings_TrimRight.j1 : Nat → ByteArray → ByteArray → Bool → Option (ByteArray)
 | 0,_,_,_=>none
 | k + 1,x0,x1,x21=>if x21 = true then (if 0 < (x1.size : Int) then ((strings_trimRightByte.f k x0 (bt x1 0)).bind fun t149=>(some t149)) else (none)) else (none)
end
def strings_TrimRight.f (k : Nat) (a0 : ByteArray) (a1 : ByteArray) : Option (ByteArray):=if a0.toList = ([] : List UInt8) then (strings_TrimRight.j0 k a0 a1 true) else (strings_TrimRight.j0 k a0 a1 (a1.toList == ([] : List UInt8)))
theorem strings_TrimRight.mono_l : ∀ k,(∀ y0 y1 y2,LeO (strings_TrimRight.j0 k y0 y1 y2) (strings_TrimRight.j0 (k + 1) y0 y1 y2)) ∧ (∀ y0 y1 y2,LeO (strings_TrimRight.j1 k y0 y1 y2) (strings_TrimRight.j1 (k + 1) y0 y1 y2))
 | 0=>⟨fun _ _ _ r h=>by simp [strings_TrimRight.j0] at h,fun _ _ _ r h=>by simp [strings_TrimRight.j1] at h⟩
 | k + 1=>by
  obtain ⟨ih0,ih1⟩:=strings_TrimRight.mono_l k
  refine ⟨?_,?_⟩
  ·intro y0 y1 y2
   unfold strings_TrimRight.j0
   repeat' first
   | (with_reducible exact ih0 _ _ _)
   | (with_reducible exact ih1 _ _ _)
   | (with_reducible exact strings_trimRightByte.mono _ _ _)
   | (with_reducible exact LeO.refl _)
   | (with_reducible exact LeO.none _)
   | (with_reducible refine LeO.ite ?_ ?_)
   | (with_reducible refine LeO.bind ?_ (fun _=>?_))
   | exact ih0 _ _ _
   | exact ih1 _ _ _
   | exact strings_trimRightByte.mono _ _ _
   | exact LeO.none _
   | refine LeO.ite ?_ ?_
   | refine LeO.bind ?_ (fun _=>?_)
  ·intro y0 y1 y2
   unfold strings_TrimRight.j1
   repeat' first
   | (with_reducible exact ih0 _ _ _)
   | (with_reducible exact ih1 _ _ _)
   | (with_reducible exact strings_trimRightByte.mono _ _ _)
   | (with_reducible exact LeO.refl _)
   | (with_reducible exact LeO.none _)
   | (with_reducible refine LeO.ite ?_ ?_)
   | (with_reducible refine LeO.bind ?_ (fun _=>?_))
   | exact ih0 _ _ _
   | exact ih1 _ _ _
   | exact strings_trimRightByte.mono _ _ _
   | exact LeO.none _
   | refine LeO.ite ?_ ?_
   | refine LeO.bind ?_ (fun _=>?_)
theorem strings_TrimRight.mono : ∀ a0 a1 k,LeO (strings_TrimRight.f k a0 a1) (strings_TrimRight.f (k + 1) a0 a1):=by
 intro a0 a1 k
 obtain ⟨ih0,ih1⟩:=strings_TrimRight.mono_l k
 unfold strings_TrimRight.f
 repeat' first
   | (with_reducible exact ih0 _ _ _)
   | (with_reducible exact ih1 _ _ _)
   | (with_reducible exact strings_trimRightByte.mono _ _ _)
   | (with_reducible exact LeO.refl _)
   | (with_reducible exact LeO.none _)
   | (with_reducible refine LeO.ite ?_ ?_)
   | (with_reducible refine LeO.bind ?_ (fun _=>?_))
   | exact ih0 _ _ _
   | exact ih1 _ _ _
   | exact strings_trimRightByte.mono _ _ _
   | exact LeO.none _
   | refine LeO.ite ?_ ?_
   | refine LeO.bind ?_ (fun _=>?_)
set_option maxHeartbeats 8000000 in
set_option maxRecDepth 100000 in
theorem strings_TrimRight.calls (k : Nat) (a0 : ByteArray) (a1 : ByteArray) (r : ByteArray) (w : World) (h : strings_TrimRight.f k a0 a1 = some r) :
  Calls Tryd.prog 121 #[.string a0,.string a1] w fun e w'=>e = .returned (.string r) ∧ Below w.heap.size w w':=by
 have HB:=Aside0.mk (Below.refl w.heap.size w)
 have H : (if a0.toList = ([] : List UInt8) then (strings_TrimRight.j0 k a0 a1 true) else (strings_TrimRight.j0 k a0 a1 (a1.toList == ([] : List UInt8)))) = some r:=h
 clear h
 have HC3:=Aside0.mk H
 clear H
 go_enter Tryd.func121,Tryd.ntmps121
 go_upto_region 1 with (fail)
 go_cut [12] (fun v12 wc=>∃ (kq : Nat) (x12_2 : Bool),v12 = .bool x12_2 ∧ Aside0 (strings_TrimRight.j0 kq a0 a1 x12_2 = some r) ∧ Aside0 (kq ≤ k) ∧ Aside0 (Below w.heap.size w wc))
 case first =>
  have H:=HC3.out
  clear HC3
  by_cases c4 : a0.toList = ([] : List UInt8)
  ·rw [if_pos c4] at H
   have c4b0 : (a0.toList == ([] : List UInt8)) = true:=beq_iff_eq.mpr c4
   have c4b1 : (a0.toList != ([] : List UInt8)) = false:=bne_eq_false_iff_eq.mpr c4
   clear c4
   (first|rw [c4b0]|(simp only [i64_w,i32_w];rw [c4b0])|skip)
   have H':=Aside0.mk H
   clear H
   go_wp2
   go_meet
   case rel=>exact ⟨_,(true),(by first|rfl|(simp;done)|(simp [*];done)),H',⟨by first|omega|exact Nat.le_refl _⟩,⟨by repeat (first|(with_reducible first|exact HB.out|apply below_alloc|apply pw_below_drewN|apply below_drew1)|exact HB.out)⟩⟩
  ·rw [if_neg c4] at H
   have c4b0 : (a0.toList == ([] : List UInt8)) = false:=beq_eq_false_iff_ne.mpr c4
   have c4b1 : (a0.toList != ([] : List UInt8)) = true:=bne_iff_ne.mpr c4
   (first|rw [c4b0]|(simp only [i64_w,i32_w];rw [c4b0])|skip)
   have H':=Aside0.mk H
   clear H
   go_wp2
   go_meet
   case rel=>exact ⟨_,((a1.toList == ([] : List UInt8))),(by first|rfl|(simp;done)|(simp [*];done)),H',⟨by first|omega|exact Nat.le_refl _⟩,⟨by repeat (first|(with_reducible first|exact HB.out|apply below_alloc|apply pw_below_drewN|apply below_drew1)|exact HB.out)⟩⟩
 case rest =>
  clear HC3
  try clear c1
  try clear p2
  try clear c4
  try clear c4b0
  try clear c4b1
  obtain ⟨kq,x12_2,rfl,HA,HJ2,HB⟩:=hcut
  cases kq with
  | zero=>exact absurd HA.out (by simp [strings_TrimRight.j0])
  | succ kj2 =>
   have H:=HA.out
   clear HA
   simp only [strings_TrimRight.j0] at H
   by_cases c5 : x12_2 = true
   ·subst c5
    have H1 : (some a0) = some r:=by rw [if_pos rfl] at H;exact H
    clear H
    have H:=H1
    clear H1
    obtain rfl:=Option.some.inj H
    go_wp2
    go_ret
    exact ⟨by first|rfl|(simp [errW_none,errW_some] <;> rfl)|(simp [*,errW_none,errW_some] <;> rfl),by repeat (first|(with_reducible first|exact HB.out|apply below_alloc|apply pw_below_drewN|apply below_drew1)|exact HB.out)⟩
   ·replace c5:=Bool.eq_false_iff.mpr c5
    subst c5
    have H1 : (if (a1.size : Int) = 1 then (if 0 < (a1.size : Int) then (strings_TrimRight.j1 kj2 a0 a1 (decide ((bt a1 0) < 128))) else (none)) else (strings_TrimRight.j1 kj2 a0 a1 false)) = some r:=by rw [if_neg (show ¬ (false = true) by decide)] at H;exact H
    clear H
    have H:=H1
    clear H1
    have HC6:=Aside0.mk H
    clear H
    go_upto_region 3 with (fail)
    go_cut [21] (fun v21 wc=>∃ (kq : Nat) (x21_5 : Bool),v21 = .bool x21_5 ∧ Aside0 (strings_TrimRight.j1 kq a0 a1 x21_5 = some r) ∧ Aside0 (kq ≤ kj2) ∧ Aside0 (Below w.heap.size w wc))
    case first =>
     have H:=HC6.out
     clear HC6
     by_cases c7 : (a1.size : Int) = 1
     ·rw [if_pos c7] at H
      have c7b0 : ((a1.size : Int) == 1) = true:=beq_iff_eq.mpr c7
      have c7b1 : ((a1.size : Int) != 1) = false:=bne_eq_false_iff_eq.mpr c7
      clear c7
      (first|rw [c7b0]|(simp only [i64_w,i32_w];rw [c7b0])|skip)
      by_cases c8 : 0 < (a1.size : Int)
      ·rw [if_pos c8] at H
       have c8b0 : decide (0 < (a1.size : Int)) = true:=decide_eq_true c8
       have c8b1 : decide (0 < a1.size) = true:=decide_eq_true (by omega)
       clear c8
       have H':=Aside0.mk H
       clear H
       have p9 : 0 ≤ (0 : Int):=(by omega)
       have q9 : 0 < a1.size:=(by have : (0 : Int) < (a1.size : Int):=of_decide_eq_true (by first|(with_reducible assumption)|assumption);omega)
       have hx9 : ∀ h : 0 < a1.size,((a1[0]'h).toNat : Int) = bt a1 0:=bt_at a1 0
       clear p9
       have qi9 : (0 < (a1.size : Int)) = True:=eq_true (of_decide_eq_true (by first|(with_reducible assumption)|assumption))
       replace q9:=eq_true q9
       go_wp2
       go_meet
       case rel=>exact ⟨_,(decide ((bt a1 0) < 128)),(by first|rfl|(simp;done)|(simp [*];done)),H',⟨by have:=HJ2.out;first|omega|exact Nat.le_refl _⟩,⟨by repeat (first|(with_reducible first|exact HB.out|apply below_alloc|apply pw_below_drewN|apply below_drew1)|exact HB.out)⟩⟩
      ·rw [if_neg c8] at H
       exact absurd H (by simp)
     ·rw [if_neg c7] at H
      have c7b0 : ((a1.size : Int) == 1) = false:=beq_eq_false_iff_ne.mpr c7
      have c7b1 : ((a1.size : Int) != 1) = true:=bne_iff_ne.mpr c7
      (first|rw [c7b0]|(simp only [i64_w,i32_w];rw [c7b0])|skip)
      have H':=Aside0.mk H
      clear H
      go_wp2
      go_meet
      case rel=>exact ⟨_,(false),(by first|rfl|(simp;done)|(simp [*];done)),H',⟨by have:=HJ2.out;first|omega|exact Nat.le_refl _⟩,⟨by repeat (first|(with_reducible first|exact HB.out|apply below_alloc|apply pw_below_drewN|apply below_drew1)|exact HB.out)⟩⟩
    case rest =>
     clear HC6
     try clear c1
     try clear p2
     try clear c4
     try clear c4b0
     try clear c4b1
     try clear c5
     try clear c7
     try clear c7b0
     try clear c7b1
     try clear c8
     try clear c8b0
     try clear c8b1
     try clear p9
     try clear q9
     try clear hx9
     try clear qi9
     try clear p2
     try clear p9
     try clear q9
     obtain ⟨kq,x21_5,rfl,HA,HJ5,HB⟩:=hcut
     cases kq with
     | zero=>exact absurd HA.out (by simp [strings_TrimRight.j1])
     | succ kj5 =>
      have H:=HA.out
      clear HA
      simp only [strings_TrimRight.j1] at H
      by_cases c10 : x21_5 = true
      ·subst c10
       have H1 : (if 0 < (a1.size : Int) then ((strings_trimRightByte.f kj5 a0 (bt a1 0)).bind fun t149=>(some t149)) else (none)) = some r:=by rw [if_pos rfl] at H;exact H
       clear H
       have H:=H1
       clear H1
       by_cases c11 : 0 < (a1.size : Int)
       ·rw [if_pos c11] at H
        have c11b0 : decide (0 < (a1.size : Int)) = true:=decide_eq_true c11
        have c11b1 : decide (0 < a1.size) = true:=decide_eq_true (by omega)
        clear c11
        replace H:=Option.bind_eq_some_iff.mp H
        obtain ⟨t149,A130,H⟩:=H
        replace H : (some t149) = some r:=H
        have A13:=Aside0.mk A130
        clear A130
        obtain rfl:=Option.some.inj H
        have p12 : 0 ≤ (0 : Int):=(by omega)
        have q12 : 0 < a1.size:=(by have : (0 : Int) < (a1.size : Int):=of_decide_eq_true (by first|(with_reducible assumption)|assumption);omega)
        have hx12 : ∀ h : 0 < a1.size,((a1[0]'h).toNat : Int) = bt a1 0:=bt_at a1 0
        clear p12
        have qi12 : (0 < (a1.size : Int)) = True:=eq_true (of_decide_eq_true (by first|(with_reducible assumption)|assumption))
        replace q12:=eq_true q12
        go_wp2_with (first|((with_reducible refine gate_callee (f:=139) rfl ?_);refine goesL_ (some 25) rfl rfl Tryd.func139 (by kernel_rfl) rfl #[.string a0,.int .u8 (bt a1 0)] rfl (by (try simp only [List.map_toArray,List.map_cons,List.map_nil]);first|done|rfl|(simp only [List.length_drop,List.length_take];rfl)) ?_;(with_reducible refine (strings_trimRightByte.calls kj5 a0 (bt a1 0) t149 _ A13.out).mono ?_);rintro e w' ⟨rfl,⟨nd,rfl⟩⟩;refine ⟨_,rfl,?_⟩))
        go_ret
        exact ⟨by first|rfl|(simp [errW_none,errW_some] <;> rfl)|(simp [*,errW_none,errW_some] <;> rfl),by repeat (first|(with_reducible first|exact HB.out|apply below_alloc|apply pw_below_drewN|apply below_drew1)|exact HB.out)⟩
       ·rw [if_neg c11] at H
        exact absurd H (by simp)
      ·replace c10:=Bool.eq_false_iff.mpr c10
       subst c10
       have H1 : (none) = some r:=by rw [if_neg (show ¬ (false = true) by decide)] at H;exact H
       clear H
       have H:=H1
       clear H1
       exact absurd H (by simp)
def impl_DecText.j0 : Nat → Int → ByteArray → Option (ByteArray)
 | 0,_,_=>none
 | k + 1,x3,x4=>(strconv_Itoa.f (wrap64 (Int.tdiv x3 1000000))).bind fun t151=>(if x4.size + t151.size ≤ 9223372036854775807 then (if (Int.tmod x3 1000000) > 0 then ((strconv_Itoa.f (wrap64 (1000000 + (Int.tmod x3 1000000)))).bind fun t152=>(if 1 ≤ (t152.size : Int) then ((strings_TrimRight.f k (t152.extract 1 t152.size) (⟨#[48]⟩ : ByteArray)).bind fun t153=>(if 1 + t153.size ≤ 9223372036854775807 then (if (x4 ++ t151).size + ((⟨#[46]⟩ : ByteArray) ++ t153).size ≤ 9223372036854775807 then (some ((x4 ++ t151) ++ ((⟨#[46]⟩ : ByteArray) ++ t153))) else (none)) else (none))) else (none))) else (some (x4 ++ t151))) else (none))
def impl_DecText.f (k : Nat) (a0 : Int) : Option (ByteArray):=(impl_DecOk.f a0).bind fun t150=>(if t150 = true then (if a0 < 0 then (impl_DecText.j0 k (mx a0 (wrap64 (-a0))) (⟨#[45]⟩ : ByteArray)) else (impl_DecText.j0 k (mx a0 (wrap64 (-a0))) (⟨#[]⟩ : ByteArray))) else (some (⟨#[]⟩ : ByteArray)))
theorem impl_DecText.mono_l : ∀ k,(∀ y0 y1,LeO (impl_DecText.j0 k y0 y1) (impl_DecText.j0 (k + 1) y0 y1))
 | 0=>fun _ _ r h=>by simp [impl_DecText.j0] at h
 | k + 1=>by
  have ih0:=impl_DecText.mono_l k
  ·intro y0 y1
   unfold impl_DecText.j0
   repeat' first
   | (with_reducible exact ih0 _ _)
   | (with_reducible exact strings_TrimRight.mono _ _ _)
   | (with_reducible exact LeO.refl _)
   | (with_reducible exact LeO.none _)
   | (with_reducible refine LeO.ite ?_ ?_)
   | (with_reducible refine LeO.bind ?_ (fun _=>?_))
   | exact ih0 _ _
   | exact strings_TrimRight.mono _ _ _
   | exact LeO.none _
   | refine LeO.ite ?_ ?_
   | refine LeO.bind ?_ (fun _=>?_)
theorem impl_DecText.mono : ∀ a0 k,LeO (impl_DecText.f k a0) (impl_DecText.f (k + 1) a0):=by
 intro a0 k
 have ih0:=impl_DecText.mono_l k
 unfold impl_DecText.f
 repeat' first
   | (with_reducible exact ih0 _ _)
   | (with_reducible exact strings_TrimRight.mono _ _ _)
   | (with_reducible exact LeO.refl _)
   | (with_reducible exact LeO.none _)
   | (with_reducible refine LeO.ite ?_ ?_)
   | (with_reducible refine LeO.bind ?_ (fun _=>?_))
   | exact ih0 _ _
   | exact strings_TrimRight.mono _ _ _
   | exact LeO.none _
   | refine LeO.ite ?_ ?_
   | refine LeO.bind ?_ (fun _=>?_)
set_option maxHeartbeats 8000000 in
set_option maxRecDepth 100000 in
theorem impl_DecText.calls (k : Nat) (a0 : Int) (r : ByteArray) (w : World) (h : impl_DecText.f k a0 = some r) (hT : Tabs w:=by first|assumption|(refine Aside0.out (p:=Tabs _) ?_;assumption)|(refine Tabs.below (w:=?ww) (Aside0.out ?ha) ?hb;(case ha=>assumption);(case hb=>repeat (first|(with_reducible first|exact Below.refl _ _|(refine Aside0.out ?_;assumption)|apply below_alloc|apply pw_below_drewN|apply below_drew1|(refine below_set ?_ (Aside0.out ?_);(rotate_left;assumption)))|(refine Aside0.out ?_;assumption))))|(refine Tabs.drewN (w:=?ww) (Aside0.out ?ha) _;(case ha=>assumption))) :
  Calls Tryd.prog 87 #[.int .i64 a0] w fun e w'=>e = .returned (.string r) ∧ Below w.heap.size w w':=by
 have HT_:=Aside0.mk hT
 clear hT
 have HB:=Aside0.mk (Below.refl w.heap.size w)
 have H : ((impl_DecOk.f a0).bind fun t150=>(if t150 = true then (if a0 < 0 then (impl_DecText.j0 k (mx a0 (wrap64 (-a0))) (⟨#[45]⟩ : ByteArray)) else (impl_DecText.j0 k (mx a0 (wrap64 (-a0))) (⟨#[]⟩ : ByteArray))) else (some (⟨#[]⟩ : ByteArray)))) = some r:=h
 clear h
 replace H:=Option.bind_eq_some_iff.mp H
 obtain ⟨t150,A20,H⟩:=H
 replace H : (if t150 = true then (if a0 < 0 then (impl_DecText.j0 k (mx a0 (wrap64 (-a0))) (⟨#[45]⟩ : ByteArray)) else (impl_DecText.j0 k (mx a0 (wrap64 (-a0))) (⟨#[]⟩ : ByteArray))) else (some (⟨#[]⟩ : ByteArray))) = some r:=H
 have A2:=Aside0.mk A20
 clear A20
 by_cases c3 : t150 = true
 ·subst c3
  have H1 : (if a0 < 0 then (impl_DecText.j0 k (mx a0 (wrap64 (-a0))) (⟨#[45]⟩ : ByteArray)) else (impl_DecText.j0 k (mx a0 (wrap64 (-a0))) (⟨#[]⟩ : ByteArray))) = some r:=by rw [if_pos rfl] at H;exact H
  clear H
  have H:=H1
  clear H1
  obtain ⟨ji4,hji4⟩ : ∃ j_ : Int,(mx a0 (wrap64 (-a0))) = j_:=⟨_,rfl⟩
  replace H : (if a0 < 0 then (impl_DecText.j0 k ji4 (⟨#[45]⟩ : ByteArray)) else (impl_DecText.j0 k ji4 (⟨#[]⟩ : ByteArray))) = some r:=by first|(rw [hji4] at H;exact H)|(simp only [hji4] at H ⊢;exact H)
  (try rw [hji4] at A2)
  have hji4_ : (if a0 < (wrap64 (-a0)) then (wrap64 (-a0)) else a0) = ji4:=hji4
  have HC5:=Aside0.mk H
  clear H
  go_enter Tryd.func87,Tryd.ntmps87
  go_upto_if 14 with (first|((with_reducible refine gate_callee (f:=58) rfl ?_);refine goesL_ (some 7) rfl rfl Tryd.func58 (by kernel_rfl) rfl #[.int .i64 a0] rfl (by (try simp only [List.map_toArray,List.map_cons,List.map_nil]);first|done|rfl|(simp only [List.length_drop,List.length_take];rfl)) ?_;(with_reducible refine (impl_DecOk.calls a0 true _ A2.out).mono ?_);rintro e w' ⟨rfl,⟨nd,rfl⟩⟩;refine ⟨_,rfl,?_⟩))
  (try simp only [Act.put,List.setIfInBounds_toArray,List.set_cons_zero,List.set_cons_succ])
  go_cut [4] (fun v4 wc=>∃ (kq : Nat) (x4_4 : ByteArray),v4 = .string x4_4 ∧ Aside0 (impl_DecText.j0 kq ji4 x4_4 = some r) ∧ Aside0 (kq ≤ k) ∧ Aside0 (Below w.heap.size w wc))
  case first =>
   have H:=HC5.out
   clear HC5
   by_cases c6 : a0 < 0
   ·rw [if_pos c6] at H
    have c6b0 : decide (a0 < 0) = true:=decide_eq_true c6
    clear c6
    (first|rw [c6b0]|(simp only [i64_w,i32_w];rw [c6b0])|skip)
    have H':=Aside0.mk H
    clear H
    go_wp2
    go_meet
    case rel=>exact ⟨_,((⟨#[45]⟩ : ByteArray)),(by first|rfl|(simp;done)|(simp [*];done)),H',⟨by first|omega|exact Nat.le_refl _⟩,⟨by repeat (first|(with_reducible first|exact HB.out|apply below_alloc|apply pw_below_drewN|apply below_drew1)|exact HB.out)⟩⟩
   ·rw [if_neg c6] at H
    have c6b0 : decide (a0 < 0) = false:=decide_eq_false c6
    clear c6
    (first|rw [c6b0]|(simp only [i64_w,i32_w];rw [c6b0])|skip)
    have H':=Aside0.mk H
    clear H
    go_wp2
    go_meet
    case rel=>exact ⟨_,((⟨#[]⟩ : ByteArray)),(by first|rfl|(simp;done)|(simp [*];done)),H',⟨by first|omega|exact Nat.le_refl _⟩,⟨by repeat (first|(with_reducible first|exact HB.out|apply below_alloc|apply pw_below_drewN|apply below_drew1)|exact HB.out)⟩⟩
  case rest =>
   clear HC5
   try clear p2
   try clear c3
   try clear c5
   try clear c6
   try clear c6b0
   try clear p6
   obtain ⟨kq,x4_4,rfl,HA,HJ4,HB⟩:=hcut
   cases kq with
   | zero=>exact absurd HA.out (by simp [impl_DecText.j0])
   | succ kj4 =>
    have H:=HA.out
    clear HA
    simp only [impl_DecText.j0] at H
    replace H:=Option.bind_eq_some_iff.mp H
    obtain ⟨t151,A70,H⟩:=H
    replace H : (if x4_4.size + t151.size ≤ 9223372036854775807 then (if (Int.tmod ji4 1000000) > 0 then ((strconv_Itoa.f (wrap64 (1000000 + (Int.tmod ji4 1000000)))).bind fun t152=>(if 1 ≤ (t152.size : Int) then ((strings_TrimRight.f kj4 (t152.extract 1 t152.size) (⟨#[48]⟩ : ByteArray)).bind fun t153=>(if 1 + t153.size ≤ 9223372036854775807 then (if (x4_4 ++ t151).size + ((⟨#[46]⟩ : ByteArray) ++ t153).size ≤ 9223372036854775807 then (some ((x4_4 ++ t151) ++ ((⟨#[46]⟩ : ByteArray) ++ t153))) else (none)) else (none))) else (none))) else (some (x4_4 ++ t151))) else (none)) = some r:=H
    have A7:=Aside0.mk A70
    clear A70
    by_cases c8 : x4_4.size + t151.size ≤ 9223372036854775807
    ·rw [if_pos c8] at H
     have c8b0:=eq_true c8
     have c8b1 : decide (x4_4.size + t151.size ≤ 9223372036854775807) = true:=decide_eq_true c8
     try have c8b2 : (9223372036854775807 < x4_4.size + t151.size) = False:=eq_false (Nat.not_lt.2 c8)
     by_cases c9 : (Int.tmod ji4 1000000) > 0
     ·rw [if_pos c9] at H
      have c9b0 : decide (0 < (Int.tmod ji4 1000000)) = true:=decide_eq_true c9
      clear c9
      replace H:=Option.bind_eq_some_iff.mp H
      obtain ⟨t152,A100,H⟩:=H
      replace H : (if 1 ≤ (t152.size : Int) then ((strings_TrimRight.f kj4 (t152.extract 1 t152.size) (⟨#[48]⟩ : ByteArray)).bind fun t153=>(if 1 + t153.size ≤ 9223372036854775807 then (if (x4_4 ++ t151).size + ((⟨#[46]⟩ : ByteArray) ++ t153).size ≤ 9223372036854775807 then (some ((x4_4 ++ t151) ++ ((⟨#[46]⟩ : ByteArray) ++ t153))) else (none)) else (none))) else (none)) = some r:=H
      have A10:=Aside0.mk A100
      clear A100
      by_cases c11 : 1 ≤ (t152.size : Int)
      ·rw [if_pos c11] at H
       have c11b0:=eq_true c11
       have c11b1 : decide (1 ≤ (t152.size : Int)) = true:=decide_eq_true c11
       clear c11
       replace H:=Option.bind_eq_some_iff.mp H
       obtain ⟨t153,A120,H⟩:=H
       replace H : (if 1 + t153.size ≤ 9223372036854775807 then (if (x4_4 ++ t151).size + ((⟨#[46]⟩ : ByteArray) ++ t153).size ≤ 9223372036854775807 then (some ((x4_4 ++ t151) ++ ((⟨#[46]⟩ : ByteArray) ++ t153))) else (none)) else (none)) = some r:=H
       have A12:=Aside0.mk A120
       clear A120
       by_cases c13 : 1 + t153.size ≤ 9223372036854775807
       ·rw [if_pos c13] at H
        have c13b0:=eq_true c13
        have c13b1 : decide (1 + t153.size ≤ 9223372036854775807) = true:=decide_eq_true c13
        try have c13b2 : (9223372036854775807 < 1 + t153.size) = False:=eq_false (Nat.not_lt.2 c13)
        by_cases c14 : (x4_4 ++ t151).size + ((⟨#[46]⟩ : ByteArray) ++ t153).size ≤ 9223372036854775807
        ·rw [if_pos c14] at H
         have c14b0:=eq_true c14
         have c14b1 : decide ((x4_4 ++ t151).size + ((⟨#[46]⟩ : ByteArray) ++ t153).size ≤ 9223372036854775807) = true:=decide_eq_true c14
         try have c14b2 : (9223372036854775807 < (x4_4 ++ t151).size + ((⟨#[46]⟩ : ByteArray) ++ t153).size) = False:=eq_false (Nat.not_lt.2 c14)
         try (have c14b4:=c14b2;simp only [ByteArray.size_append] at c14b4)
         obtain rfl:=Option.some.inj H
         go_wp2_with (first|((with_reducible refine gate_callee (f:=120) rfl ?_);refine goesL_ (some 18) rfl rfl Tryd.func120 (by kernel_rfl) rfl #[.int .i64 (wrap64 (Int.tdiv ji4 1000000))] rfl (by (try simp only [List.map_toArray,List.map_cons,List.map_nil]);first|done|(simp only [hji4];rfl)|rfl|(simp only [List.length_drop,List.length_take];rfl)) ?_;(with_reducible refine (strconv_Itoa.calls (wrap64 (Int.tdiv ji4 1000000)) t151 _ A7.out).mono ?_);rintro e w15 ⟨rfl,hb⟩;refine ⟨_,rfl,?_⟩;have n0_:=Aside0.mk (below_step (by repeat (first|(with_reducible first|exact HB.out|apply below_alloc|apply pw_below_drewN|apply below_drew1)|exact HB.out)) hb);clear HB;have HB:=n0_;clear n0_;(try clear hb);(try clear hb2);(try clear hk);(try clear hi))|((with_reducible refine gate_callee (f:=120) rfl ?_);refine goesL_ (some 27) rfl rfl Tryd.func120 (by kernel_rfl) rfl #[.int .i64 (wrap64 (1000000 + (Int.tmod ji4 1000000)))] rfl (by (try simp only [List.map_toArray,List.map_cons,List.map_nil]);first|done|(simp only [hji4];rfl)|rfl|(simp only [List.length_drop,List.length_take];rfl)) ?_;(with_reducible refine (strconv_Itoa.calls (wrap64 (1000000 + (Int.tmod ji4 1000000))) t152 _ A10.out).mono ?_);rintro e w16 ⟨rfl,hb⟩;refine ⟨_,rfl,?_⟩;have n0_:=Aside0.mk (below_step (by repeat (first|(with_reducible first|exact HB.out|apply below_alloc|apply pw_below_drewN|apply below_drew1)|exact HB.out)) hb);clear HB;have HB:=n0_;clear n0_;(try clear hb);(try clear hb2);(try clear hk);(try clear hi))|((with_reducible refine gate_callee (f:=121) rfl ?_);refine goesL_ (some 29) rfl rfl Tryd.func121 (by kernel_rfl) rfl #[.string (t152.extract 1 t152.size),.string (⟨#[48]⟩ : ByteArray)] rfl (by (try simp only [List.map_toArray,List.map_cons,List.map_nil]);first|done|rfl|(simp only [List.length_drop,List.length_take];rfl)) ?_;(with_reducible refine (strings_TrimRight.calls kj4 (t152.extract 1 t152.size) (⟨#[48]⟩ : ByteArray) t153 _ A12.out).mono ?_);rintro e w17 ⟨rfl,hb⟩;refine ⟨_,rfl,?_⟩;have n0_:=Aside0.mk (below_step (by repeat (first|(with_reducible first|exact HB.out|apply below_alloc|apply pw_below_drewN|apply below_drew1)|exact HB.out)) hb);clear HB;have HB:=n0_;clear n0_;(try clear hb);(try clear hb2);(try clear hk);(try clear hi)))
         go_ret
         exact ⟨by first|rfl|(simp [errW_none,errW_some] <;> rfl)|(simp only [← hji4];first|rfl|(simp [errW_none,errW_some] <;> rfl))|(simp [*,errW_none,errW_some] <;> rfl),by repeat (first|(with_reducible first|exact HB.out|apply below_alloc|apply pw_below_drewN|apply below_drew1)|exact HB.out)⟩
        ·rw [if_neg c14] at H
         exact absurd H (by simp)
       ·rw [if_neg c13] at H
        exact absurd H (by simp)
      ·rw [if_neg c11] at H
       exact absurd H (by simp)
     ·rw [if_neg c9] at H
      have c9b0 : decide (0 < (Int.tmod ji4 1000000)) = false:=decide_eq_false c9
      clear c9
      obtain rfl:=Option.some.inj H
      go_wp2_with (first|((with_reducible refine gate_callee (f:=120) rfl ?_);refine goesL_ (some 18) rfl rfl Tryd.func120 (by kernel_rfl) rfl #[.int .i64 (wrap64 (Int.tdiv ji4 1000000))] rfl (by (try simp only [List.map_toArray,List.map_cons,List.map_nil]);first|done|(simp only [hji4];rfl)|rfl|(simp only [List.length_drop,List.length_take];rfl)) ?_;(with_reducible refine (strconv_Itoa.calls (wrap64 (Int.tdiv ji4 1000000)) t151 _ A7.out).mono ?_);rintro e w18 ⟨rfl,hb⟩;refine ⟨_,rfl,?_⟩;have n0_:=Aside0.mk (below_step (by repeat (first|(with_reducible first|exact HB.out|apply below_alloc|apply pw_below_drewN|apply below_drew1)|exact HB.out)) hb);clear HB;have HB:=n0_;clear n0_;(try clear hb);(try clear hb2);(try clear hk);(try clear hi)))
      go_ret
      exact ⟨by first|rfl|(simp [errW_none,errW_some] <;> rfl)|(simp only [← hji4];first|rfl|(simp [errW_none,errW_some] <;> rfl))|(simp [*,errW_none,errW_some] <;> rfl),by repeat (first|(with_reducible first|exact HB.out|apply below_alloc|apply pw_below_drewN|apply below_drew1)|exact HB.out)⟩
    ·rw [if_neg c8] at H
     exact absurd H (by simp)
 ·replace c3:=Bool.eq_false_iff.mpr c3
  subst c3
  have H1 : (some (⟨#[]⟩ : ByteArray)) = some r:=by rw [if_neg (show ¬ (false = true) by decide)] at H;exact H
  clear H
  have H:=H1
  clear H1
  obtain rfl:=Option.some.inj H
  go_enter Tryd.func87,Tryd.ntmps87
  go_wp2_with (first|((with_reducible refine gate_callee (f:=58) rfl ?_);refine goesL_ (some 7) rfl rfl Tryd.func58 (by kernel_rfl) rfl #[.int .i64 a0] rfl (by (try simp only [List.map_toArray,List.map_cons,List.map_nil]);first|done|rfl|(simp only [List.length_drop,List.length_take];rfl)) ?_;(with_reducible refine (impl_DecOk.calls a0 false _ A2.out).mono ?_);rintro e w' ⟨rfl,⟨nd,rfl⟩⟩;refine ⟨_,rfl,?_⟩))
  go_ret
  exact ⟨by first|rfl|(simp [errW_none,errW_some] <;> rfl)|(simp [*,errW_none,errW_some] <;> rfl),by repeat (first|(with_reducible first|exact HB.out|apply below_alloc|apply pw_below_drewN|apply below_drew1)|exact HB.out)⟩
theorem eqA26 (d : Nat) (w : World) (x0 y0 : Int) (x1 y1 : Int) (x2 y2 : ByteArray) :
  (Op.equalIn (d + 2) 26 (.agg #[.int .i64 x0,.int .i64 x1,.string x2]) (.agg #[.int .i64 y0,.int .i64 y1,.string y2])).run Tryd.prog w = .ok (x0 == y0 && (x1 == y1 && (x2.toList == y2.toList))) w:=by
 refine eqA_of Tryd.underlying26 (by kernel_rfl) ?_
 refine eqf_cons (by rfl) (by go_simp;rfl) (by go_simp;rfl) (by go_simp) ?_
 refine eqf_cons (by rfl) (by go_simp;rfl) (by go_simp;rfl) (by go_simp) ?_
 exact eqf_last (by rfl) (by go_simp;rfl) (by go_simp;rfl) (by go_simp)
end Go.Proofs.YtnfiljnncpieoaaDoor.Q
namespace Go.Proofs.YtnfiljnncpieoaaDoor.Q
open Go.RowKit Go.Proofs.YtnfiljnncpieoaaDoorW.PrintWords Go.Proofs.YtnfiljnncpieoaaDoorW.PrintLast Go.Proofs.YtnfiljnncpieoaaDoorW.PrintMore
attribute [local go_sem] max2_int min2_int max_two min_two max_three min_three max_four min_four   -- for this text's walks alone
set_option linter.unusedVariables false
set_option linter.unusedSimpArgs false
attribute [local go_sem high] eqA26
def spec_l1text.f (s0_0 : List Int) (s0_1 : Int) (s0_2 : Int) (l1 : List ByteArray) : Option (ByteArray × Int × Int):=(spec_l1Below.f s0_0 s0_1 s0_2 (l1.length : Int)).bind fun bt418=>(if 0 ≤ bt418.1 then (if bt418.1 < (l1.length : Int) then (some (rdOf ByteArray.empty l1 bt418.1,bt418.2.1,bt418.2.2)) else (none)) else (none))
set_option maxHeartbeats 8000000 in
set_option maxRecDepth 100000 in
theorem spec_l1text.calls (g : Nat) (s0_0 : List Int) (s0_1 : Int) (s0_2 : Int) (A1 : Option Addr) (c1 : Nat) (l1 : List ByteArray) (r1 : ByteArray) (r2 : Int) (r3 : Int) (w0 w : World) (hI : IsS90 w0 w g s0_0 s0_1 s0_2) (hB : Below w0.heap.size w0 w) (hr1 : Kd.C Kd.string w A1 l1.length l1) (hc1 : l1.length ≤ c1) (hf1 : ∀ ad,A1 = some ad → 0 < l1.length → ad.block ≠ g) (h : spec_l1text.f s0_0 s0_1 s0_2 l1 = some (r1,r2,r3)) :
  Calls Tryd.prog 73 #[.pointer (some ⟨g,0,none⟩),.slice A1 l1.length c1] w fun e w'=>e = .returned (.string r1) ∧ IsS90 w0 w' g s0_0 r2 r3 ∧ Below w0.heap.size w0 w' ∧ KeepBut w w' g none:=by
 have HR1:=Aside0.mk hr1
 have HC1:=Aside0.mk hc1
 clear hr1 hc1
 have HI0:=Aside0.mk hI
 have HK:=Aside0.mk (KeepBut.refl w g none)
 have HL:=Aside0.mk hB.size
 clear hI
 have HW0:=Aside0.mk hB.size
 have HB:=Aside0.mk hB
 clear hB
 have H : ((spec_l1Below.f s0_0 s0_1 s0_2 (l1.length : Int)).bind fun bt418=>(if 0 ≤ bt418.1 then (if bt418.1 < (l1.length : Int) then (some (rdOf ByteArray.empty l1 bt418.1,bt418.2.1,bt418.2.2)) else (none)) else (none))) = some (r1,r2,r3):=h
 clear h
 replace H:=Option.bind_eq_some_iff.mp H
 obtain ⟨⟨t418,t419,t420⟩,A30,H⟩:=H
 replace H : (if 0 ≤ t418 then (if t418 < (l1.length : Int) then (some (rdOf ByteArray.empty l1 t418,t419,t420)) else (none)) else (none)) = some (r1,r2,r3):=H
 have A3:=Aside0.mk A30
 clear A30
 by_cases c4 : 0 ≤ t418
 ·rw [if_pos c4] at H
  have c4b0 : decide (0 ≤ t418) = true:=decide_eq_true c4
  clear c4
  by_cases c5 : t418 < (l1.length : Int)
  ·rw [if_pos c5] at H
   have c5b0 : decide (t418 < (l1.length : Int)) = true:=decide_eq_true c5
   clear c5
   simp only [Option.some.injEq,Prod.mk.injEq] at H
   obtain ⟨rfl,rfl,rfl⟩:=H
   go_enter Tryd.func73,Tryd.ntmps73
   go_wp2_with (first|((with_reducible refine gate_callee (f:=48) rfl ?_);refine goesL_ (some 9) rfl rfl Tryd.func48 (by kernel_rfl) rfl #[.pointer (some ⟨g,0,none⟩),.int .i64 (l1.length : Int)] rfl (by (try simp only [List.map_toArray,List.map_cons,List.map_nil]);first|done|rfl|(simp only [List.length_drop,List.length_take];rfl)) ?_;(with_reducible refine (spec_l1Below.calls g s0_0 s0_1 s0_2 (l1.length : Int) t418 t419 t420 w0 _ ?side1 ?side2 A3.out).mono ?_);(case side1=>repeat (first|(with_reducible first|exact HI0.out|apply IsS90.alloc|apply IsS90.drewN|apply IsS90.drew|apply IsS90.set_1|apply IsS90.set_2)|exact HI0.out));(case side2=>repeat (first|(with_reducible first|exact HB.out|apply below_alloc|apply pw_below_drewN|apply below_drew1|refine below_set ?_ (IsS90.ge HI0.out))|exact HB.out));rintro e w6 ⟨rfl,hi,hb,hk⟩;refine ⟨_,rfl,?_⟩;have n0_:=Aside0.mk (KeepBut.trans (by repeat (first|(with_reducible first|exact HK.out|apply KeepBut.set_|apply keep_drewN|apply keep_drew|apply keep_alloc)|exact HK.out)) hk (.inl rfl));have n1_:=Aside0.mk (hb);have n2_:=Aside0.mk (hi);clear HK;clear HB;clear HI0;have HK:=n0_;have HB:=n1_;have HI0:=n2_;clear n0_ n1_ n2_;(try clear hb);(try clear hb2);(try clear hk);(try clear hi);have p421 : 0 ≤ (t418 : Int):=of_decide_eq_true (by first|(with_reducible assumption)|assumption);have q421 : t418 < (l1.length : Int):=of_decide_eq_true (by first|(with_reducible assumption)|assumption);obtain ⟨ad421,e421,hx421_0⟩:=Kd.at_string HR1.out t418 p421 q421;cases e421;replace hx421_0:=keep_cell HK.out hx421_0 (by first|(rw [add_block];exact hf1 _ rfl (by omega))|exact hf1 _ rfl (by omega)|exact hf1 ad421 rfl (by omega));replace p421:=eq_true p421;replace q421:=eq_true q421))
   go_ret
   exact ⟨by first|rfl|(simp [errW_none,errW_some] <;> rfl)|(simp [*,errW_none,errW_some] <;> rfl),by repeat (first|(with_reducible first|exact HI0.out|apply IsS90.alloc|apply IsS90.drewN|apply IsS90.drew|apply IsS90.set_1|apply IsS90.set_2)|exact HI0.out),by repeat (first|(with_reducible first|exact HB.out|apply below_alloc|apply pw_below_drewN|apply below_drew1|refine below_set ?_ (IsS90.ge HI0.out))|exact HB.out),by repeat (first|(with_reducible first|exact HK.out|apply KeepBut.set_|apply keep_drewN|apply keep_drew|apply keep_alloc)|exact HK.out)⟩
  ·rw [if_neg c5] at H
   exact absurd H (by simp)
 ·rw [if_neg c4] at H
  exact absurd H (by simp)
end Go.Proofs.YtnfiljnncpieoaaDoor.Q
namespace Go.Proofs.YtnfiljnncpieoaaDoor.Q
open Go.RowKit Go.Proofs.YtnfiljnncpieoaaDoorW.PrintWords Go.Proofs.YtnfiljnncpieoaaDoorW.PrintLast Go.Proofs.YtnfiljnncpieoaaDoorW.PrintMore
attribute [local go_sem] max2_int min2_int max_two min_two max_three min_three max_four min_four   -- for this text's walks alone
set_option linter.unusedVariables false
set_option linter.unusedSimpArgs false
def slices_Index_string_string.l0 : Nat → List ByteArray → ByteArray → Int → Int → Option (Int)
 | 0,_,_,_,_=>none
 | k + 1,x0,x1,x7,x8=>if x8 < x7 then (if 0 ≤ x8 then (if x8 < (x0.length : Int) then (if x1.toList = (rdOf ByteArray.empty x0 x8).toList then (some x8) else (slices_Index_string_string.l0 k x0 x1 x7 (wrap64 (x8 + 1)))) else (none)) else (none)) else (some (-1))
def slices_Index_string_string.f (k : Nat) (l0 : List ByteArray) (a1 : ByteArray) : Option (Int):=slices_Index_string_string.l0 k l0 a1 (l0.length : Int) 0
theorem slices_Index_string_string.mono_l : ∀ k,(∀ y0 y1 y2 y3,LeO (slices_Index_string_string.l0 k y0 y1 y2 y3) (slices_Index_string_string.l0 (k + 1) y0 y1 y2 y3))
 | 0=>fun _ _ _ _ r h=>by simp [slices_Index_string_string.l0] at h
 | k + 1=>by
  have ih0:=slices_Index_string_string.mono_l k
  ·intro y0 y1 y2 y3
   unfold slices_Index_string_string.l0
   repeat' first
   | (with_reducible exact ih0 _ _ _ _)
   | (with_reducible exact LeO.refl _)
   | (with_reducible exact LeO.none _)
   | (with_reducible refine LeO.ite ?_ ?_)
   | (with_reducible refine LeO.bind ?_ (fun _=>?_))
   | exact ih0 _ _ _ _
   | exact LeO.none _
   | refine LeO.ite ?_ ?_
   | refine LeO.bind ?_ (fun _=>?_)
theorem slices_Index_string_string.mono : ∀ a0 a1 k,LeO (slices_Index_string_string.f k a0 a1) (slices_Index_string_string.f (k + 1) a0 a1):=by
 intro a0 a1 k
 have ih0:=slices_Index_string_string.mono_l k
 unfold slices_Index_string_string.f
 repeat' first
   | (with_reducible exact ih0 _ _ _ _)
   | (with_reducible exact LeO.refl _)
   | (with_reducible exact LeO.none _)
   | (with_reducible refine LeO.ite ?_ ?_)
   | (with_reducible refine LeO.bind ?_ (fun _=>?_))
   | exact ih0 _ _ _ _
   | exact LeO.none _
   | refine LeO.ite ?_ ?_
   | refine LeO.bind ?_ (fun _=>?_)
set_option maxHeartbeats 8000000 in
set_option maxRecDepth 100000 in
theorem slices_Index_string_string.calls (k : Nat) (A0 : Option Addr) (c0 : Nat) (l0 : List ByteArray) (a1 : ByteArray) (r : Int) (w : World) (hr0 : Kd.C Kd.string w A0 l0.length l0) (hc0 : l0.length ≤ c0) (h : slices_Index_string_string.f k l0 a1 = some r) :
  Calls Tryd.prog 135 #[.slice A0 l0.length c0,.string a1] w fun e w'=>e = .returned (.int .i64 r) ∧ Drawn0 w w':=by
 have HR0:=Aside0.mk hr0
 have HC0:=Aside0.mk hc0
 clear hr0 hc0
 have H : (slices_Index_string_string.l0 k l0 a1 (l0.length : Int) 0) = some r:=h
 clear h
 have H':=Aside0.mk H
 clear H
 go_enter Tryd.func135,Tryd.ntmps135
 go_wp2
 go_loopg [8] k (fun kq v8 w'=>∃ (x8_1 : Int),v8 = .int .i64 x8_1 ∧ Aside0 (slices_Index_string_string.l0 kq l0 a1 (l0.length : Int) x8_1 = some r) ∧ Aside0 (kq ≤ k) ∧ Drawn0 w w')
 case atStart=>exact ⟨(0),(by first|rfl|(simp;done)|(simp [*];done)),H',⟨Nat.le_refl _⟩,by repeat (first|exact Drawn0.refl _|apply Drawn0.step)⟩
 case round =>
  clear H'
  try clear c1
  try clear p2
  obtain ⟨x8_1,rfl,HA,HK1,⟨m1,rfl⟩⟩:=hrel
  cases gk with
  | zero=>exact absurd HA.out (by simp [slices_Index_string_string.l0])
  | succ k1 =>
   have H:=HA.out
   clear HA
   simp only [slices_Index_string_string.l0] at H
   by_cases c3 : x8_1 < (l0.length : Int)
   ·rw [if_pos c3] at H
    have c3b0 : decide (x8_1 < (l0.length : Int)) = true:=decide_eq_true c3
    clear c3
    by_cases c4 : 0 ≤ x8_1
    ·rw [if_pos c4] at H
     have c4b0 : decide (0 ≤ x8_1) = true:=decide_eq_true c4
     clear c4
     by_cases c5 : x8_1 < (l0.length : Int)
     ·rw [if_pos c5] at H
      have c5b0 : decide (x8_1 < (l0.length : Int)) = true:=decide_eq_true c5
      clear c5
      by_cases c6 : a1.toList = (rdOf ByteArray.empty l0 x8_1).toList
      ·rw [if_pos c6] at H
       have c6b0 : (a1.toList == (rdOf ByteArray.empty l0 x8_1).toList) = true:=beq_iff_eq.mpr c6
       have c6b1 : (a1.toList != (rdOf ByteArray.empty l0 x8_1).toList) = false:=bne_eq_false_iff_eq.mpr c6
       clear c6
       obtain rfl:=Option.some.inj H
       have p596 : 0 ≤ (x8_1 : Int):=of_decide_eq_true (by first|(with_reducible assumption)|assumption)
       have q596 : x8_1 < (l0.length : Int):=of_decide_eq_true (by first|(with_reducible assumption)|assumption)
       obtain ⟨ad596,e596,hx596_0⟩:=Kd.at_string HR0.out x8_1 p596 q596
       cases e596
       replace p596:=eq_true p596
       replace q596:=eq_true q596
       go_wp2
       go_ret
       exact ⟨by first|rfl|(simp;done)|(simp [*];done),by repeat (first|exact Drawn0.refl _|apply Drawn0.step)⟩
      ·rw [if_neg c6] at H
       have c6b0 : (a1.toList == (rdOf ByteArray.empty l0 x8_1).toList) = false:=beq_eq_false_iff_ne.mpr c6
       have c6b1 : (a1.toList != (rdOf ByteArray.empty l0 x8_1).toList) = true:=bne_iff_ne.mpr c6
       have H':=Aside0.mk H
       clear H
       have p596 : 0 ≤ (x8_1 : Int):=of_decide_eq_true (by first|(with_reducible assumption)|assumption)
       have q596 : x8_1 < (l0.length : Int):=of_decide_eq_true (by first|(with_reducible assumption)|assumption)
       obtain ⟨ad596,e596,hx596_0⟩:=Kd.at_string HR0.out x8_1 p596 q596
       cases e596
       replace p596:=eq_true p596
       replace q596:=eq_true q596
       go_wp2
       go_roundg k1
       case measure=>have:=HK1.out;omega
       case rel=>exact ⟨(wrap64 (x8_1 + 1)),(by first|rfl|(simp;done)|(simp [*];done)),H',⟨by have:=HK1.out;omega⟩,by repeat (first|exact Drawn0.refl _|apply Drawn0.step)⟩
     ·rw [if_neg c5] at H
      exact absurd H (by simp)
    ·rw [if_neg c4] at H
     exact absurd H (by simp)
   ·rw [if_neg c3] at H
    have c3b0 : decide (x8_1 < (l0.length : Int)) = false:=decide_eq_false c3
    clear c3
    obtain rfl:=Option.some.inj H
    go_wp2
    go_ret
    exact ⟨by first|rfl|(simp;done)|(simp [*];done),by repeat (first|exact Drawn0.refl _|apply Drawn0.step)⟩
def slices_Contains_string_string.f (k : Nat) (l0 : List ByteArray) (a1 : ByteArray) : Option (Bool):=(slices_Index_string_string.f k l0 a1).bind fun t597=>(some (decide (t597 ≥ 0)))
theorem slices_Contains_string_string.mono : ∀ a0 a1 k,LeO (slices_Contains_string_string.f k a0 a1) (slices_Contains_string_string.f (k + 1) a0 a1):=by
 intro a0 a1 k
 unfold slices_Contains_string_string.f
 repeat' first
   | (with_reducible exact slices_Index_string_string.mono _ _ _)
   | (with_reducible exact LeO.refl _)
   | (with_reducible exact LeO.none _)
   | (with_reducible refine LeO.ite ?_ ?_)
   | (with_reducible refine LeO.bind ?_ (fun _=>?_))
   | exact slices_Index_string_string.mono _ _ _
   | exact LeO.none _
   | refine LeO.ite ?_ ?_
   | refine LeO.bind ?_ (fun _=>?_)
set_option maxHeartbeats 8000000 in
set_option maxRecDepth 100000 in
theorem slices_Contains_string_string.calls (k : Nat) (A0 : Option Addr) (c0 : Nat) (l0 : List ByteArray) (a1 : ByteArray) (r : Bool) (w : World) (hr0 : Kd.C Kd.string w A0 l0.length l0) (hc0 : l0.length ≤ c0) (h : slices_Contains_string_string.f k l0 a1 = some r) :
  Calls Tryd.prog 107 #[.slice A0 l0.length c0,.string a1] w fun e w'=>e = .returned (.bool r) ∧ Drawn0 w w':=by
 have HR0:=Aside0.mk hr0
 have HC0:=Aside0.mk hc0
 clear hr0 hc0
 have H : ((slices_Index_string_string.f k l0 a1).bind fun t597=>(some (decide (t597 ≥ 0)))) = some r:=h
 clear h
 replace H:=Option.bind_eq_some_iff.mp H
 obtain ⟨t597,A30,H⟩:=H
 replace H : (some (decide (t597 ≥ 0))) = some r:=H
 have A3:=Aside0.mk A30
 clear A30
 obtain rfl:=Option.some.inj H
 go_enter Tryd.func107,Tryd.ntmps107
 go_wp2_with (first|((with_reducible refine gate_callee (f:=135) rfl ?_);refine goesL_ (some 7) rfl rfl Tryd.func135 (by kernel_rfl) rfl #[.slice A0 l0.length c0,.string a1] rfl (by (try simp only [List.map_toArray,List.map_cons,List.map_nil]);first|done|rfl|(simp only [List.length_drop,List.length_take];rfl)) ?_;(with_reducible refine (slices_Index_string_string.calls k _ _ l0 a1 t597 _ ?side1 ?side2 A3.out).mono ?_);(case side1=>repeat (first|exact HR0.out|(with_reducible refine Kd.C_alloc ?_ _)|(with_reducible refine Kd.C_drewN ?_ _)|(with_reducible refine Kd.C_drew ?_)));(case side2=>exact HC0.out);rintro e w' ⟨rfl,⟨nd,rfl⟩⟩;refine ⟨_,rfl,?_⟩))
 go_ret
 exact ⟨by first|rfl|(simp;done)|(simp [*];done),by repeat (first|exact Drawn0.refl _|apply Drawn0.step)⟩
def impl_keywords.f  : Option (List ByteArray):=some (([(⟨#[66,69,71,73,78]⟩ : ByteArray),(⟨#[69,78,68]⟩ : ByteArray),(⟨#[102,117,110,99,116,105,111,110]⟩ : ByteArray),(⟨#[105,102]⟩ : ByteArray),(⟨#[101,108,115,101]⟩ : ByteArray),(⟨#[119,104,105,108,101]⟩ : ByteArray),(⟨#[102,111,114]⟩ : ByteArray),(⟨#[105,110]⟩ : ByteArray),(⟨#[98,114,101,97,107]⟩ : ByteArray),(⟨#[99,111,110,116,105,110,117,101]⟩ : ByteArray),(⟨#[110,101,120,116]⟩ : ByteArray),(⟨#[101,120,105,116]⟩ : ByteArray),(⟨#[114,101,116,117,114,110]⟩ : ByteArray),(⟨#[100,101,108,101,116,101]⟩ : ByteArray),(⟨#[112,114,105,110,116]⟩ : ByteArray),(⟨#[112,114,105,110,116,102]⟩ : ByteArray),(⟨#[108,101,110,103,116,104]⟩ : ByteArray),(⟨#[115,117,98,115,116,114]⟩ : ByteArray),(⟨#[105,110,100,101,120]⟩ : ByteArray),(⟨#[115,112,108,105,116]⟩ : ByteArray),(⟨#[116,111,117,112,112,101,114]⟩ : ByteArray),(⟨#[105,110,116]⟩ : ByteArray)] : List ByteArray))
set_option maxHeartbeats 8000000 in
set_option maxRecDepth 100000 in
theorem impl_keywords.calls  (r : List ByteArray) (w : World) (h : impl_keywords.f  = some r) :
  Calls Tryd.prog 108 #[] w fun e w'=>∃ v0_ : Value,e = .returned (v0_) ∧ Kd.R Kd.string 9 w' w.heap.size (fun _=>True) v0_ r ∧ Below w.heap.size w w':=by
 have HB:=Aside0.mk (Below.refl w.heap.size w)
 have H : (some (([(⟨#[66,69,71,73,78]⟩ : ByteArray),(⟨#[69,78,68]⟩ : ByteArray),(⟨#[102,117,110,99,116,105,111,110]⟩ : ByteArray),(⟨#[105,102]⟩ : ByteArray),(⟨#[101,108,115,101]⟩ : ByteArray),(⟨#[119,104,105,108,101]⟩ : ByteArray),(⟨#[102,111,114]⟩ : ByteArray),(⟨#[105,110]⟩ : ByteArray),(⟨#[98,114,101,97,107]⟩ : ByteArray),(⟨#[99,111,110,116,105,110,117,101]⟩ : ByteArray),(⟨#[110,101,120,116]⟩ : ByteArray),(⟨#[101,120,105,116]⟩ : ByteArray),(⟨#[114,101,116,117,114,110]⟩ : ByteArray),(⟨#[100,101,108,101,116,101]⟩ : ByteArray),(⟨#[112,114,105,110,116]⟩ : ByteArray),(⟨#[112,114,105,110,116,102]⟩ : ByteArray),(⟨#[108,101,110,103,116,104]⟩ : ByteArray),(⟨#[115,117,98,115,116,114]⟩ : ByteArray),(⟨#[105,110,100,101,120]⟩ : ByteArray),(⟨#[115,112,108,105,116]⟩ : ByteArray),(⟨#[116,111,117,112,112,101,114]⟩ : ByteArray),(⟨#[105,110,116]⟩ : ByteArray)] : List ByteArray))) = some r:=h
 clear h
 obtain ⟨y598,hy598⟩ : ∃ y_ : List ByteArray,y_ = (([(⟨#[66,69,71,73,78]⟩ : ByteArray),(⟨#[69,78,68]⟩ : ByteArray),(⟨#[102,117,110,99,116,105,111,110]⟩ : ByteArray),(⟨#[105,102]⟩ : ByteArray),(⟨#[101,108,115,101]⟩ : ByteArray),(⟨#[119,104,105,108,101]⟩ : ByteArray),(⟨#[102,111,114]⟩ : ByteArray),(⟨#[105,110]⟩ : ByteArray),(⟨#[98,114,101,97,107]⟩ : ByteArray),(⟨#[99,111,110,116,105,110,117,101]⟩ : ByteArray),(⟨#[110,101,120,116]⟩ : ByteArray),(⟨#[101,120,105,116]⟩ : ByteArray),(⟨#[114,101,116,117,114,110]⟩ : ByteArray),(⟨#[100,101,108,101,116,101]⟩ : ByteArray),(⟨#[112,114,105,110,116]⟩ : ByteArray),(⟨#[112,114,105,110,116,102]⟩ : ByteArray),(⟨#[108,101,110,103,116,104]⟩ : ByteArray),(⟨#[115,117,98,115,116,114]⟩ : ByteArray),(⟨#[105,110,100,101,120]⟩ : ByteArray),(⟨#[115,112,108,105,116]⟩ : ByteArray),(⟨#[116,111,117,112,112,101,114]⟩ : ByteArray),(⟨#[105,110,116]⟩ : ByteArray)] : List ByteArray)):=⟨_,rfl⟩
 replace H : (some y598) = some r:=by first|(rw [hy598];with_reducible exact H)|(have H2_:=(Option.bind_some _ _).symm.trans H;rw [hy598];with_reducible exact H2_)|(have H2_:=(Option.bind_some _ _).symm.trans H;with_reducible exact H2_)|with_reducible exact H|(rw [hy598];exact H)|exact H
 have Ny598:=Aside0.mk hy598
 clear hy598
 obtain rfl:=Option.some.inj H
 go_enter Tryd.func108,Tryd.ntmps108
 go_wp2_with (first|((with_reducible refine gate_dst (N:=1) rfl ?_);refine Kd.R_lit Kd.string _ 9 ?hg (N:=1) ?hd (xs:=([(⟨#[66,69,71,73,78]⟩ : ByteArray),(⟨#[69,78,68]⟩ : ByteArray),(⟨#[102,117,110,99,116,105,111,110]⟩ : ByteArray),(⟨#[105,102]⟩ : ByteArray),(⟨#[101,108,115,101]⟩ : ByteArray),(⟨#[119,104,105,108,101]⟩ : ByteArray),(⟨#[102,111,114]⟩ : ByteArray),(⟨#[105,110]⟩ : ByteArray),(⟨#[98,114,101,97,107]⟩ : ByteArray),(⟨#[99,111,110,116,105,110,117,101]⟩ : ByteArray),(⟨#[110,101,120,116]⟩ : ByteArray),(⟨#[101,120,105,116]⟩ : ByteArray),(⟨#[114,101,116,117,114,110]⟩ : ByteArray),(⟨#[100,101,108,101,116,101]⟩ : ByteArray),(⟨#[112,114,105,110,116]⟩ : ByteArray),(⟨#[112,114,105,110,116,102]⟩ : ByteArray),(⟨#[108,101,110,103,116,104]⟩ : ByteArray),(⟨#[115,117,98,115,116,114]⟩ : ByteArray),(⟨#[105,110,100,101,120]⟩ : ByteArray),(⟨#[115,112,108,105,116]⟩ : ByteArray),(⟨#[116,111,117,112,112,101,114]⟩ : ByteArray),(⟨#[105,110,116]⟩ : ByteArray)] : List ByteArray)) (inner:=[.string (⟨#[66,69,71,73,78]⟩ : ByteArray),.string (⟨#[69,78,68]⟩ : ByteArray),.string (⟨#[102,117,110,99,116,105,111,110]⟩ : ByteArray),.string (⟨#[105,102]⟩ : ByteArray),.string (⟨#[101,108,115,101]⟩ : ByteArray),.string (⟨#[119,104,105,108,101]⟩ : ByteArray),.string (⟨#[102,111,114]⟩ : ByteArray),.string (⟨#[105,110]⟩ : ByteArray),.string (⟨#[98,114,101,97,107]⟩ : ByteArray),.string (⟨#[99,111,110,116,105,110,117,101]⟩ : ByteArray),.string (⟨#[110,101,120,116]⟩ : ByteArray),.string (⟨#[101,120,105,116]⟩ : ByteArray),.string (⟨#[114,101,116,117,114,110]⟩ : ByteArray),.string (⟨#[100,101,108,101,116,101]⟩ : ByteArray),.string (⟨#[112,114,105,110,116]⟩ : ByteArray),.string (⟨#[112,114,105,110,116,102]⟩ : ByteArray),.string (⟨#[108,101,110,103,116,104]⟩ : ByteArray),.string (⟨#[115,117,98,115,116,114]⟩ : ByteArray),.string (⟨#[105,110,100,101,120]⟩ : ByteArray),.string (⟨#[115,112,108,105,116]⟩ : ByteArray),.string (⟨#[116,111,117,112,112,101,114]⟩ : ByteArray),.string (⟨#[105,110,116]⟩ : ByteArray)]) (ok:=fun _=>True) (okp:=fun _=>True) ?hr ?hp (fun _ hk=>hk) trivial (Below.refl _ _) (Nat.le_refl _) (by simp) ?_;(case hd=>rfl);(case hg=>rfl);(case hr=>first|(go_simp;done)|(go_simp;rfl));(case hp=>exact (Reps.one (show Kd.M Kd.string _ _ _ (⟨#[66,69,71,73,78]⟩ : ByteArray) [.string (⟨#[66,69,71,73,78]⟩ : ByteArray)] from rfl) (Reps.one (show Kd.M Kd.string _ _ _ (⟨#[69,78,68]⟩ : ByteArray) [.string (⟨#[69,78,68]⟩ : ByteArray)] from rfl) (Reps.one (show Kd.M Kd.string _ _ _ (⟨#[102,117,110,99,116,105,111,110]⟩ : ByteArray) [.string (⟨#[102,117,110,99,116,105,111,110]⟩ : ByteArray)] from rfl) (Reps.one (show Kd.M Kd.string _ _ _ (⟨#[105,102]⟩ : ByteArray) [.string (⟨#[105,102]⟩ : ByteArray)] from rfl) (Reps.one (show Kd.M Kd.string _ _ _ (⟨#[101,108,115,101]⟩ : ByteArray) [.string (⟨#[101,108,115,101]⟩ : ByteArray)] from rfl) (Reps.one (show Kd.M Kd.string _ _ _ (⟨#[119,104,105,108,101]⟩ : ByteArray) [.string (⟨#[119,104,105,108,101]⟩ : ByteArray)] from rfl) (Reps.one (show Kd.M Kd.string _ _ _ (⟨#[102,111,114]⟩ : ByteArray) [.string (⟨#[102,111,114]⟩ : ByteArray)] from rfl) (Reps.one (show Kd.M Kd.string _ _ _ (⟨#[105,110]⟩ : ByteArray) [.string (⟨#[105,110]⟩ : ByteArray)] from rfl) (Reps.one (show Kd.M Kd.string _ _ _ (⟨#[98,114,101,97,107]⟩ : ByteArray) [.string (⟨#[98,114,101,97,107]⟩ : ByteArray)] from rfl) (Reps.one (show Kd.M Kd.string _ _ _ (⟨#[99,111,110,116,105,110,117,101]⟩ : ByteArray) [.string (⟨#[99,111,110,116,105,110,117,101]⟩ : ByteArray)] from rfl) (Reps.one (show Kd.M Kd.string _ _ _ (⟨#[110,101,120,116]⟩ : ByteArray) [.string (⟨#[110,101,120,116]⟩ : ByteArray)] from rfl) (Reps.one (show Kd.M Kd.string _ _ _ (⟨#[101,120,105,116]⟩ : ByteArray) [.string (⟨#[101,120,105,116]⟩ : ByteArray)] from rfl) (Reps.one (show Kd.M Kd.string _ _ _ (⟨#[114,101,116,117,114,110]⟩ : ByteArray) [.string (⟨#[114,101,116,117,114,110]⟩ : ByteArray)] from rfl) (Reps.one (show Kd.M Kd.string _ _ _ (⟨#[100,101,108,101,116,101]⟩ : ByteArray) [.string (⟨#[100,101,108,101,116,101]⟩ : ByteArray)] from rfl) (Reps.one (show Kd.M Kd.string _ _ _ (⟨#[112,114,105,110,116]⟩ : ByteArray) [.string (⟨#[112,114,105,110,116]⟩ : ByteArray)] from rfl) (Reps.one (show Kd.M Kd.string _ _ _ (⟨#[112,114,105,110,116,102]⟩ : ByteArray) [.string (⟨#[112,114,105,110,116,102]⟩ : ByteArray)] from rfl) (Reps.one (show Kd.M Kd.string _ _ _ (⟨#[108,101,110,103,116,104]⟩ : ByteArray) [.string (⟨#[108,101,110,103,116,104]⟩ : ByteArray)] from rfl) (Reps.one (show Kd.M Kd.string _ _ _ (⟨#[115,117,98,115,116,114]⟩ : ByteArray) [.string (⟨#[115,117,98,115,116,114]⟩ : ByteArray)] from rfl) (Reps.one (show Kd.M Kd.string _ _ _ (⟨#[105,110,100,101,120]⟩ : ByteArray) [.string (⟨#[105,110,100,101,120]⟩ : ByteArray)] from rfl) (Reps.one (show Kd.M Kd.string _ _ _ (⟨#[115,112,108,105,116]⟩ : ByteArray) [.string (⟨#[115,112,108,105,116]⟩ : ByteArray)] from rfl) (Reps.one (show Kd.M Kd.string _ _ _ (⟨#[116,111,117,112,112,101,114]⟩ : ByteArray) [.string (⟨#[116,111,117,112,112,101,114]⟩ : ByteArray)] from rfl) (Reps.one (show Kd.M Kd.string _ _ _ (⟨#[105,110,116]⟩ : ByteArray) [.string (⟨#[105,110,116]⟩ : ByteArray)] from rfl) (Reps.none _ _))))))))))))))))))))))));intro v599 w1 ho2 hb hg_ hnew_;clear hg_ hnew_;(first|rw [← Ny598.out] at ho2|(simp only [Int.reduceToNat] at ho2;rw [← Ny598.out] at ho2));have n0_:=Aside0.mk (Kd.R_lower ho2 (below_size (by repeat (first|(with_reducible first|exact HB.out|apply below_alloc|apply pw_below_drewN|apply below_drew1)|exact HB.out))));have n1_:=Aside0.mk (below_step (by repeat (first|(with_reducible first|exact HB.out|apply below_alloc|apply pw_below_drewN|apply below_drew1)|exact HB.out)) hb);clear HB;have HO600:=n0_;have HB:=n1_;clear n0_ n1_;clear hb ho2))
 go_ret
 exact ⟨_,by first|rfl|(simp [errW_none,errW_some] <;> rfl)|(simp [*,errW_none,errW_some] <;> rfl),by (with_reducible repeat (first|apply Kd.R_alloc|apply Kd.R_drewN|apply Kd.R_drew));exact HO600.out,by repeat (first|(with_reducible first|exact HB.out|apply below_alloc|apply pw_below_drewN|apply below_drew1)|exact HB.out)⟩
def impl_IsWord.f (k : Nat) (a0 : ByteArray) : Option (Bool):=(impl_keywords.f).bind fun t601=>((slices_Contains_string_string.f k t601 a0).bind fun t604=>(some t604))
theorem impl_IsWord.mono : ∀ a0 k,LeO (impl_IsWord.f k a0) (impl_IsWord.f (k + 1) a0):=by
 intro a0 k
 unfold impl_IsWord.f
 repeat' first
   | (with_reducible exact slices_Contains_string_string.mono _ _ _)
   | (with_reducible exact LeO.refl _)
   | (with_reducible exact LeO.none _)
   | (with_reducible refine LeO.ite ?_ ?_)
   | (with_reducible refine LeO.bind ?_ (fun _=>?_))
   | exact slices_Contains_string_string.mono _ _ _
   | exact LeO.none _
   | refine LeO.ite ?_ ?_
   | refine LeO.bind ?_ (fun _=>?_)
set_option maxHeartbeats 8000000 in
set_option maxRecDepth 100000 in
theorem impl_IsWord.calls (k : Nat) (a0 : ByteArray) (r : Bool) (w : World) (h : impl_IsWord.f k a0 = some r) :
  Calls Tryd.prog 69 #[.string a0] w fun e w'=>e = .returned (.bool r) ∧ Below w.heap.size w w':=by
 have HB:=Aside0.mk (Below.refl w.heap.size w)
 have H : ((impl_keywords.f).bind fun t601=>((slices_Contains_string_string.f k t601 a0).bind fun t604=>(some t604))) = some r:=h
 clear h
 replace H:=Option.bind_eq_some_iff.mp H
 obtain ⟨t601,A20,H⟩:=H
 replace H : ((slices_Contains_string_string.f k t601 a0).bind fun t604=>(some t604)) = some r:=H
 have A2:=Aside0.mk A20
 clear A20
 replace H:=Option.bind_eq_some_iff.mp H
 obtain ⟨t604,A30,H⟩:=H
 replace H : (some t604) = some r:=H
 have A3:=Aside0.mk A30
 clear A30
 obtain rfl:=Option.some.inj H
 go_enter Tryd.func69,Tryd.ntmps69
 go_wp2_with (first|((with_reducible refine gate_callee (f:=108) rfl ?_);refine goesL_ (some 3) rfl rfl Tryd.func108 (by kernel_rfl) rfl #[] rfl (by (try simp only [List.map_toArray,List.map_cons,List.map_nil]);first|done|rfl|(simp only [List.length_drop,List.length_take];rfl)) ?_;(with_reducible refine (impl_keywords.calls  t601 _ A2.out).mono ?_);rintro e w4 ⟨v602,rfl,ho0,hb⟩;refine ⟨_,rfl,?_⟩;have n0_:=Aside0.mk (Kd.R_lower ho0 (below_size (by repeat (first|(with_reducible first|exact HB.out|apply below_alloc|apply pw_below_drewN|apply below_drew1)|exact HB.out))));have n1_:=Aside0.mk (below_step (by repeat (first|(with_reducible first|exact HB.out|apply below_alloc|apply pw_below_drewN|apply below_drew1)|exact HB.out)) hb);clear HB;have HO603:=n0_;have HB:=n1_;clear n0_ n1_;(try clear hb);(try clear hb2);(try clear hk);(try clear hi);(try clear ho0);obtain ⟨Ao5,co5,eo5⟩:=Kd.R_slice HO603.out;subst eo5)|((with_reducible refine gate_callee (f:=107) rfl ?_);refine goesL_ (some 5) rfl rfl Tryd.func107 (by kernel_rfl) rfl #[.slice Ao5 t601.length co5,.string a0] rfl (by (try simp only [List.map_toArray,List.map_cons,List.map_nil]);first|done|rfl|(simp only [List.length_drop,List.length_take];rfl)) ?_;(with_reducible refine (slices_Contains_string_string.calls k _ _ t601 a0 t604 _ ?side1 ?side2 A3.out).mono ?_);(case side1=>repeat (first|exact (Kd.R_reads' HO603.out).2.2|(with_reducible refine Kd.C_alloc ?_ _)|(with_reducible refine Kd.C_drewN ?_ _)|(with_reducible refine Kd.C_drew ?_)));(case side2=>exact (Kd.R_reads' HO603.out).2.1);rintro e w' ⟨rfl,⟨nd,rfl⟩⟩;refine ⟨_,rfl,?_⟩))
 go_ret
 exact ⟨by first|rfl|(simp [errW_none,errW_some] <;> rfl)|(simp [*,errW_none,errW_some] <;> rfl),by repeat (first|(with_reducible first|exact HB.out|apply below_alloc|apply pw_below_drewN|apply below_drew1)|exact HB.out)⟩
def impl_isDigit.f (a0 : Int) : Option (Bool):=if a0 ≥ 48 then (some (decide (a0 ≤ 57))) else (some false)
set_option maxHeartbeats 8000000 in
set_option maxRecDepth 100000 in
theorem impl_isDigit.calls (a0 : Int) (r : Bool) (w : World) (h : impl_isDigit.f a0 = some r) :
  Calls Tryd.prog 100 #[.int .u8 a0] w fun e w'=>e = .returned (.bool r) ∧ Drawn0 w w':=by
 have H : (if a0 ≥ 48 then (some (decide (a0 ≤ 57))) else (some false)) = some r:=h
 clear h
 by_cases c2 : a0 ≥ 48
 ·rw [if_pos c2] at H
  have c2b0 : decide (48 ≤ a0) = true:=decide_eq_true c2
  clear c2
  obtain rfl:=Option.some.inj H
  go_enter Tryd.func100,Tryd.ntmps100
  go_wp2
  go_ret
  exact ⟨by first|rfl|(simp;done)|(simp [*];done),by repeat (first|exact Drawn0.refl _|apply Drawn0.step)⟩
 ·rw [if_neg c2] at H
  have c2b0 : decide (48 ≤ a0) = false:=decide_eq_false c2
  clear c2
  obtain rfl:=Option.some.inj H
  go_enter Tryd.func100,Tryd.ntmps100
  go_wp2
  go_ret
  exact ⟨by first|rfl|(simp;done)|(simp [*];done),by repeat (first|exact Drawn0.refl _|apply Drawn0.step)⟩
def impl_isLetter.f (a0 : Int) : Option (Bool):=if a0 ≥ 65 then (if a0 ≤ 90 then (some true) else (if a0 ≥ 97 then (if a0 ≤ 122 then (some true) else (some (a0 == 95))) else (some (a0 == 95)))) else (if a0 ≥ 97 then (if a0 ≤ 122 then (some true) else (some (a0 == 95))) else (some (a0 == 95)))
set_option maxHeartbeats 8000000 in
set_option maxRecDepth 100000 in
theorem impl_isLetter.calls (a0 : Int) (r : Bool) (w : World) (h : impl_isLetter.f a0 = some r) :
  Calls Tryd.prog 109 #[.int .u8 a0] w fun e w'=>e = .returned (.bool r) ∧ Drawn0 w w':=by
 have H : (if a0 ≥ 65 then (if a0 ≤ 90 then (some true) else (if a0 ≥ 97 then (if a0 ≤ 122 then (some true) else (some (a0 == 95))) else (some (a0 == 95)))) else (if a0 ≥ 97 then (if a0 ≤ 122 then (some true) else (some (a0 == 95))) else (some (a0 == 95)))) = some r:=h
 clear h
 by_cases c2 : a0 ≥ 65
 ·rw [if_pos c2] at H
  have c2b0 : decide (65 ≤ a0) = true:=decide_eq_true c2
  clear c2
  by_cases c3 : a0 ≤ 90
  ·rw [if_pos c3] at H
   have c3b0 : decide (a0 ≤ 90) = true:=decide_eq_true c3
   clear c3
   obtain rfl:=Option.some.inj H
   go_enter Tryd.func109,Tryd.ntmps109
   go_wp2
   go_ret
   exact ⟨by first|rfl|(simp;done)|(simp [*];done),by repeat (first|exact Drawn0.refl _|apply Drawn0.step)⟩
  ·rw [if_neg c3] at H
   have c3b0 : decide (a0 ≤ 90) = false:=decide_eq_false c3
   clear c3
   by_cases c4 : a0 ≥ 97
   ·rw [if_pos c4] at H
    have c4b0 : decide (97 ≤ a0) = true:=decide_eq_true c4
    clear c4
    by_cases c5 : a0 ≤ 122
    ·rw [if_pos c5] at H
     have c5b0 : decide (a0 ≤ 122) = true:=decide_eq_true c5
     clear c5
     obtain rfl:=Option.some.inj H
     go_enter Tryd.func109,Tryd.ntmps109
     go_wp2
     go_ret
     exact ⟨by first|rfl|(simp;done)|(simp [*];done),by repeat (first|exact Drawn0.refl _|apply Drawn0.step)⟩
    ·rw [if_neg c5] at H
     have c5b0 : decide (a0 ≤ 122) = false:=decide_eq_false c5
     clear c5
     obtain rfl:=Option.some.inj H
     go_enter Tryd.func109,Tryd.ntmps109
     go_wp2
     go_ret
     exact ⟨by first|rfl|(simp;done)|(simp [*];done),by repeat (first|exact Drawn0.refl _|apply Drawn0.step)⟩
   ·rw [if_neg c4] at H
    have c4b0 : decide (97 ≤ a0) = false:=decide_eq_false c4
    clear c4
    obtain rfl:=Option.some.inj H
    go_enter Tryd.func109,Tryd.ntmps109
    go_wp2
    go_ret
    exact ⟨by first|rfl|(simp;done)|(simp [*];done),by repeat (first|exact Drawn0.refl _|apply Drawn0.step)⟩
 ·rw [if_neg c2] at H
  have c2b0 : decide (65 ≤ a0) = false:=decide_eq_false c2
  clear c2
  by_cases c6 : a0 ≥ 97
  ·rw [if_pos c6] at H
   have c6b0 : decide (97 ≤ a0) = true:=decide_eq_true c6
   clear c6
   by_cases c7 : a0 ≤ 122
   ·rw [if_pos c7] at H
    have c7b0 : decide (a0 ≤ 122) = true:=decide_eq_true c7
    clear c7
    obtain rfl:=Option.some.inj H
    go_enter Tryd.func109,Tryd.ntmps109
    go_wp2
    go_ret
    exact ⟨by first|rfl|(simp;done)|(simp [*];done),by repeat (first|exact Drawn0.refl _|apply Drawn0.step)⟩
   ·rw [if_neg c7] at H
    have c7b0 : decide (a0 ≤ 122) = false:=decide_eq_false c7
    clear c7
    obtain rfl:=Option.some.inj H
    go_enter Tryd.func109,Tryd.ntmps109
    go_wp2
    go_ret
    exact ⟨by first|rfl|(simp;done)|(simp [*];done),by repeat (first|exact Drawn0.refl _|apply Drawn0.step)⟩
  ·rw [if_neg c6] at H
   have c6b0 : decide (97 ≤ a0) = false:=decide_eq_false c6
   clear c6
   obtain rfl:=Option.some.inj H
   go_enter Tryd.func109,Tryd.ntmps109
   go_wp2
   go_ret
   exact ⟨by first|rfl|(simp;done)|(simp [*];done),by repeat (first|exact Drawn0.refl _|apply Drawn0.step)⟩
def impl_lexString.l0 : Nat → ByteArray → List Int → Int → Option (ByteArray × Int)
 | 0,_,_,_=>none
 | k + 1,x0,x4,x5=>if x5 < (x0.size : Int) then (if 0 ≤ x5 then (if (bt x0 x5) = 34 then (some (strOfNums x4,wrap64 (x5 + 1))) else (if (bt x0 x5) = 10 then (some ((⟨#[]⟩ : ByteArray),0)) else (if (bt x0 x5) = 92 then (if (wrap64 (x5 + 1)) ≥ (x0.size : Int) then (some ((⟨#[]⟩ : ByteArray),0)) else (if 0 ≤ (wrap64 (x5 + 1)) then (if (wrap64 (x5 + 1)) < (x0.size : Int) then ((strings_IndexByte.f (⟨#[110,116,34,92]⟩ : ByteArray) (bt x0 (wrap64 (x5 + 1)))).bind fun t610=>(if t610 < 0 then (some ((⟨#[]⟩ : ByteArray),0)) else (if 0 ≤ t610 then (if t610 < 4 then (if x4.length < 140737488355328 then (impl_lexString.l0 k x0 (x4 ++ [bt (⟨#[10,9,34,92]⟩ : ByteArray) t610]) (wrap64 ((wrap64 (x5 + 1)) + 1))) else (none)) else (none)) else (none)))) else (none)) else (none))) else (if x4.length < 140737488355328 then (impl_lexString.l0 k x0 (x4 ++ [bt x0 x5]) (wrap64 (x5 + 1))) else (none))))) else (none)) else (some ((⟨#[]⟩ : ByteArray),0))
def impl_lexString.f (k : Nat) (a0 : ByteArray) : Option (ByteArray × Int):=impl_lexString.l0 k a0 (([] : List Int)) 1
theorem impl_lexString.mono_l : ∀ k,(∀ y0 y1 y2,LeO (impl_lexString.l0 k y0 y1 y2) (impl_lexString.l0 (k + 1) y0 y1 y2))
 | 0=>fun _ _ _ r h=>by simp [impl_lexString.l0] at h
 | k + 1=>by
  have ih0:=impl_lexString.mono_l k
  ·intro y0 y1 y2
   unfold impl_lexString.l0
   repeat' first
   | (with_reducible exact ih0 _ _ _)
   | (with_reducible exact LeO.refl _)
   | (with_reducible exact LeO.none _)
   | (with_reducible refine LeO.ite ?_ ?_)
   | (with_reducible refine LeO.bind ?_ (fun _=>?_))
   | exact ih0 _ _ _
   | exact LeO.none _
   | refine LeO.ite ?_ ?_
   | refine LeO.bind ?_ (fun _=>?_)
theorem impl_lexString.mono : ∀ a0 k,LeO (impl_lexString.f k a0) (impl_lexString.f (k + 1) a0):=by
 intro a0 k
 have ih0:=impl_lexString.mono_l k
 unfold impl_lexString.f
 repeat' first
   | (with_reducible exact ih0 _ _ _)
   | (with_reducible exact LeO.refl _)
   | (with_reducible exact LeO.none _)
   | (with_reducible refine LeO.ite ?_ ?_)
   | (with_reducible refine LeO.bind ?_ (fun _=>?_))
   | exact ih0 _ _ _
   | exact LeO.none _
   | refine LeO.ite ?_ ?_
   | refine LeO.bind ?_ (fun _=>?_)
end Go.Proofs.YtnfiljnncpieoaaDoor.Q
