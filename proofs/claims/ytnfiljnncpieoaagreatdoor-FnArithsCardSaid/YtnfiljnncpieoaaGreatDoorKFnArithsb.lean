/- What the row of FnAriths rests on, and the row: for every input that can be read the call returns true and the input reads as it did; condition: what the row lists of the library reads as the program lays it. -/
import Derived.Test.YtnfiljnncpieoaaGreatDoorKFnArithsa
import Derived.Test.YtnfiljnncpieoaaGreatDoorChecked
import GoSem.PinnedTables
import GoSem.Claim
import GoSem.ClaimJoined
import GoSem.ClaimMapViews
import Derived.JoinedTies
import GoSem.ClaimSeven
import Derived.LaidByTextLater
import Derived.SevenTiedAt
import Derived.LaidSub
import Derived.LaidOnce
import Derived.Test.YtnfiljnncpieoaaGreatDoorProg
import Derived.Shelf.Strconv.Itoa3
import Derived.Lib.LaidTab
import Derived.Lib.LaidU8
import Derived.HandedShaped
import Derived.Shelf.Vars
import Derived.Lay
import Derived.Deep.Cut
import Derived.Shelf.Abstract
import Derived.Shelf.Strings.Builder1
import Derived.Shelf.Strings.Builder2
import Derived.Shelf.Strings.Trim
import Derived.Shelf.Small.Utf8
import Derived.Shelf.Small.Bits
import Derived.Shelf.Small.Strs
import Derived.Shelf.Small.Wraps
import Derived.Shelf.Strings.BuilderF
import Derived.Shelf.Strings.BuilderK
import Derived.Shelf.Strings.Builder2Cap
import Derived.Shelf.Strconv.Atoi
import Derived.Shelf.Strconv.Itoa0
import Derived.Shelf.Strconv.Itoa1
import Derived.Shelf.LaysM
import Derived.Shelf.Strconv.Itoa2
import Derived.Shelf.Strconv.AtoiErrFast
import Derived.Shelf.Strconv.ParseIntEmpty
import Derived.Shelf.Strconv.AtoiFail
import Derived.Shelf.Strconv.Clone
import Derived.Shelf.Strconv.SyntaxError
import Derived.Shelf.Strconv.Lower
import Derived.Shelf.Strconv.ParseUint10
import Derived.Shelf.Strconv.ParseUint10Empty
import Derived.Shelf.Strconv.RangeError
import Derived.Shelf.Strconv.ParseUintEmpty
import Derived.Shelf.Strconv.ParseUint10b64
import Derived.Shelf.Strconv.ParseUint10b32
import Derived.Shelf.Strconv.ParseUint10b16
import Derived.Shelf.Strconv.ParseUint10b8
import Derived.Shelf.Strings.Search1
import Derived.Shelf.Strings.Search2
import Derived.Shelf.Strings.Search3
import Derived.Shelf.Strings.Shaped
import Derived.Shelf.Strings.Prefix
import Derived.Shelf.Unicode.Decode
import Derived.Shelf.Strings.Runes
import Derived.Shelf.Strings.AsciiSet
import Derived.Shelf.Bits.Mul64
import Derived.Shelf.Strings.Repeat
import Derived.Shelf.Unicode.DecodeSlow
import Derived.Shelf.Unicode.DecodeAny
import Derived.Shelf.Unicode.DecodeLast
import Derived.Ground.Names2Prog
import Derived.Shelf.Slices.SearchI
import Derived.Laws.Cover1
import Derived.Deep.Slices
import Derived.Deep.Fields
import Derived.ChangeSame
import Derived.Carry
import Derived.Laws.Bits64b
import Derived.ProofKit
import Derived.OpenShut
import Derived.ShutString
import Derived.ChangeOld
import Derived.Test.YtnfiljnncpieoaaGreatDoorRows
set_option linter.unusedVariables false
set_option linter.unusedSimpArgs false
namespace Go.Proofs.YtnfiljnncpieoaaGreatDoor.Q
open Go Go.RowKit Go.Proofs.YtnfiljnncpieoaaGreatDoorW.PrintWords
structure Tabs (w : World) : Prop where
  pow10 : Lib.TabIs Tryz.prog w "internal/strconv.uint64pow10" .u64 Lib.pow10Tab
  maxlen : ∃ m, w.cell? ⟨2, 0, none⟩ = some (.int .i64 m)
theorem tabIs_heap {P : Program} {w w1 : World} {name : String} {k : IntKind} {zs : List Int} (h : Lib.TabIs P w name k zs) (hb : ∀ i, i < w.heap.size → w1.heap[i]? = w.heap[i]?) : Lib.TabIs P w1 name k zs := by
  unfold Lib.TabIs at h ⊢
  unfold World.var? at h ⊢
  cases hg : P.globalNamed name with
  | none => rw [hg] at h; simp at h
  | some g =>
    rw [hg] at h
    simp only [Option.bind_some] at h ⊢
    by_cases hlt : g < w.heap.size
    · rw [hb g hlt]; exact h
    · rw [Array.getElem?_eq_none (by omega)] at h
      simp at h
theorem Tabs.below {w w1 : World} (h : Tabs w) (hb : Below w.heap.size w w1) : Tabs w1 := ⟨tabIs_heap h.pow10 fun i hi => hb.block i hi, h.maxlen.imp fun _ hm => (hb.cell (World.block_lt_of_cell? w _ hm)).trans hm⟩
theorem Tabs.drewN {w : World} (h : Tabs w) (n : Nat) : Tabs (w.drewN n) := ⟨tabIs_heap h.pow10 fun _ _ => rfl, h.maxlen⟩
end Go.Proofs.YtnfiljnncpieoaaGreatDoor.Q
namespace Go.Proofs.YtnfiljnncpieoaaGreatDoor.Q
open Go Go.RowKit Go.Lib
theorem tabIs_of_reads {P : Program} {W : World} {name : String} {k : IntKind} {zs : List Int} {g : Nat} {t e : TypeId} {n : Nat}
    (hg : P.globalNamed name = some g) (hty : (P.globals[g]?).map (·.type) = some t) (ht : P.underlying t = some (.array n e)) (he : P.underlying e = some (.int k)) (hce : P.cellsOf e = 1) (hct : P.cellsOf t = n)
    (h : VarReads P W name (Lib.tabData k zs)) : Lib.TabIs P W name k zs := by
  obtain ⟨g', t', cs, fuel, p, hg', ht', hvar, hd⟩ := h
  obtain rfl := Option.some.inj (hg.symm.trans hg')
  obtain rfl := Option.some.inj (hty.symm.trans ht')
  unfold Lib.TabIs
  rw [hvar, ← Lib.cells_of_tab ht he hce hct hd]
theorem tabs_of_laid {W : World} {l : List (String × DataW Unit)} (h : laidMet Tryz.prog l W) (hm : ("internal/strconv.uint64pow10", Rows.laid_internal_strconv_uint64pow10) ∈ l) (hS : W.ShapedOpen Tryz.prog) : Tabs W where
  pow10 := tabIs_of_reads (g := 5) (t := 155) (e := 87) (by kernel_rfl) (by kernel_rfl) Tryz.underlying155 Tryz.underlying87 (by kernel_rfl) (by kernel_rfl)
    ((show Rows.laid_internal_strconv_uint64pow10 = Lib.tabData .u64 Lib.pow10Tab by kernel_rfl) ▸ laidMet.reads h hm)
  maxlen := cell_of_shapedOpen_int (t := 3) (zero := #[.int .i64 0]) (k := .i64) hS (of_decide_eq_true (by kernel_rfl)) (by kernel_rfl) rfl (by kernel_rfl) (by kernel_rfl) Tryz.underlying3
end Go.Proofs.YtnfiljnncpieoaaGreatDoor.Q
namespace Go
variable {H : Type} {enc : TypeId × Value → H}
theorem returnsInHanded_of_change_and_shaped_ytnfiljnncpieoaagreatdoor {a : Assume} {C : Checked} {os : Os} {f : FuncId} {fn : Func} {s : ChangeSpec} {conds : List PathCond} {apart fresh handsOn again : Bool} {X : World → Array Value → Prop}
    (hX : ∀ (w w' : World) (args : Array Value), w.heap = w'.heap → X w args → X w' args)
    (own : ownKnob C.prog.godebug = none) (started : os.Started) (noInit : C.prog.inits.idxOf? f = none) (hfn : C.prog.funcs[f]? = some fn)
    (witness : ∃ (w : World) (tape : Tape) (i : Input), w.os = os ∧ (w.forCall tape i).Shaped C.prog ∧ i.vars = [] ∧ Input.okWide C.prog (w.forCall tape i) .any w.heap.size f i ∧
      ((s.pre enc C.prog fn conds apart (w.forCall tape i).memory i.args ∧ X (w.forCall tape i).memory i.args) ∧ sizedMet enc C.prog fn (OpenSpec.ofChange s) apart (w.forCall tape i).memory i.args) ∧ a.holds C.prog (lone (Frame.enter C.prog f i.args .normal) [] (w.forCall tape i)))
    (contract : ∀ (W : World) (base : Nat) (args : Array Value) (ds gs : List (DataW H)) (before : List MemPlace),
      (∀ (j : Nat) t v, fn.params[j]? = some t → args[j]? = some v → Value.okWide C.prog W .any base t v) →
      DataW.Whole enc C.prog fn.params.toList s.vars apart W args.toList ds gs before →
      conds.all (PathCond.test C.prog ⟨fn.params.toList, ds, s.plain.varTypes C.prog, gs⟩) = true →
      (DataW.weightsEach C.prog (fn.params.toList ++ s.plain.varTypes C.prog) (ds ++ gs)).all (· ≤ reachBytes) = true → X W args →
      W.ShapedOpen C.prog →
      a.holds C.prog (lone (Frame.enter C.prog f args .normal) [] W) →
      Calls C.prog f args W fun e W' => ∃ v, e = .returned v ∧ s.post enc C.prog fn apart fresh handsOn again W args v W') :
    ReturnsInHanded a C os f .any (fun w args => (s.pre enc C.prog fn conds apart w args ∧ X w args) ∧ sizedMet enc C.prog fn (OpenSpec.ofChange s) apart w args) (s.post enc C.prog fn apart fresh handsOn again) := by
  refine returnsInHanded_of_calls own started noInit witness ?_
  intro w tape i _ hsh _ hok hpre hholds
  obtain ⟨_, _, _, fn', hfn', _, _, _, _, hval⟩ := hok
  have e : fn' = fn := Option.some.inj (hfn'.symm.trans hfn)
  subst e
  obtain ⟨⟨⟨ds, gs, before, hw, hc⟩, hx⟩, hz⟩ := hpre
  have hw' := DataW.Whole.of_heap (w' := w.forCall tape i) (by rfl) hw
  refine (contract (w.forCall tape i) w.heap.size i.args ds gs before hval hw' hc (hz.weights hw) (hX _ _ _ (by rfl) hx) hsh hholds).mono fun e W' ⟨v, he, hp⟩ => ?_
  subst he
  exact ChangeSpec.post_blind hp
end Go
namespace Go.Proofs.YtnfiljnncpieoaaGreatDoor.Q
open Go.RowKit Go.Proofs.YtnfiljnncpieoaaGreatDoorW.PrintWords Go.Proofs.YtnfiljnncpieoaaGreatDoorW.PrintLast Go.Proofs.YtnfiljnncpieoaaGreatDoorW.PrintMore
attribute [local go_sem] max2_int min2_int max_two min_two max_three min_three max_four min_four   -- for this text's walks alone
set_option linter.unusedVariables false
set_option linter.unusedSimpArgs false
def errW : Option Int → Value
 | none=>.nilIface
 | some c=>.iface 0 (.int .i64 c)
theorem errW_none : errW none = .nilIface:=rfl
theorem errW_some (c : Int) : errW (some c) = .iface 0 (.int .i64 c):=rfl
theorem info5 : (Tryz.prog.info? 5).map (fun i=>(i.zero,i.size,i.bytes)) = some (some (.int .u8 0),1,1):=by kernel_rfl
end Go.Proofs.YtnfiljnncpieoaaGreatDoor.Q
namespace Go.Proofs.YtnfiljnncpieoaaGreatDoor.Q
open Go.RowKit Go.Proofs.YtnfiljnncpieoaaGreatDoorW.PrintWords Go.Proofs.YtnfiljnncpieoaaGreatDoorW.PrintLast Go.Proofs.YtnfiljnncpieoaaGreatDoorW.PrintMore
theorem str_lh {P : Program} {t : TypeId} (ht : P.underlying t = some .string) (s : ByteArray) (l h : Int) (h0 : 0 ≤ l) (h1 : l ≤ h) (h2 : h ≤ s.size) (W : World) :
    (Instr.slice t (.string s) (some (.int .i64 l)) (some (.int .i64 h)) none).run P W = .ok (.string (s.extract l.toNat h.toNat)) W := by
  have e1 : (h.toNat : Int) = h := Int.toNat_of_nonneg (by omega)
  have hu := run_underlying (P := P) ht
  simp [Instr.slice, Instr.sliceBounds, run_sliceBound, *, (by omega : 0 ≤ h)]
theorem ret2_int {a b c d : Int} (h : a = b) (h2 : c = d) : Ending.returned (.tuple #[.int .i64 a, .int .i64 c]) = Ending.returned (.tuple #[.int .i64 b, .int .i64 d]) := by rw [h, h2]
def runN (p : Int → Bool) (s : ByteArray) (i : Nat) : Nat := if i < s.size then (if p (bt s i) then runN p s (i + 1) + 1 else 0) else 0
termination_by s.size - i
theorem runN_le (p : Int → Bool) (s : ByteArray) (i : Nat) : i ≤ s.size → i + runN p s i ≤ s.size := by
  fun_induction runN p s i with
  | case1 i h1 h2 ih => intro h; have := ih (by omega); omega
  | case2 i h1 h2 => intro h; omega
  | case3 i h1 => intro h; omega
theorem runN_hit {p : Int → Bool} {s : ByteArray} {i : Nat} (h : i < s.size) (hp : p (bt s i) = true) : runN p s i = runN p s (i + 1) + 1 := by
  rw [runN, if_pos h, if_pos hp]
theorem runN_miss {p : Int → Bool} {s : ByteArray} {i : Nat} (h : i < s.size) (hp : p (bt s i) = false) : runN p s i = 0 := by
  rw [runN, if_pos h, if_neg (by rw [hp]; simp)]
theorem runN_end {p : Int → Bool} {s : ByteArray} {i : Nat} (h : ¬ i < s.size) : runN p s i = 0 := by
  rw [runN, if_neg h]
theorem bt_nat {s : ByteArray} {j : Nat} (h : j < s.size) : bt s (j : Int) = (s[j].toNat : Int) := by
  unfold bt
  rw [dif_pos (by simpa using h)]
  simp
def isSp (c : Int) : Bool := c == 32 || (c == 9 || c == 10)
def isDg (c : Int) : Bool := decide (48 ≤ c) && decide (c ≤ 57)
theorem isSpace_any (c : Int) (w : World) : Calls Tryz.prog 78 #[.int .u8 c] w fun e w' => e = .returned (.bool (isSp c)) ∧ w' = w := by
  by_cases h1 : c = 32
  · subst h1; go_enter Tryz.func78, Tryz.ntmps78; go_wp2; go_ret; exact ⟨rfl, rfl⟩
  · by_cases h2 : c = 9
    · subst h2; go_enter Tryz.func78, Tryz.ntmps78; go_wp2; go_ret; exact ⟨rfl, rfl⟩
    · have b1 : (c == 32) = false := beq_eq_false_iff_ne.mpr h1
      have b2 : (c == 9) = false := beq_eq_false_iff_ne.mpr h2
      have HF : Aside0 (isSp c = (c == 10)) := ⟨by simp [isSp, b1, b2]⟩
      clear h1 h2
      go_enter Tryz.func78, Tryz.ntmps78
      go_wp2
      go_ret
      exact ⟨by rw [HF.out] <;> rfl, rfl⟩
theorem isDigit_any (c : Int) (w : World) : Calls Tryz.prog 79 #[.int .u8 c] w fun e w' => e = .returned (.bool (isDg c)) ∧ w' = w := by
  by_cases h1 : 48 ≤ c
  · have b1 : decide (48 ≤ c) = true := decide_eq_true h1
    have HF : Aside0 (isDg c = decide (c ≤ 57)) := ⟨by simp [isDg, h1]⟩
    clear h1
    go_enter Tryz.func79, Tryz.ntmps79
    go_wp2
    go_ret
    exact ⟨by rw [HF.out] <;> rfl, rfl⟩
  · have b1 : decide (48 ≤ c) = false := decide_eq_false h1
    have HF : Aside0 (isDg c = false) := ⟨by simp [isDg, h1]⟩
    clear h1
    go_enter Tryz.func79, Tryz.ntmps79
    go_wp2
    go_ret
    exact ⟨by rw [HF.out] <;> rfl, rfl⟩
set_option maxHeartbeats 1000000 in
theorem run_any (fn : Nat) (p : Int → Bool) (hp : ∀ c w, Calls Tryz.prog fn #[.int .u8 c] w fun e w' => e = .returned (.bool (p c)) ∧ w' = w) (eg : ∀ args w, (callFunc fn args).run Tryz.prog w = .ok (.enter fn args) w)
    (s : ByteArray) (hs : s.size ≤ 9223372036854775807) (i : Nat) (hi : i ≤ s.size) (w : World) :
    Calls Tryz.prog 77 #[.string s, .int .i64 i, .func (.func fn) #[] #[]] w fun e w' => e = .returned (.int .i64 (runN p s i)) ∧ w = w' := by
  have HP := Aside0.mk hp
  clear hp
  go_enter Tryz.func77, Tryz.ntmps77
  go_wp2
  go_loopg [7] (s.size - i) (fun gg v7 wr => ∃ k : Nat, v7 = .int .i64 k ∧ i + k ≤ s.size ∧ s.size - i - k ≤ gg ∧ Aside0 (runN p s i = k + runN p s (i + k)) ∧ wr = w)
  case atStart => exact ⟨0, rfl, by omega, by omega, ⟨by simp⟩, rfl⟩
  case round =>
    obtain ⟨k, rfl, hk, hg, HR, rfl⟩ := hrel
    by_cases hlt : i + k < s.size
    · have hlt0 : (i : Int) + (k : Int) < (s.size : Int) := by omega
      have hcall := HP.out (bt s ((i + k : Nat) : Int)) wr
      have hb : Aside0 (bt s ((i + k : Nat) : Int) = (s[i + k].toNat : Int)) := ⟨bt_nat hlt⟩
      cases hq : p (bt s ((i + k : Nat) : Int)) with
      | true =>
        have HN : Aside0 (runN p s (i + k) = runN p s (i + k + 1) + 1) := ⟨runN_hit hlt hq⟩
        rw [hq, hb.out] at hcall
        clear hq
        go_wp2_with fail
        refine hcall.mono ?_
        rintro e w' ⟨rfl, rfl⟩
        go_wp2_with fail
        go_roundg (s.size - i - (k + 1))
        case measure => omega
        case rel => exact ⟨k + 1, by go_num, by omega, by omega, ⟨by have h1 := HR.out; have h2 := HN.out; rw [← Nat.add_assoc]; omega⟩, rfl⟩
      | false =>
        have HN : Aside0 (runN p s (i + k) = 0) := ⟨runN_miss hlt hq⟩
        rw [hq, hb.out] at hcall
        clear hq
        go_wp2_with fail
        refine hcall.mono ?_
        rintro e w' ⟨rfl, rfl⟩
        go_wp2_with fail
        go_ret
        exact ⟨by rw [HR.out, HN.out] <;> rfl, rfl⟩
    · have hlt0 : ¬ (i : Int) + (k : Int) < (s.size : Int) := by omega
      have HN : Aside0 (runN p s (i + k) = 0) := ⟨runN_end hlt⟩
      go_wp2
      go_ret
      exact ⟨by rw [HR.out, HN.out] <;> rfl, rfl⟩
end Go.Proofs.YtnfiljnncpieoaaGreatDoor.Q
namespace Go.Proofs.YtnfiljnncpieoaaGreatDoor.Q
open Go.Shelf Go.RowKit Go.Proofs.YtnfiljnncpieoaaGreatDoorW.PrintWords Go.Proofs.YtnfiljnncpieoaaGreatDoorW.PrintLast Go.Proofs.YtnfiljnncpieoaaGreatDoorW.PrintMore
def sgnB (s : ByteArray) (i : Nat) : Bool := decide (i < s.size) && (bt s i == 43 || bt s i == 45)
def atD (s : ByteArray) : Nat := if sgnB s (runN isSp s 0) = true then runN isSp s 0 + 1 else runN isSp s 0
def negB (s : ByteArray) : Bool := if sgnB s (runN isSp s 0) = true then bt s (runN isSp s 0) == 45 else false
def dotB (s : ByteArray) (i : Nat) : Bool := decide (i < s.size) && (bt s i == 46)
def wholeN (s : ByteArray) : Nat := runN isDg s (atD s)
def at2 (s : ByteArray) : Nat := atD s + wholeN s
def moreN (s : ByteArray) : Nat := if dotB s (at2 s) = true then runN isDg s (at2 s + 1) else 0
def tkB (s : ByteArray) : Bool := dotB s (at2 s) && decide (0 < wholeN s + moreN s)
def digS (s : ByteArray) : ByteArray := s.extract (atD s) (at2 s)
def partS (s : ByteArray) : ByteArray := if tkB s = true then s.extract (at2 s + 1) (at2 s + 1 + moreN s) else ⟨#[]⟩
def at3 (s : ByteArray) : Nat := if tkB s = true then at2 s + 1 + moreN s else at2 s
def numStep (n : Int) (c : Int) : Int := mn (n * 10 + (c - 48) % 256) 9000000000001
def allS (s : ByteArray) : ByteArray := digS s ++ (partS s ++ ⟨#[48, 48, 48, 48, 48, 48]⟩).extract 0 6
def numOf (s : ByteArray) : Int := mn ((allS s).data.toList.foldl (fun n c => numStep n (c.toNat : Int)) 0) 9000000000000
def readV (s : ByteArray) : Int × Int := if ((digS s).toList.isEmpty && (partS s).toList.isEmpty) = true then (0, 0) else (if negB s = true then - numOf s else numOf s, (at3 s : Int))
def impl_ReadDec.f (s : ByteArray) : Option (Int × Int) := if s.size ≤ 140737488355328 then some (readV s) else none
theorem atD_le (s : ByteArray) : atD s ≤ s.size := by
  have h := runN_le isSp s 0 (by omega)
  unfold atD sgnB
  split
  · rename_i h2
    simp at h2; omega
  · omega
set_option maxHeartbeats 4000000 in
set_option maxRecDepth 100000 in
theorem impl_ReadDec.calls (s : ByteArray) (r1 r2 : Int) (w : World) (h : impl_ReadDec.f s = some (r1, r2)) :
    Calls Tryz.prog 44 #[.string s] w fun e w' => e = .returned (.tuple #[.int .i64 r1, .int .i64 r2]) ∧ Below w.heap.size w w' := by
  unfold impl_ReadDec.f at h
  by_cases hs0 : s.size ≤ 140737488355328
  case neg => rw [if_neg hs0] at h; cases h
  rw [if_pos hs0] at h
  have hs : s.size ≤ 9223372036854775807 := by omega
  have HRES := Aside0.mk (Option.some.inj h)
  unfold readV at HRES
  clear h
  have R1 := Aside0.mk (fun i hi w => run_any 78 isSp isSpace_any (enters_of Tryz.func78 (by kernel_rfl) rfl) s hs i hi w)
  have R2 := Aside0.mk (fun i hi w => run_any 79 isDg isDigit_any (enters_of Tryz.func79 (by kernel_rfl) rfl) s hs i hi w)
  have c0 := R1.out 0 (by omega) w
  have l0 := runN_le isSp s 0 (by omega)
  have la := atD_le s
  simp only [Nat.zero_add] at l0
  have HAt : Aside0 (atD s = if sgnB s (runN isSp s 0) = true then runN isSp s 0 + 1 else runN isSp s 0) := ⟨rfl⟩
  have HNg : Aside0 (negB s = if sgnB s (runN isSp s 0) = true then bt s (runN isSp s 0) == 45 else false) := ⟨rfl⟩
  go_enter Tryz.func44, Tryz.ntmps44
  go_wp2_with fail
  refine c0.mono ?_
  rintro e w' ⟨rfl, rfl⟩
  clear c0
  go_upto_region 3 with fail
  generalize runN isSp s 0 = a0 at *
  generalize hb : sgnB s a0 = sb at *
  have HSB := Aside0.mk hb
  clear hb
  go_cut [30] (fun v30 wc => v30 = .bool sb ∧ w = wc)
  case first =>
    by_cases h1 : a0 < s.size
    · have h1i : (a0 : Int) < (s.size : Int) := by omega
      have hbt := bt_nat h1
      by_cases h2 : bt s (a0 : Int) = 43
      · have e1 : Aside0 (sb = true) := ⟨by rw [← HSB.out]; simp [sgnB, h1, h2]⟩
        have b2 : ((s[a0].toNat : Int) == 43) = true := by rw [← hbt]; exact beq_iff_eq.mpr h2
        clear h2 hbt
        go_wp2_with fail
        go_meet
        exact ⟨by rw [e1.out], rfl⟩
      · have b2 : ((s[a0].toNat : Int) == 43) = false := by rw [← hbt]; exact beq_eq_false_iff_ne.mpr h2
        have e1 : Aside0 (sb = ((s[a0].toNat : Int) == 45)) := ⟨by rw [← HSB.out, ← hbt]; simp [sgnB, h1, h2]⟩
        clear h2 hbt
        go_wp2_with fail
        go_meet
        exact ⟨by rw [e1.out], rfl⟩
    · have h1i : ¬ (a0 : Int) < (s.size : Int) := by omega
      have e1 : Aside0 (sb = false) := ⟨by rw [← HSB.out]; simp [sgnB, h1]⟩
      go_wp2_with fail
      go_meet
      exact ⟨by rw [e1.out], rfl⟩
  case rest =>
    obtain ⟨rfl, rfl⟩ := hcut
    go_upto_if 30 with fail
    go_cut [4, 5] (fun v4 v5 wx => v4 = .int .i64 (atD s) ∧ v5 = .bool (negB s) ∧ w = wx)
    case first =>
      cases sb with
      | true =>
        have hsb := HSB.out
        simp only [sgnB, Bool.and_eq_true, decide_eq_true_eq] at hsb
        have h1 : a0 < s.size := hsb.1
        clear hsb
        have h1i : (a0 : Int) < (s.size : Int) := by omega
        have hbt := Aside0.mk (bt_nat h1)
        go_wp2_with fail
        go_meet
        exact ⟨by have h := HAt.out; simp at h; rw [h]; go_num, by have h := HNg.out; simp at h; rw [h, hbt.out] <;> rfl, rfl⟩
      | false =>
        go_wp2_with fail
        go_meet
        exact ⟨by have h := HAt.out; simp at h; rw [h] <;> rfl, by have h := HNg.out; simp at h; rw [h] <;> rfl, rfl⟩
    case rest =>
      obtain ⟨rfl, rfl, rfl⟩ := hcut
      have l1 := runN_le isDg s (atD s) la
      have c1 := R2.out (atD s) la
      have HW : Aside0 (runN isDg s (atD s) = wholeN s) := ⟨rfl⟩
      rw [HW.out] at l1 c1
      go_wp2_with fail
      refine (c1 _).mono ?_
      rintro e w' ⟨rfl, rfl⟩
      clear c1
      have l2 : at2 s ≤ s.size := l1
      have hsl1 : ∀ W, (Instr.slice 9 (.string s) (some (.int .i64 (atD s))) (some (.int .i64 ((atD s : Int) + (wholeN s : Int)))) none).run Tryz.prog W = .ok (.string (digS s)) W := fun W => by
        rw [str_lh Tryz.underlying9 s _ _ (by omega) (by omega) (by omega)]
        have e1 : ((atD s : Int) + (wholeN s : Int)).toNat = at2 s := by unfold at2; omega
        rw [e1, Int.toNat_natCast]; rfl
      have h12 : Aside0 ((atD s : Int) + (wholeN s : Int) = (at2 s : Int)) := ⟨by unfold at2; omega⟩
      have HM : Aside0 (moreN s = if dotB s (at2 s) = true then runN isDg s (at2 s + 1) else 0) := ⟨rfl⟩
      have HT : Aside0 (tkB s = (dotB s (at2 s) && decide (0 < wholeN s + moreN s))) := ⟨rfl⟩
      have HP : Aside0 (partS s = if tkB s = true then s.extract (at2 s + 1) (at2 s + 1 + moreN s) else ⟨#[]⟩) := ⟨rfl⟩
      have HA3 : Aside0 (at3 s = if tkB s = true then at2 s + 1 + moreN s else at2 s) := ⟨rfl⟩
      have HR : Aside0 (at2 s < s.size → at2 s + 1 + runN isDg s (at2 s + 1) ≤ s.size) := ⟨fun h => runN_le isDg s (at2 s + 1) (by omega)⟩
      go_upto_region 10 with fail
      rw [h12.out]
      generalize hdb : dotB s (at2 s) = db at *
      have HDB := Aside0.mk hdb
      clear hdb hsl1
      go_cut [58] (fun v58 wx => v58 = .bool db ∧ w = wx)
      case first =>
        by_cases h1 : at2 s < s.size
        · have h1i : (at2 s : Int) < (s.size : Int) := by omega
          have hbt := bt_nat h1
          have e1 : Aside0 (db = ((s[at2 s].toNat : Int) == 46)) := ⟨by rw [← HDB.out, ← hbt]; simp [dotB, h1]⟩
          clear hbt
          go_wp2_with fail
          go_meet
          exact ⟨by rw [e1.out], rfl⟩
        · have h1i : ¬ (at2 s : Int) < (s.size : Int) := by omega
          have e1 : Aside0 (db = false) := ⟨by rw [← HDB.out]; simp [dotB, h1]⟩
          go_wp2_with fail
          go_meet
          exact ⟨by rw [e1.out], rfl⟩
      case rest =>
        obtain ⟨rfl, rfl⟩ := hcut
        go_upto_if 58 with fail
        go_cut [4, 8] (fun v4 v8 wx => v4 = .int .i64 (at3 s) ∧ v8 = .string (partS s) ∧ w = wx)
        case first =>
          cases db with
          | true =>
            have hsb := HDB.out
            simp only [dotB, Bool.and_eq_true, decide_eq_true_eq] at hsb
            have h1 : at2 s < s.size := hsb.1
            clear hsb
            have c2 := R2.out (at2 s + 1) (by omega)
            have hm := HM.out
            rw [if_pos rfl] at hm
            have l3 := HR.out h1
            rw [← hm] at c2 l3
            have hsum : wholeN s + moreN s ≤ s.size := by have := h12.out; omega
            have e2 : ((at2 s + 1 : Nat) : Int) = (at2 s : Int) + 1 := by omega
            rw [e2] at c2
            clear hm e2
            go_wp2_with fail
            refine (c2 _).mono ?_
            rintro e w' ⟨rfl, rfl⟩
            clear c2
            have hsl2 : ∀ W, (Instr.slice 9 (.string s) (some (.int .i64 ((at2 s : Int) + 1))) (some (.int .i64 ((at2 s : Int) + 1 + (moreN s : Int)))) none).run Tryz.prog W = .ok (.string (s.extract (at2 s + 1) (at2 s + 1 + moreN s))) W := fun W => by
              rw [str_lh Tryz.underlying9 s _ _ (by omega) (by omega) (by omega)]
              have e1 : ((at2 s : Int) + 1).toNat = at2 s + 1 := by omega
              have e2 : ((at2 s : Int) + 1 + (moreN s : Int)).toNat = at2 s + 1 + moreN s := by omega
              rw [e1, e2]
            by_cases h3 : 0 < wholeN s + moreN s
            · have h3i : decide ((0 : Int) < (wholeN s : Int) + (moreN s : Int)) = true := decide_eq_true (by omega)
              have e3 : Aside0 (tkB s = true) := ⟨by rw [HT.out]; simp; omega⟩
              clear h3
              go_wp2_with fail
              go_meet
              exact ⟨by rw [HA3.out, e3.out]; go_num, by rw [HP.out, e3.out]; rfl, rfl⟩
            · have h3i : decide ((0 : Int) < (wholeN s : Int) + (moreN s : Int)) = false := decide_eq_false (by omega)
              have e3 : Aside0 (tkB s = false) := ⟨by rw [HT.out]; simp; omega⟩
              clear h3
              go_wp2_with fail
              go_meet
              exact ⟨by rw [HA3.out, e3.out]; rfl, by rw [HP.out, e3.out]; rfl, rfl⟩
          | false =>
            have e3 : Aside0 (tkB s = false) := ⟨by rw [HT.out]; rfl⟩
            go_wp2_with fail
            go_meet
            exact ⟨by rw [HA3.out, e3.out]; rfl, by rw [HP.out, e3.out]; rfl, rfl⟩
        case rest =>
          obtain ⟨rfl, rfl, rfl⟩ := hcut
          have HDs : Aside0 ((digS s).size ≤ s.size) := ⟨by unfold digS; simp [ByteArray.size_extract]; omega⟩
          have HPs : Aside0 ((partS s).size ≤ s.size) := ⟨by unfold partS; split <;> first | exact Nat.zero_le _ | (simp [ByteArray.size_extract]; done) | (simp [ByteArray.size_extract]; omega)⟩
          have HAll : Aside0 (allS s = digS s ++ (partS s ++ ⟨#[48, 48, 48, 48, 48, 48]⟩).extract 0 6) := ⟨rfl⟩
          have HNum : Aside0 (numOf s = mn ((allS s).data.toList.foldl (fun n c => numStep n (c.toNat : Int)) 0) 9000000000000) := ⟨rfl⟩
          clear HR HA3 HP HT HM h12 HDB HSB HNg HAt l0 l1 l2 la
          generalize numOf s = nm at *
          generalize allS s = al at *
          generalize digS s = ds at *
          generalize partS s = ps at *
          generalize negB s = ng at *
          generalize at3 s = a3 at *
          generalize heb : (ds.toList.isEmpty && ps.toList.isEmpty) = eb at *
          have HEB := Aside0.mk heb
          clear heb
          go_upto_region 15 with fail
          go_cut [84] (fun v84 wx => v84 = .bool eb ∧ w = wx)
          case first =>
            cases b1 : ds.toList.isEmpty with
            | true =>
              have e1 : Aside0 (eb = ps.toList.isEmpty) := ⟨by rw [← HEB.out, b1]; rfl⟩
              go_wp2_with fail
              go_meet
              exact ⟨by rw [e1.out], rfl⟩
            | false =>
              have e1 : Aside0 (eb = false) := ⟨by rw [← HEB.out, b1]; rfl⟩
              go_wp2_with fail
              go_meet
              exact ⟨by rw [e1.out], rfl⟩
          case rest =>
            obtain ⟨rfl, rfl⟩ := hcut
            cases eb with
            | true =>
              go_wp2_with fail
              go_ret2
              exact ⟨by have h := HRES.out; simp at h; rw [← h.1, ← h.2] <;> rfl, Below.refl _ _⟩
            | false =>
              have hds := HDs.out
              have hps := HPs.out
              have hz : ps.size + 6 ≤ 9223372036854775807 := by omega
              have HSZ : Aside0 (al.size = ds.size + 6) := ⟨by
                rw [HAll.out, ByteArray.size_append, ByteArray.size_extract, ByteArray.size_append]
                have h6 : (⟨#[48, 48, 48, 48, 48, 48]⟩ : ByteArray).size = 6 := rfl
                omega⟩
              have hal : al.size ≤ 9223372036854775807 := by rw [HSZ.out]; omega
              have kb := fun W => print_bytes (P := Tryz.prog) 9 22 5 Tryz.underlying9 Tryz.underlying22 Tryz.underlying5 (ds ++ (ps ++ ⟨#[48, 48, 48, 48, 48, 48]⟩).extract 0 6) W
              have hcell := Aside0.mk (fun j (hj : j < al.size) => Lib.bytesWorld_cell w 5 al j hj)
              have HBel : Aside0 (Below w.heap.size w (Lib.bytesWorld w 5 al)) := ⟨bytes_below (Below.refl _ _) (Nat.le_refl _) _ _⟩
              go_upto_region 18 with fail
              go_cut [90, 91, 92] (fun v90 v91 v92 wx => ∃ c : Nat, v90 = .slice (some ⟨w.heap.size, 0, none⟩) al.size c ∧ v91 = .int .i64 al.size ∧ v92 = .int .i64 0 ∧ Lib.bytesWorld w 5 al = wx)
              case first =>
                go_wp2_with fail
                go_meet
                exact ⟨grownCap w al.size 0 5, by rw [HSZ.out] <;> rfl, by rw [HSZ.out] <;> go_num, rfl, by rw [HAll.out] <;> rfl⟩
              case rest =>
                obtain ⟨c, rfl, rfl, rfl, rfl⟩ := hcut
                clear kb HAll HDs HPs hds hps hz
                generalize Lib.bytesWorld w 5 al = w1 at *
                go_wp2_with fail
                go_loopg [10, 92] al.size (fun gg v10 v92 wr => ∃ (n : Int) (k : Nat), v10 = .int .i64 n ∧ v92 = .int .i64 k ∧ k ≤ al.size ∧ al.size - k ≤ gg ∧ 0 ≤ n ∧ n ≤ 9000000000001 ∧ Aside0 (n = (al.data.toList.take k).foldl (fun n c => numStep n (c.toNat : Int)) 0) ∧ w1 = wr)
                case atStart => exact ⟨0, 0, rfl, rfl, by omega, by omega, by omega, by omega, ⟨rfl⟩, rfl⟩
                case round =>
                  obtain ⟨n, k, rfl, rfl, hk, hg, hn0, hn1, HN, rfl⟩ := hrel
                  by_cases hlt : k < al.size
                  · have hlt0 : (k : Int) < (al.size : Int) := by omega
                    have hc := hcell.out k hlt
                    have hkl : k < al.data.toList.length := by rw [Array.length_toList]; exact hlt
                    have HS : Aside0 ((al.data.toList.take (k + 1)).foldl (fun n c => numStep n (c.toNat : Int)) 0 = numStep n ((al.data.toList.getD k 0).toNat : Int)) := ⟨by
                      rw [List.take_succ_eq_append_getElem hkl, List.foldl_append, ← HN.out, List.getD_eq_getElem?_getD, List.getElem?_eq_getElem hkl]; rfl⟩
                    clear hkl
                    generalize ((al.data.toList.getD k 0).toNat : Int) = b at hc HS
                    go_wp2_with fail
                    all_goals
                      go_roundg (al.size - (k + 1))
                      case measure => omega
                      case rel => exact ⟨_, k + 1, rfl, by go_num, by omega, by omega, by omega, by omega, ⟨by rw [HS.out]; unfold numStep mn; omega⟩, rfl⟩
                  · have hlt0 : ¬ (k : Int) < (al.size : Int) := by omega
                    obtain rfl : k = al.size := by omega
                    have hF : Aside0 (nm = mn n 9000000000000) := ⟨by
                      rw [HNum.out]
                      have h := HN.out
                      rw [List.take_of_length_le (by rw [Array.length_toList]; exact Nat.le_refl _)] at h
                      rw [← h]⟩
                    have HQ : Aside0 (r1 = (if ng = true then - nm else nm) ∧ r2 = (a3 : Int)) := ⟨by have h := HRES.out; simp at h; exact ⟨h.1.symm, h.2.symm⟩⟩
                    clear HN HNum HRES
                    cases ng with
                    | true =>
                      go_wp2_with fail
                      all_goals
                        go_ret2
                        exact ⟨ret2_int (by have h := HQ.out; simp at h; rw [h.1, hF.out]; unfold mn; omega) (by rw [HQ.out.2]), HBel.out⟩
                    | false =>
                      go_wp2_with fail
                      all_goals
                        go_ret2
                        exact ⟨ret2_int (by have h := HQ.out; simp at h; rw [h.1, hF.out]; unfold mn; omega) (by rw [HQ.out.2]), HBel.out⟩
end Go.Proofs.YtnfiljnncpieoaaGreatDoor.Q
namespace Go.Proofs
open Go.Shelf
def Tryz.lays129_ren : Go.Shelf.Ren := ⟨fun | 129 => 105 | n => n, fun | 53 => 87 | 3 => 3 | 4 => 4 | 46 => 101 | 5 => 5 | 9 => 9 | n => n, fun | n => n⟩
theorem Tryz.lays129 : Go.Proofs.Lays.n129 Tryz.prog Tryz.lays129_ren := {
  mixed := by kernel_rfl
  f129 := Tryz.func105.trans (congrArg some (by kernel_rfl))
  t3 := Tryz.underlying3
  a3 := Tryz.isAgg3
  z3 := Tryz.sizeOf3
  v3 := Tryz.zeroValue3
  t4 := Tryz.underlying4
  a4 := Tryz.isAgg4
  z4 := Tryz.sizeOf4
  v4 := Tryz.zeroValue4
  t5 := Tryz.underlying5
  a5 := Tryz.isAgg5
  z5 := Tryz.sizeOf5
  v5 := Tryz.zeroValue5
  t9 := Tryz.underlying9
  a9 := Tryz.isAgg9
  z9 := Tryz.sizeOf9
  v9 := Tryz.zeroValue9
  t46 := Tryz.underlying101
  a46 := Tryz.isAgg101
  z46 := Tryz.sizeOf101
  v46 := Tryz.zeroValue101
  t53 := Tryz.underlying87
  a53 := Tryz.isAgg87
  z53 := Tryz.sizeOf87
  v53 := Tryz.zeroValue87 }
theorem Tryz.bits_Len64 (x : Int) (w : World) (h0 : 0 ≤ x) (h1 : x ≤ 18446744073709551615) :
    Calls Tryz.prog 105 #[.int .u64 x] w fun e w' => e = .returned (.int .i64 (Lib.bitLen x.toNat)) ∧ w' = w := Any.bits_Len64 Tryz.lays129 x w h0 h1
def Tryz.laysM171_ren : Go.Shelf.Ren := ⟨fun | 171 => 97 | 243 => 118 | 246 => 132 | 283 => 140 | 284 => 141 | 285 => 142 | 286 => 143 | 129 => 105 | 317 => 147 | 318 => 148 | 319 => 149 | 320 => 150 | 337 => 154 | 338 => 155 | n => n, fun | 3 => 3 | 9 => 9 | 2 => 2 | 4 => 4 | 171 => 149 | 0 => 0 | 53 => 87 | 37 => 22 | 5 => 5 | 173 => 151 | 212 => 155 | 51 => 128 | 20 => 20 | 213 => 156 | 46 => 101 | 232 => 164 | 233 => 165 | n => n, fun | 17 => 5 | 18 => 8 | 19 => 9 | n => n⟩
theorem Tryz.laysM171 : Go.Proofs.LaysM.n171 Tryz.prog Tryz.laysM171_ren := {
  mixed := by kernel_rfl
  f129 := Tryz.func105.trans (congrArg some (by kernel_rfl))
  f171 := Tryz.func97.trans (congrArg some (by kernel_rfl))
  f243 := Tryz.func118.trans (congrArg some (by kernel_rfl))
  f246 := Tryz.func132.trans (congrArg some (by kernel_rfl))
  f283 := Tryz.func140.trans (congrArg some (by kernel_rfl))
  f284 := Tryz.func141.trans (congrArg some (by kernel_rfl))
  f285 := Tryz.func142.trans (congrArg some (by kernel_rfl))
  f286 := Tryz.func143.trans (congrArg some (by kernel_rfl))
  f317 := Tryz.func147.trans (congrArg some (by kernel_rfl))
  f318 := Tryz.func148.trans (congrArg some (by kernel_rfl))
  f319 := Tryz.func149.trans (congrArg some (by kernel_rfl))
  f320 := Tryz.func150.trans (congrArg some (by kernel_rfl))
  f337 := Tryz.func154.trans (congrArg some (by kernel_rfl))
  f338 := Tryz.func155.trans (congrArg some (by kernel_rfl))
  t0 := Tryz.underlying0
  a0 := Tryz.isAgg0
  z0 := Tryz.sizeOf0
  v0 := Tryz.zeroValue0
  t2 := Tryz.underlying2
  a2 := Tryz.isAgg2
  z2 := Tryz.sizeOf2
  v2 := Tryz.zeroValue2
  t3 := Tryz.underlying3
  a3 := Tryz.isAgg3
  z3 := Tryz.sizeOf3
  v3 := Tryz.zeroValue3
  t4 := Tryz.underlying4
  a4 := Tryz.isAgg4
  z4 := Tryz.sizeOf4
  v4 := Tryz.zeroValue4
  t5 := Tryz.underlying5
  a5 := Tryz.isAgg5
  z5 := Tryz.sizeOf5
  v5 := Tryz.zeroValue5
  t9 := Tryz.underlying9
  a9 := Tryz.isAgg9
  z9 := Tryz.sizeOf9
  v9 := Tryz.zeroValue9
  t20 := Tryz.underlying20
  a20 := Tryz.isAgg20
  z20 := Tryz.sizeOf20
  v20 := Tryz.zeroValue20
  t37 := Tryz.underlying22
  a37 := Tryz.isAgg22
  z37 := Tryz.sizeOf22
  v37 := Tryz.zeroValue22
  t46 := Tryz.underlying101
  a46 := Tryz.isAgg101
  z46 := Tryz.sizeOf101
  v46 := Tryz.zeroValue101
  t51 := Tryz.underlying128
  a51 := Tryz.isAgg128
  z51 := Tryz.sizeOf128
  v51 := Tryz.zeroValue128
  t53 := Tryz.underlying87
  a53 := Tryz.isAgg87
  z53 := Tryz.sizeOf87
  v53 := Tryz.zeroValue87
  t171 := Tryz.underlying149
  a171 := Tryz.isAgg149
  z171 := Tryz.sizeOf149
  v171 := Tryz.zeroValue149
  t173 := Tryz.underlying151
  a173 := Tryz.isAgg151
  z173 := Tryz.sizeOf151
  v173 := Tryz.zeroValue151
  t212 := Tryz.underlying155
  a212 := Tryz.isAgg155
  z212 := Tryz.sizeOf155
  v212 := Tryz.zeroValue155
  t213 := Tryz.underlying156
  a213 := Tryz.isAgg156
  z213 := Tryz.sizeOf156
  t232 := Tryz.underlying164
  a232 := Tryz.isAgg164
  z232 := Tryz.sizeOf164
  v232 := Tryz.zeroValue164
  t233 := Tryz.underlying165
  a233 := Tryz.isAgg165
  z233 := Tryz.sizeOf165
  v233 := Tryz.zeroValue165
  g17 := by kernel_rfl
  g18 := by kernel_rfl
  g19 := by kernel_rfl
  i0 := by kernel_rfl
  i2 := by kernel_rfl
  i3 := by kernel_rfl
  i4 := by kernel_rfl
  i5 := by kernel_rfl
  i9 := by kernel_rfl
  i20 := by kernel_rfl
  i37 := by kernel_rfl
  i46 := by kernel_rfl
  i51 := by kernel_rfl
  i53 := by kernel_rfl
  i171 := by kernel_rfl
  i173 := by kernel_rfl
  i212 := by kernel_rfl
  i232 := by kernel_rfl
  i233 := by kernel_rfl
  m17 := by kernel_rfl
  m18 := by kernel_rfl
  m19 := by kernel_rfl }
open Go.RowKit Go.Sort Go.Lib in
/-- strconv.Itoa: "Itoa is equivalent to FormatInt(int64(i), 10).": i's DECIMAL NUMERAL ('Lib.itoa': a '-' where i is negative, then the digits), FOR EVERY int. The world behind the call: the world before it, new blocks behind the heap (the library's 'var a [24]byte'), draws. (LAID: no walk: one application.) -/
theorem Tryz.strconv_Itoa (n : Int) (h0 : -9223372036854775808 ≤ n) (h1 : n ≤ 9223372036854775807) (w : World) (htab : Lib.TabIs Tryz.prog w "internal/strconv.uint64pow10" .u64 Lib.pow10Tab) :
    Calls Tryz.prog 97 #[.int .i64 n] w fun e w' => e = .returned (.string ⟨(Lib.itoa n).toArray⟩) ∧ ∃ k os, w' = grow (w.drewN k) os := Any.strconv_Itoa Tryz.laysM171 n h0 h1 w htab
def Tryz.lays143_ren : Go.Shelf.Ren := ⟨fun | 143 => 76 | 219 => 94 | 217 => 109 | 225 => 110 | 224 => 111 | 267 => 112 | 266 => 127 | 314 => 128 | n => n, fun | 9 => 9 | 3 => 3 | 4 => 4 | 5 => 5 | 46 => 101 | 146 => 129 | 51 => 128 | n => n, fun | 1 => 2 | n => n⟩
theorem Tryz.lays143 : Go.Proofs.Lays.n143 Tryz.prog Tryz.lays143_ren := {
  mixed := by kernel_rfl
  f143 := Tryz.func76.trans (congrArg some (by kernel_rfl))
  f217 := Tryz.func109.trans (congrArg some (by kernel_rfl))
  f219 := Tryz.func94.trans (congrArg some (by kernel_rfl))
  f224 := Tryz.func111.trans (congrArg some (by kernel_rfl))
  f225 := Tryz.func110.trans (congrArg some (by kernel_rfl))
  f266 := Tryz.func127.trans (congrArg some (by kernel_rfl))
  f267 := Tryz.func112.trans (congrArg some (by kernel_rfl))
  f314 := Tryz.func128.trans (congrArg some (by kernel_rfl))
  t3 := Tryz.underlying3
  a3 := Tryz.isAgg3
  z3 := Tryz.sizeOf3
  v3 := Tryz.zeroValue3
  t4 := Tryz.underlying4
  a4 := Tryz.isAgg4
  z4 := Tryz.sizeOf4
  v4 := Tryz.zeroValue4
  t5 := Tryz.underlying5
  a5 := Tryz.isAgg5
  z5 := Tryz.sizeOf5
  v5 := Tryz.zeroValue5
  t9 := Tryz.underlying9
  a9 := Tryz.isAgg9
  z9 := Tryz.sizeOf9
  v9 := Tryz.zeroValue9
  t46 := Tryz.underlying101
  a46 := Tryz.isAgg101
  z46 := Tryz.sizeOf101
  v46 := Tryz.zeroValue101
  t51 := Tryz.underlying128
  a51 := Tryz.isAgg128
  z51 := Tryz.sizeOf128
  v51 := Tryz.zeroValue128
  t146 := Tryz.underlying129
  a146 := Tryz.isAgg129
  z146 := Tryz.sizeOf129
  v146 := Tryz.zeroValue129
  g1 := by kernel_rfl }
open Go.RowKit Go.Lib in
/-- strings.Index: "Index returns the index of the first instance of substr in s, or -1 if substr is not present in s.": IT RETURNS 'Lib.index s substr'; the world is as it was. (LAID: no walk: one application.) -/
theorem Tryz.strings_Index (s sub : ByteArray) (m : Int) (w : World) (hs : s.size < 4294967281) (hm : w.cell? ⟨2, 0, none⟩ = some (.int .i64 m)) :
    Calls Tryz.prog 76 #[.string s, .string sub] w fun e w' => e = .returned (.int .i64 (Lib.index s.data.toList sub.data.toList)) ∧ w' = w := Any.strings_Index Tryz.lays143 s sub m w hs hm
end Go.Proofs
namespace Go.Proofs.YtnfiljnncpieoaaGreatDoor.Q
open Go.Shelf Go.RowKit Go.Proofs.YtnfiljnncpieoaaGreatDoorW.PrintWords Go.Proofs.YtnfiljnncpieoaaGreatDoorW.PrintLast Go.Proofs.YtnfiljnncpieoaaGreatDoorW.PrintMore
def impl_run.f (s : ByteArray) (i : Int) (fn : Nat) : Option Int :=
  if s.size ≤ 9223372036854775807 ∧ 0 ≤ i ∧ i ≤ s.size then (if fn = 78 then some (runN isSp s i.toNat) else if fn = 79 then some (runN isDg s i.toNat)
    else none) else none
theorem run_calls (fn : Nat) (p : Int → Bool) (hp : ∀ c w, Calls Tryz.prog fn #[.int .u8 c] w fun e w' => e = .returned (.bool (p c)) ∧ w' = w) (eg : ∀ args w, (callFunc fn args).run Tryz.prog w = .ok (.enter fn args) w)
    (s : ByteArray) (hs : s.size ≤ 9223372036854775807) (i : Nat) (hi : i ≤ s.size) (r : Int) (hr : some ((runN p s i : Nat) : Int) = some r) (w : World) :
    Calls Tryz.prog 77 #[.string s, .int .i64 i, .func (.func fn) #[] #[]] w fun e w' => e = .returned (.int .i64 r) ∧ Drawn0 w w' := by
  obtain rfl := Option.some.inj hr
  exact (run_any fn p hp eg s hs i hi w).mono fun e w' ⟨he, hw⟩ => ⟨he, hw ▸ Drawn0.refl _⟩
theorem impl_run.calls (a0 : ByteArray) (a1 : Int) (a2 : Nat) (r : Int) (w : World) (h : impl_run.f a0 a1 a2 = some r) :
    Calls Tryz.prog 77 #[.string a0, .int .i64 a1, .func (.func a2) #[] #[]] w fun e w' => e = .returned (.int .i64 r) ∧ Drawn0 w w' := by
  unfold impl_run.f at h
  by_cases hb : a0.size ≤ 9223372036854775807 ∧ 0 ≤ a1 ∧ a1 ≤ a0.size
  case neg => rw [if_neg hb] at h; cases h
  rw [if_pos hb] at h
  obtain ⟨hs, h0, h1⟩ := hb
  obtain ⟨i, rfl⟩ := Int.eq_ofNat_of_zero_le h0
  rw [Int.toNat_natCast] at h
  by_cases h2 : a2 = 78
  · rw [if_pos h2] at h
    subst h2
    exact run_calls _ isSp isSpace_any (enters_of Tryz.func78 (by kernel_rfl) rfl) a0 hs i (by omega) r h w
  rw [if_neg h2] at h
  by_cases h3 : a2 = 79
  · rw [if_pos h3] at h
    subst h3
    exact run_calls _ isDg isDigit_any (enters_of Tryz.func79 (by kernel_rfl) rfl) a0 hs i (by omega) r h w
  rw [if_neg h3] at h
  cases h
def strconv_Itoa.f (n : Int) : Option ByteArray := if -9223372036854775808 ≤ n ∧ n ≤ 9223372036854775807 then some ⟨(Lib.itoa n).toArray⟩ else none
theorem below_grow0 (w : World) (k : Nat) (os : Array Obj) : Below w.heap.size w (Go.Sort.grow (w.drewN k) os) :=
  ⟨rfl, rfl, rfl, by show w.heap.size ≤ (w.heap ++ os).size; rw [Array.size_append]; omega, fun j hj => by
    show (w.heap ++ os)[j]? = w.heap[j]?
    rw [Array.getElem?_append_left hj]⟩
theorem strconv_Itoa.calls (a0 : Int) (r : ByteArray) (w : World) (h : strconv_Itoa.f a0 = some r) (hT : Tabs w := by first | assumption | (refine Aside0.out (p := Tabs _) ?_; assumption) | (refine Tabs.below (w := ?ww) (Aside0.out ?ha) ?hb; (case ha => assumption); (case hb => repeat (first | (with_reducible first | exact Below.refl _ _ | (refine Aside0.out ?_; assumption) | apply below_alloc | apply pw_below_drewN | apply below_drew1 | (refine below_set ?_ (Aside0.out ?_); (rotate_left; assumption))) | (refine Aside0.out ?_; assumption)))) | (refine Tabs.drewN (w := ?ww) (Aside0.out ?ha) _; (case ha => assumption))) :
    Calls Tryz.prog 97 #[.int .i64 a0] w fun e w' => e = .returned (.string r) ∧ Below w.heap.size w w' := by
  unfold strconv_Itoa.f at h
  by_cases hb : -9223372036854775808 ≤ a0 ∧ a0 ≤ 9223372036854775807
  · rw [if_pos hb] at h
    obtain rfl := Option.some.inj h
    exact (Tryz.strconv_Itoa a0 hb.1 hb.2 w hT.pow10).mono fun e w' ⟨he, k, os, hw⟩ => ⟨he, hw ▸ below_grow0 w k os⟩
  · rw [if_neg hb] at h; cases h
def bits_Len64.f (n : Int) : Option Int := if 0 ≤ n ∧ n ≤ 18446744073709551615 then some (Lib.bitLen n.toNat) else none
theorem bits_Len64.calls (a0 : Int) (r : Int) (w : World) (h : bits_Len64.f a0 = some r) :
    Calls Tryz.prog 105 #[.int .u64 a0] w fun e w' => e = .returned (.int .i64 r) ∧ Drawn0 w w' := by
  unfold bits_Len64.f at h
  by_cases hb : 0 ≤ a0 ∧ a0 ≤ 18446744073709551615
  · rw [if_pos hb] at h
    obtain rfl := Option.some.inj h
    exact (Tryz.bits_Len64 a0 w hb.1 hb.2).mono fun e w' ⟨he, hw⟩ => ⟨he, hw ▸ Drawn0.refl _⟩
  · rw [if_neg hb] at h; cases h
def strings_Index.f (s p : ByteArray) : Option Int := if s.size < 4294967281 then some (Lib.index s.data.toList p.data.toList) else none
theorem strings_Index.calls (a0 a1 : ByteArray) (r : Int) (w : World) (h : strings_Index.f a0 a1 = some r) (hT : Tabs w := by first | assumption | (refine Aside0.out (p := Tabs _) ?_; assumption) | (refine Tabs.below (w := ?ww) (Aside0.out ?ha) ?hb; (case ha => assumption); (case hb => repeat (first | (with_reducible first | exact Below.refl _ _ | (refine Aside0.out ?_; assumption) | apply below_alloc | apply pw_below_drewN | apply below_drew1 | (refine below_set ?_ (Aside0.out ?_); (rotate_left; assumption))) | (refine Aside0.out ?_; assumption)))) | (refine Tabs.drewN (w := ?ww) (Aside0.out ?ha) _; (case ha => assumption))) :
    Calls Tryz.prog 76 #[.string a0, .string a1] w fun e w' => e = .returned (.int .i64 r) ∧ Drawn0 w w' := by
  unfold strings_Index.f at h
  by_cases hs : a0.size < 4294967281
  · rw [if_pos hs] at h
    obtain rfl := Option.some.inj h
    obtain ⟨m, hm⟩ := hT.maxlen
    exact (Tryz.strings_Index a0 a1 m w hs hm).mono fun e w' ⟨he, hw⟩ => ⟨he, hw ▸ Drawn0.refl _⟩
  · rw [if_neg hs] at h; cases h
end Go.Proofs.YtnfiljnncpieoaaGreatDoor.Q
namespace Go.Proofs.YtnfiljnncpieoaaGreatDoor.Q
open Go.RowKit Go.Proofs.YtnfiljnncpieoaaGreatDoorW.PrintWords Go.Proofs.YtnfiljnncpieoaaGreatDoorW.PrintLast Go.Proofs.YtnfiljnncpieoaaGreatDoorW.PrintMore
theorem isNaN_string_any (a : ByteArray) (w : World) : Calls Tryz.prog 108 #[.string a] w fun e w' => e = .returned (.bool false) ∧ w' = w := by
  have hb : (a.toList == a.toList) = true := by simp
  have hn : (a.toList != a.toList) = false := by simp
  go_enter Tryz.func108, Tryz.ntmps108
  go_wp2
  go_ret
  first | exact ⟨rfl, rfl⟩ | (constructor; simp; rfl)
def cmp_Compare_string.f (a b : ByteArray) : Option Int := some (if Op.bytesLess a.toList b.toList = true then -1 else if (a.toList == b.toList) = true then 0 else 1)
theorem cmp_Compare_string.calls (a0 a1 : ByteArray) (r : Int) (w : World) (h : cmp_Compare_string.f a0 a1 = some r) :
    Calls Tryz.prog 93 #[.string a0, .string a1] w fun e w' => e = .returned (.int .i64 r) ∧ Drawn0 w w' := by
  have c1 := isNaN_string_any a0 w
  have c2 := isNaN_string_any a1 w
  have HR := Aside0.mk (Option.some.inj h)
  clear h
  by_cases h1 : Op.bytesLess a0.toList a1.toList = true
  · have H1 : Aside0 (r = -1) := ⟨by rw [← HR.out, if_pos h1]⟩
    go_enter Tryz.func93, Tryz.ntmps93
    go_wp2_with fail
    refine c1.mono ?_
    rintro e w' ⟨rfl, rfl⟩
    go_wp2_with fail
    refine c2.mono ?_
    rintro e w' ⟨rfl, rfl⟩
    go_wp2_with fail
    go_ret
    exact ⟨by rw [H1.out] <;> rfl, Drawn0.refl _⟩
  · have b1 : Op.bytesLess a0.toList a1.toList = false := by simpa using h1
    cases h2 : (a0.toList == a1.toList) with
    | true =>
      have H1 : Aside0 (r = 0) := ⟨by rw [← HR.out, if_neg h1, if_pos h2]⟩
      clear h1
      go_enter Tryz.func93, Tryz.ntmps93
      go_wp2_with fail
      refine c1.mono ?_
      rintro e w' ⟨rfl, rfl⟩
      go_wp2_with fail
      refine c2.mono ?_
      rintro e w' ⟨rfl, rfl⟩
      go_wp2_with fail
      go_ret
      exact ⟨by rw [H1.out] <;> rfl, Drawn0.refl _⟩
    | false =>
      have H1 : Aside0 (r = 1) := ⟨by rw [← HR.out, if_neg h1, if_neg (by rw [h2]; simp)]⟩
      clear h1
      go_enter Tryz.func93, Tryz.ntmps93
      go_wp2_with fail
      refine c1.mono ?_
      rintro e w' ⟨rfl, rfl⟩
      go_wp2_with fail
      refine c2.mono ?_
      rintro e w' ⟨rfl, rfl⟩
      go_wp2_with fail
      go_ret
      exact ⟨by rw [H1.out] <;> rfl, Drawn0.refl _⟩
end Go.Proofs.YtnfiljnncpieoaaGreatDoor.Q
namespace Go.Proofs.YtnfiljnncpieoaaGreatDoor.Q
open Go.RowKit Go.Proofs.YtnfiljnncpieoaaGreatDoorW.PrintWords Go.Proofs.YtnfiljnncpieoaaGreatDoorW.PrintLast Go.Proofs.YtnfiljnncpieoaaGreatDoorW.PrintMore
attribute [local go_sem] max2_int min2_int max_two min_two max_three min_three max_four min_four   -- for this text's walks alone
set_option linter.unusedVariables false
set_option linter.unusedSimpArgs false
theorem eqA24 (d : Nat) (w : World) (x0 y0 : Int) (x1 y1 : Int) (x2 y2 : ByteArray) :
  (Op.equalIn (d + 2) 24 (.agg #[.int .i64 x0,.int .i64 x1,.string x2]) (.agg #[.int .i64 y0,.int .i64 y1,.string y2])).run Tryz.prog w = .ok (x0 == y0 && (x1 == y1 && (x2.toList == y2.toList))) w:=by
 refine eqA_of Tryz.underlying24 (by kernel_rfl) ?_
 refine eqf_cons (by rfl) (by go_simp;rfl) (by go_simp;rfl) (by go_simp) ?_
 refine eqf_cons (by rfl) (by go_simp;rfl) (by go_simp;rfl) (by go_simp) ?_
 exact eqf_last (by rfl) (by go_simp;rfl) (by go_simp;rfl) (by go_simp)
def IsS82 (w0 W : World) (g : Nat) (f0 : List Int) (f1 : Int) (f2 : Int) : Prop:=∃ A0 c0,W.heap[g]? = some (.cells #[.slice A0 f0.length c0,.int .i64 f1,.int .i64 f2] 82 (0,0)) ∧ w0.heap.size ≤ g ∧ Kd.C (Kd.int .u8) w0 A0 f0.length f0
theorem IsS82.grown {w0 W : World} {g : Nat} {f0 : List Int} {f1 : Int} {f2 : Int} {W1 : World} {row : Option Nat} (h : IsS82 w0 W g f0 f1 f2) (hw : W.grownBy W1 row) (hne : some g ≠ row) : IsS82 w0 W1 g f0 f1 f2:=by
 obtain ⟨A0,c0,hb,hg,hr0⟩:=h
 exact ⟨A0,c0,blk_grown hb hw hne,hg,hr0⟩
theorem IsS82.fresh {w0 W : World} {g : Nat} {f0 : List Int} {f1 : Int} {f2 : Int} (h : IsS82 w0 W g f0 f1 f2) : ∀ k,W.heap.size ≤ k → k ≠ g:=by
 obtain ⟨A0,c0,hb,hg,hr0⟩:=h
 exact Kd.freshB hb
theorem IsS82.kept {w0 W : World} {g : Nat} {f0 : List Int} {f1 : Int} {f2 : Int} {W1 : World} {S : Nat → Prop} (h : IsS82 w0 W g f0 f1 f2) (hk : Kept W W1 S) (hne : ¬ S g) : IsS82 w0 W1 g f0 f1 f2:=by
 obtain ⟨A0,c0,hb,hg,hr0⟩:=h
 exact ⟨A0,c0,blk_kept hb hk hne,hg,hr0⟩
theorem IsS82.below {w0 W : World} {g : Nat} {f0 : List Int} {f1 : Int} {f2 : Int} {W1 : World} (h : IsS82 w0 W g f0 f1 f2) (hw : Below W.heap.size W W1) : IsS82 w0 W1 g f0 f1 f2:=h.grown (grown_of_below hw none) (by simp)
theorem IsS82.alloc {w0 W : World} {g : Nat} {f0 : List Int} {f1 : Int} {f2 : Int} (h : IsS82 w0 W g f0 f1 f2) (o : Obj) : IsS82 w0 (W.alloc o) g f0 f1 f2:=h.below (below_alloc (Below.refl _ _) o)
theorem IsS82.drewN {w0 W : World} {g : Nat} {f0 : List Int} {f1 : Int} {f2 : Int} (h : IsS82 w0 W g f0 f1 f2) (m : Nat) : IsS82 w0 (W.drewN m) g f0 f1 f2:=h
theorem IsS82.drew {w0 W : World} {g : Nat} {f0 : List Int} {f1 : Int} {f2 : Int} (h : IsS82 w0 W g f0 f1 f2) : IsS82 w0 W.drew g f0 f1 f2:=h
theorem IsS82.at_ {w0 W : World} {g : Nat} {f0 : List Int} {f1 : Int} {f2 : Int} {w' : World} {m : Nat} (hq : W.drewN m = w') (h : IsS82 w0 W g f0 f1 f2) : IsS82 w0 w' g f0 f1 f2:=by subst hq;exact IsS82.drewN h m
theorem IsS82.apart {w0 W : World} {g : Nat} {f0 : List Int} {f1 : Int} {f2 : Int} {α : Type} {d : Kd α} {e : Nat} {base : Nat} {ok : Nat → Prop} {v : Value} {xs : List α} (h : IsS82 w0 W g f0 f1 f2) (ho : d.R e W base ok v xs) (ht : ∀ q,q ∈ e :: d.E → q ≠ 82) : d.R e W base (fun k=>ok k ∧ k ≠ g) v xs:=by
 obtain ⟨A0,c0,hb,hg,hr0⟩:=h
 exact Kd.R_types ho hb ht
theorem IsS82.own_ne {w0 W : World} {g : Nat} {f0 : List Int} {f1 : Int} {f2 : Int} {α : Type} {d : Kd α} {e : Nat} {base : Nat} {ok : Nat → Prop} {v : Value} {xs : List α} (h : IsS82 w0 W g f0 f1 f2) (ho : d.R e W base ok v xs) (ht : e ≠ 82) : some g ≠ v.ownBlock:=by
 obtain ⟨A0,c0,hb,hg,hr0⟩:=h
 exact Kd.R_ne ho hb ht
theorem IsS82.lt {w0 W : World} {g : Nat} {f0 : List Int} {f1 : Int} {f2 : Int} (h : IsS82 w0 W g f0 f1 f2) : g < W.heap.size:=by
 obtain ⟨A0,c0,hb,hg,hr0⟩:=h
 exact blk_lt hb
theorem IsS82.ge {w0 W : World} {g : Nat} {f0 : List Int} {f1 : Int} {f2 : Int} (h : IsS82 w0 W g f0 f1 f2) : w0.heap.size ≤ g:=by
 obtain ⟨A0,c0,hb,hg,hr0⟩:=h
 exact hg
theorem IsS82.ne_blk {w0 W : World} {g : Nat} {f0 : List Int} {f1 : Int} {f2 : Int} {a : Nat} {cs : Array Value} {t : TypeId} {fr : Nat × Nat} (h : IsS82 w0 W g f0 f1 f2) (hb2 : W.heap[a]? = some (.cells cs t fr)) (ht : t ≠ 82) : g ≠ a:=by
 obtain ⟨A0,c0,hb,hg,hr0⟩:=h
 rintro rfl
 rw [hb] at hb2
 injection hb2 with hb2
 injection hb2 with _ ht2
 exact ht ht2.symm
theorem IsS82.far {w0 W : World} {g : Nat} {f0 : List Int} {f1 : Int} {f2 : Int} {p : Addr} (h : IsS82 w0 W g f0 f1 f2) (hne : g ≠ p.block) (u : Value) : IsS82 w0 (W.setCell p u) g f0 f1 f2:=by
 obtain ⟨A0,c0,hb,hg,hr0⟩:=h
 exact ⟨A0,c0,blk_far hb hne u,hg,hr0⟩
theorem cellS82_0 {W : World} {g : Nat} {A0 : Option Addr} {c0 : Nat} {f0 : List Int} {f1 : Int} {f2 : Int} (h : W.heap[g]? = some (.cells #[.slice A0 f0.length c0,.int .i64 f1,.int .i64 f2] 82 (0,0))) : W.cell? ⟨g,0,none⟩ = some (.slice A0 f0.length c0):=(blk_cell h 0).trans rfl
theorem cellS82_1 {W : World} {g : Nat} {A0 : Option Addr} {c0 : Nat} {f0 : List Int} {f1 : Int} {f2 : Int} (h : W.heap[g]? = some (.cells #[.slice A0 f0.length c0,.int .i64 f1,.int .i64 f2] 82 (0,0))) : W.cell? ⟨g,1,none⟩ = some (.int .i64 f1):=(blk_cell h 1).trans rfl
theorem IsS82.set_1 {w0 W : World} {g : Nat} {f0 : List Int} {f1 : Int} {f2 : Int} (h : IsS82 w0 W g f0 f1 f2) (x : Int) : IsS82 w0 (W.setCell ⟨g,1,none⟩ (.int .i64 x)) g f0 x f2:=by
 obtain ⟨A0,c0,hb,hg,hr0⟩:=h
 exact ⟨A0,c0,by simpa using blk_set hb 1 (.int .i64 x),hg,hr0⟩
theorem cellS82_2 {W : World} {g : Nat} {A0 : Option Addr} {c0 : Nat} {f0 : List Int} {f1 : Int} {f2 : Int} (h : W.heap[g]? = some (.cells #[.slice A0 f0.length c0,.int .i64 f1,.int .i64 f2] 82 (0,0))) : W.cell? ⟨g,2,none⟩ = some (.int .i64 f2):=(blk_cell h 2).trans rfl
theorem IsS82.set_2 {w0 W : World} {g : Nat} {f0 : List Int} {f1 : Int} {f2 : Int} (h : IsS82 w0 W g f0 f1 f2) (x : Int) : IsS82 w0 (W.setCell ⟨g,2,none⟩ (.int .i64 x)) g f0 f1 x:=by
 obtain ⟨A0,c0,hb,hg,hr0⟩:=h
 exact ⟨A0,c0,by simpa using blk_set hb 2 (.int .i64 x),hg,hr0⟩
theorem IsS82.new (w0 W : World) (A0 : Option Addr) (c0 : Nat) (f0 : List Int) (f1 : Int) (f2 : Int) (hB : Below w0.heap.size w0 W) (hr0 : Kd.C (Kd.int .u8) w0 A0 f0.length f0) : IsS82 w0 (W.alloc (.cells #[.slice A0 f0.length c0,.int .i64 f1,.int .i64 f2] 82)) W.heap.size f0 f1 f2:=⟨A0,c0,by simpa using heap_alloc_new W _,hB.size,hr0⟩
def spec_l1New.l0 : Nat → List Int → Int → Int → Option (List Int × Int × Int)
 | 0,_,_,_=>none
 | k + 1,x0,x3,x4=>if x4 < (x0.length : Int) then (if x4 < 4000 then (if 0 ≤ x4 then (spec_l1New.l0 k x0 (Go.bits .and .i64 (wrap64 ((wrap64 ((wrap64 (x3 * 131)) + (wrap64 (rd x0 x4)))) + 7)) 1073741823) (wrap64 (x4 + 1))) else (none)) else (some (x0,0,x3))) else (some (x0,0,x3))
def spec_l1New.f (k : Nat) (l0 : List Int) : Option (List Int × Int × Int):=spec_l1New.l0 k l0 (wrap64 (64242 + (l0.length : Int))) 0
set_option maxHeartbeats 8000000 in
set_option maxRecDepth 100000 in
theorem spec_l1New.calls (k : Nat) (A0 : Option Addr) (c0 : Nat) (l0 : List Int) (r1 : List Int) (r2 : Int) (r3 : Int) (w0 w : World) (hB : Below w0.heap.size w0 w) (hr0 : Kd.C (Kd.int .u8) w0 A0 l0.length l0) (hc0 : l0.length ≤ c0) (h : spec_l1New.f k l0 = some (r1,r2,r3)) :
  Calls Tryz.prog 22 #[.slice A0 l0.length c0] w fun e w'=>∃ g_ : Nat,e = .returned (.pointer (some ⟨g_,0,none⟩)) ∧ IsS82 w0 w' g_ r1 r2 r3 ∧ Below w0.heap.size w0 w' ∧ Below w.heap.size w w':=by
 have hu82:=Tryz.underlying82
 have HR0:=Aside0.mk hr0
 have HC0:=Aside0.mk hc0
 clear hr0 hc0
 have HBW:=Aside0.mk (Below.refl w.heap.size w)
 have HW0:=Aside0.mk hB.size
 have HB:=Aside0.mk hB
 clear hB
 have H : (spec_l1New.l0 k l0 (wrap64 (64242 + (l0.length : Int))) 0) = some (r1,r2,r3):=h
 clear h
 have H':=Aside0.mk H
 clear H
 go_enter Tryz.func22,Tryz.ntmps22
 go_wp2
 go_loopg [3,4] k (fun kq v3 v4 w'=>∃ (x3_1 : Int) (x4_1 : Int),v3 = .int .i64 x3_1 ∧ v4 = .int .i64 x4_1 ∧ Aside0 (spec_l1New.l0 kq l0 x3_1 x4_1 = some (r1,r2,r3)) ∧ Aside0 (kq ≤ k) ∧ Aside0 (Below w0.heap.size w0 w') ∧ Aside0 (Below w.heap.size w w'))
 case atStart=>exact ⟨(wrap64 (64242 + (l0.length : Int))),(0),(by first|rfl|(simp;done)|(simp [*];done)),(by first|rfl|(simp;done)|(simp [*];done)),H',⟨Nat.le_refl _⟩,⟨by repeat (first|(with_reducible first|exact HB.out|apply below_alloc|apply pw_below_drewN|apply below_drew1)|exact HB.out)⟩,⟨by repeat (first|(with_reducible first|exact HBW.out|apply below_alloc|apply pw_below_drewN|apply below_drew1)|exact HBW.out)⟩⟩
 case round =>
  clear H'
  obtain ⟨x3_1,x4_1,rfl,rfl,HA,HK1,HB,HBW⟩:=hrel
  cases gk with
  | zero=>exact absurd HA.out (by simp [spec_l1New.l0])
  | succ k1 =>
   have H:=HA.out
   clear HA
   simp only [spec_l1New.l0] at H
   by_cases c2 : x4_1 < (l0.length : Int)
   ·rw [if_pos c2] at H
    have c2b0 : decide (x4_1 < (l0.length : Int)) = true:=decide_eq_true c2
    clear c2
    by_cases c3 : x4_1 < 4000
    ·rw [if_pos c3] at H
     have c3b0 : decide (x4_1 < 4000) = true:=decide_eq_true c3
     clear c3
     by_cases c4 : 0 ≤ x4_1
     ·rw [if_pos c4] at H
      have c4b0 : decide (0 ≤ x4_1) = true:=decide_eq_true c4
      clear c4
      have H':=Aside0.mk H
      clear H
      have p101 : 0 ≤ (x4_1 : Int):=of_decide_eq_true (by first|(with_reducible assumption)|assumption)
      have q101 : x4_1 < (l0.length : Int):=of_decide_eq_true (by first|(with_reducible assumption)|assumption)
      obtain ⟨ad101,e101,hx101_0⟩:=Kd.at_int HR0.out x4_1 p101 q101
      cases e101
      replace hx101_0:=pw_cell_below HB.out hx101_0
      replace p101:=eq_true p101
      replace q101:=eq_true q101
      go_wp2
      go_roundg k1
      case measure=>have:=HK1.out;omega
      case rel=>exact ⟨(Go.bits .and .i64 (wrap64 ((wrap64 ((wrap64 (x3_1 * 131)) + (wrap64 (rd l0 x4_1)))) + 7)) 1073741823),(wrap64 (x4_1 + 1)),(by first|rfl|(simp;done)|(simp [*];done)),(by first|rfl|(simp;done)|(simp [*];done)),H',⟨by have:=HK1.out;omega⟩,⟨by repeat (first|(with_reducible first|exact HB.out|apply below_alloc|apply pw_below_drewN|apply below_drew1)|exact HB.out)⟩,⟨by repeat (first|(with_reducible first|exact HBW.out|apply below_alloc|apply pw_below_drewN|apply below_drew1)|exact HBW.out)⟩⟩
     ·rw [if_neg c4] at H
      exact absurd H (by simp)
    ·rw [if_neg c3] at H
     have c3b0 : decide (x4_1 < 4000) = false:=decide_eq_false c3
     clear c3
     simp only [Option.some.injEq,Prod.mk.injEq] at H
     obtain ⟨rfl,rfl,rfl⟩:=H
     go_wp2_with (first|((with_reducible refine gate_dst (N:=31) rfl ?_);refine box_event ?hg (N:=31) ?hd (cs:=#[.slice A0 l0.length c0,.int .i64 0,.int .i64 x3_1]) (t:=82) ?hr ?_;(case hd=>rfl);(case hg=>rfl);(case hr=>first|(go_simp;done)|(go_simp;rfl));intro gb102 hg w5 hbox hb;have n0_:=Aside0.mk (below_step HBW.out hb);have n1_:=Aside0.mk (below_step (by repeat (first|(with_reducible first|exact HB.out|apply below_alloc|apply pw_below_drewN|apply below_drew1)|exact HB.out)) hb);have n2_:=Aside0.mk (hbox);have n3_:=Aside0.mk ((by rw [hg];exact (below_size (by repeat (first|(with_reducible first|exact HBW.out|apply below_alloc|apply pw_below_drewN|apply below_drew1)|exact HBW.out))) : w.heap.size ≤ gb102));have n4_:=Aside0.mk ((Nat.le_trans HW0.out (by rw [hg];exact (below_size (by repeat (first|(with_reducible first|exact HBW.out|apply below_alloc|apply pw_below_drewN|apply below_drew1)|exact HBW.out))) : w.heap.size ≤ gb102) : w0.heap.size ≤ gb102));clear HBW;clear HB;have HBW:=n0_;have HB:=n1_;have BK102:=n2_;have GW102:=n3_;have GE102:=n4_;clear n0_ n1_ n2_ n3_ n4_;clear hb hbox hg))
     go_ret
     exact ⟨_,rfl,(show IsS82 w0 _ gb102 l0 0 x3_1 from ⟨_,_,by (with_reducible repeat (first|refine blk_drewN ?_ _|refine blk_drew ?_|refine blk_alloc ?_ _));exact BK102.out,GE102.out,HR0.out⟩),by repeat (first|(with_reducible first|exact HB.out|apply below_alloc|apply pw_below_drewN|apply below_drew1|refine below_set ?_ GE102.out)|exact HB.out),by repeat (first|(with_reducible first|exact HBW.out|apply below_alloc|apply pw_below_drewN|apply below_drew1|refine below_set ?_ GW102.out)|exact HBW.out)⟩
   ·rw [if_neg c2] at H
    have c2b0 : decide (x4_1 < (l0.length : Int)) = false:=decide_eq_false c2
    clear c2
    simp only [Option.some.injEq,Prod.mk.injEq] at H
    obtain ⟨rfl,rfl,rfl⟩:=H
    go_wp2_with (first|((with_reducible refine gate_dst (N:=31) rfl ?_);refine box_event ?hg (N:=31) ?hd (cs:=#[.slice A0 l0.length c0,.int .i64 0,.int .i64 x3_1]) (t:=82) ?hr ?_;(case hd=>rfl);(case hg=>rfl);(case hr=>first|(go_simp;done)|(go_simp;rfl));intro gb103 hg w6 hbox hb;have n0_:=Aside0.mk (below_step HBW.out hb);have n1_:=Aside0.mk (below_step (by repeat (first|(with_reducible first|exact HB.out|apply below_alloc|apply pw_below_drewN|apply below_drew1)|exact HB.out)) hb);have n2_:=Aside0.mk (hbox);have n3_:=Aside0.mk ((by rw [hg];exact (below_size (by repeat (first|(with_reducible first|exact HBW.out|apply below_alloc|apply pw_below_drewN|apply below_drew1)|exact HBW.out))) : w.heap.size ≤ gb103));have n4_:=Aside0.mk ((Nat.le_trans HW0.out (by rw [hg];exact (below_size (by repeat (first|(with_reducible first|exact HBW.out|apply below_alloc|apply pw_below_drewN|apply below_drew1)|exact HBW.out))) : w.heap.size ≤ gb103) : w0.heap.size ≤ gb103));clear HBW;clear HB;have HBW:=n0_;have HB:=n1_;have BK103:=n2_;have GW103:=n3_;have GE103:=n4_;clear n0_ n1_ n2_ n3_ n4_;clear hb hbox hg))
    go_ret
    exact ⟨_,rfl,(show IsS82 w0 _ gb103 l0 0 x3_1 from ⟨_,_,by (with_reducible repeat (first|refine blk_drewN ?_ _|refine blk_drew ?_|refine blk_alloc ?_ _));exact BK103.out,GE103.out,HR0.out⟩),by repeat (first|(with_reducible first|exact HB.out|apply below_alloc|apply pw_below_drewN|apply below_drew1|refine below_set ?_ GE103.out)|exact HB.out),by repeat (first|(with_reducible first|exact HBW.out|apply below_alloc|apply pw_below_drewN|apply below_drew1|refine below_set ?_ GW103.out)|exact HBW.out)⟩
def spec_l1Byte.f (s0_0 : List Int) (s0_1 : Int) (s0_2 : Int) : Option (Int × Int × Int):=if s0_1 < (s0_0.length : Int) then (if 0 ≤ s0_1 then (some (Go.bits .and .i64 (wrap64 ((Go.bits .and .i64 (Go.bits .xor .i64 ((wrap64 ((wrap64 (s0_2 * 6364136223846793005)) + 1442695040888963407)) / 8589934592) ((wrap64 ((wrap64 (s0_2 * 6364136223846793005)) + 1442695040888963407)) / 35184372088832)) 255) + (wrap64 (rd s0_0 s0_1)))) 255,wrap64 (s0_1 + 1),wrap64 ((wrap64 (s0_2 * 6364136223846793005)) + 1442695040888963407))) else (none)) else (some (Go.bits .and .i64 (Go.bits .xor .i64 ((wrap64 ((wrap64 (s0_2 * 6364136223846793005)) + 1442695040888963407)) / 8589934592) ((wrap64 ((wrap64 (s0_2 * 6364136223846793005)) + 1442695040888963407)) / 35184372088832)) 255,s0_1,wrap64 ((wrap64 (s0_2 * 6364136223846793005)) + 1442695040888963407)))
set_option maxHeartbeats 8000000 in
set_option maxRecDepth 100000 in
theorem spec_l1Byte.calls (g : Nat) (s0_0 : List Int) (s0_1 : Int) (s0_2 : Int) (r1 : Int) (r2 : Int) (r3 : Int) (w0 w : World) (hI : IsS82 w0 w g s0_0 s0_1 s0_2) (hB : Below w0.heap.size w0 w) (h : spec_l1Byte.f s0_0 s0_1 s0_2 = some (r1,r2,r3)) :
  Calls Tryz.prog 88 #[.pointer (some ⟨g,0,none⟩)] w fun e w'=>e = .returned (.int .i64 r1) ∧ IsS82 w0 w' g s0_0 r2 r3 ∧ Below w0.heap.size w0 w' ∧ KeepBut w w' g none:=by
 have HI0:=Aside0.mk hI
 have HK:=Aside0.mk (KeepBut.refl w g none)
 have HL:=Aside0.mk hB.size
 clear hI
 have HW0:=Aside0.mk hB.size
 have HB:=Aside0.mk hB
 clear hB
 have H : (if s0_1 < (s0_0.length : Int) then (if 0 ≤ s0_1 then (some (Go.bits .and .i64 (wrap64 ((Go.bits .and .i64 (Go.bits .xor .i64 ((wrap64 ((wrap64 (s0_2 * 6364136223846793005)) + 1442695040888963407)) / 8589934592) ((wrap64 ((wrap64 (s0_2 * 6364136223846793005)) + 1442695040888963407)) / 35184372088832)) 255) + (wrap64 (rd s0_0 s0_1)))) 255,wrap64 (s0_1 + 1),wrap64 ((wrap64 (s0_2 * 6364136223846793005)) + 1442695040888963407))) else (none)) else (some (Go.bits .and .i64 (Go.bits .xor .i64 ((wrap64 ((wrap64 (s0_2 * 6364136223846793005)) + 1442695040888963407)) / 8589934592) ((wrap64 ((wrap64 (s0_2 * 6364136223846793005)) + 1442695040888963407)) / 35184372088832)) 255,s0_1,wrap64 ((wrap64 (s0_2 * 6364136223846793005)) + 1442695040888963407)))) = some (r1,r2,r3):=h
 clear h
 by_cases c2 : s0_1 < (s0_0.length : Int)
 ·rw [if_pos c2] at H
  have c2b0 : decide (s0_1 < (s0_0.length : Int)) = true:=decide_eq_true c2
  clear c2
  by_cases c3 : 0 ≤ s0_1
  ·rw [if_pos c3] at H
   have c3b0 : decide (0 ≤ s0_1) = true:=decide_eq_true c3
   clear c3
   simp only [Option.some.injEq,Prod.mk.injEq] at H
   obtain ⟨rfl,rfl,rfl⟩:=H
   obtain ⟨ASz4_0,cSz4_0,HGz4,hgz4,HSz4_0⟩:=HI0.out
   have hcz4_0:=cellS82_0 HGz4
   have hcz4_1:=cellS82_1 HGz4
   have hcz4_2:=cellS82_2 HGz4
   have hfz4_1:=blk_frozen HGz4 1
   have hfz4_2:=blk_frozen HGz4 2
   clear HGz4 hgz4
   have p104 : 0 ≤ (s0_1 : Int):=of_decide_eq_true (by first|(with_reducible assumption)|assumption)
   have q104 : s0_1 < (s0_0.length : Int):=of_decide_eq_true (by first|(with_reducible assumption)|assumption)
   obtain ⟨ad104,e104,hx104_0⟩:=Kd.at_int HSz4_0 s0_1 p104 q104
   cases e104
   have hn104_0 : ad104.block ≠ g:=Nat.ne_of_lt (Nat.lt_of_lt_of_le (by have:=World.block_lt_of_cell? _ _ hx104_0;first|rwa [add_block] at this|exact this) (IsS82.ge HI0.out))
   replace hx104_0:=pw_cell_below HB.out hx104_0
   replace hx104_0:=(cell_far (p:=⟨g,2,none⟩) (by first|(rw [add_block];exact hn104_0)|(show (Addr.add _ _).block ≠ _;rw [add_block];exact hn104_0)|exact hn104_0) (.int .i64 (wrap64 ((wrap64 (s0_2 * 6364136223846793005)) + 1442695040888963407)))).trans hx104_0
   (try have hy104_0:=fun (n_ : Nat)=>(show (((w.drewN n_).setCell ⟨g,2,none⟩ (.int .i64 (wrap64 ((wrap64 (s0_2 * 6364136223846793005)) + 1442695040888963407))))).cell? _ = some _ from hx104_0))
   clear hn104_0
   replace p104:=eq_true p104
   replace q104:=eq_true q104
   go_enter Tryz.func88,Tryz.ntmps88
   go_wp2
   repeat (go_quiet (fail);try go_wp2)
   go_ret
   exact ⟨by first|rfl|(simp [errW_none,errW_some] <;> rfl)|(simp [*,errW_none,errW_some] <;> rfl),by repeat (first|(with_reducible first|exact HI0.out|apply IsS82.alloc|apply IsS82.drewN|apply IsS82.drew|apply IsS82.set_1|apply IsS82.set_2)|exact HI0.out),by repeat (first|(with_reducible first|exact HB.out|apply below_alloc|apply pw_below_drewN|apply below_drew1|refine below_set ?_ (IsS82.ge HI0.out))|exact HB.out),by repeat (first|(with_reducible first|exact HK.out|apply KeepBut.set_|apply keep_drewN|apply keep_drew|apply keep_alloc)|exact HK.out)⟩
  ·rw [if_neg c3] at H
   exact absurd H (by simp)
 ·rw [if_neg c2] at H
  have c2b0 : decide (s0_1 < (s0_0.length : Int)) = false:=decide_eq_false c2
  clear c2
  simp only [Option.some.injEq,Prod.mk.injEq] at H
  obtain ⟨rfl,rfl,rfl⟩:=H
  obtain ⟨ASz5_0,cSz5_0,HGz5,hgz5,HSz5_0⟩:=HI0.out
  have hcz5_0:=cellS82_0 HGz5
  have hcz5_1:=cellS82_1 HGz5
  have hcz5_2:=cellS82_2 HGz5
  have hfz5_1:=blk_frozen HGz5 1
  have hfz5_2:=blk_frozen HGz5 2
  clear HGz5 hgz5
  go_enter Tryz.func88,Tryz.ntmps88
  go_wp2
  repeat (go_quiet (fail);try go_wp2)
  go_ret
  exact ⟨by first|rfl|(simp [errW_none,errW_some] <;> rfl)|(simp [*,errW_none,errW_some] <;> rfl),by repeat (first|(with_reducible first|exact HI0.out|apply IsS82.alloc|apply IsS82.drewN|apply IsS82.drew|apply IsS82.set_1|apply IsS82.set_2)|exact HI0.out),by repeat (first|(with_reducible first|exact HB.out|apply below_alloc|apply pw_below_drewN|apply below_drew1|refine below_set ?_ (IsS82.ge HI0.out))|exact HB.out),by repeat (first|(with_reducible first|exact HK.out|apply KeepBut.set_|apply keep_drewN|apply keep_drew|apply keep_alloc)|exact HK.out)⟩
def spec_l1Below.f (s0_0 : List Int) (s0_1 : Int) (s0_2 : Int) (a1 : Int) : Option (Int × Int × Int):=if a1 ≤ 0 then (some (0,s0_1,s0_2)) else (if a1 ≤ 256 then ((spec_l1Byte.f s0_0 s0_1 s0_2).bind fun bt105=>(if a1 = 0 then (none) else (some (Int.tmod bt105.1 a1,bt105.2.1,bt105.2.2)))) else ((spec_l1Byte.f s0_0 s0_1 s0_2).bind fun bt108=>((spec_l1Byte.f s0_0 bt108.2.1 bt108.2.2).bind fun bt111=>((spec_l1Byte.f s0_0 bt111.2.1 bt111.2.2).bind fun bt114=>((spec_l1Byte.f s0_0 bt114.2.1 bt114.2.2).bind fun bt117=>(if a1 = 0 then (none) else (some (Int.tmod (wrap64 ((wrap64 ((wrap64 ((wrap64 (bt108.1 * 16777216)) + (wrap64 (bt111.1 * 65536)))) + (wrap64 (bt114.1 * 256)))) + bt117.1)) a1,bt117.2.1,bt117.2.2))))))))
set_option maxHeartbeats 8000000 in
set_option maxRecDepth 100000 in
theorem spec_l1Below.calls (g : Nat) (s0_0 : List Int) (s0_1 : Int) (s0_2 : Int) (a1 : Int) (r1 : Int) (r2 : Int) (r3 : Int) (w0 w : World) (hI : IsS82 w0 w g s0_0 s0_1 s0_2) (hB : Below w0.heap.size w0 w) (h : spec_l1Below.f s0_0 s0_1 s0_2 a1 = some (r1,r2,r3)) :
  Calls Tryz.prog 59 #[.pointer (some ⟨g,0,none⟩),.int .i64 a1] w fun e w'=>e = .returned (.int .i64 r1) ∧ IsS82 w0 w' g s0_0 r2 r3 ∧ Below w0.heap.size w0 w' ∧ KeepBut w w' g none:=by
 have HI0:=Aside0.mk hI
 have HK:=Aside0.mk (KeepBut.refl w g none)
 have HL:=Aside0.mk hB.size
 clear hI
 have HW0:=Aside0.mk hB.size
 have HB:=Aside0.mk hB
 clear hB
 have H : (if a1 ≤ 0 then (some (0,s0_1,s0_2)) else (if a1 ≤ 256 then ((spec_l1Byte.f s0_0 s0_1 s0_2).bind fun bt105=>(if a1 = 0 then (none) else (some (Int.tmod bt105.1 a1,bt105.2.1,bt105.2.2)))) else ((spec_l1Byte.f s0_0 s0_1 s0_2).bind fun bt108=>((spec_l1Byte.f s0_0 bt108.2.1 bt108.2.2).bind fun bt111=>((spec_l1Byte.f s0_0 bt111.2.1 bt111.2.2).bind fun bt114=>((spec_l1Byte.f s0_0 bt114.2.1 bt114.2.2).bind fun bt117=>(if a1 = 0 then (none) else (some (Int.tmod (wrap64 ((wrap64 ((wrap64 ((wrap64 (bt108.1 * 16777216)) + (wrap64 (bt111.1 * 65536)))) + (wrap64 (bt114.1 * 256)))) + bt117.1)) a1,bt117.2.1,bt117.2.2))))))))) = some (r1,r2,r3):=h
 clear h
 by_cases c3 : a1 ≤ 0
 ·rw [if_pos c3] at H
  have c3b0 : decide (a1 ≤ 0) = true:=decide_eq_true c3
  clear c3
  simp only [Option.some.injEq,Prod.mk.injEq] at H
  obtain ⟨rfl,rfl,rfl⟩:=H
  go_enter Tryz.func59,Tryz.ntmps59
  go_wp2
  go_ret
  exact ⟨by first|rfl|(simp [errW_none,errW_some] <;> rfl)|(simp [*,errW_none,errW_some] <;> rfl),by repeat (first|(with_reducible first|exact HI0.out|apply IsS82.alloc|apply IsS82.drewN|apply IsS82.drew|apply IsS82.set_1|apply IsS82.set_2)|exact HI0.out),by repeat (first|(with_reducible first|exact HB.out|apply below_alloc|apply pw_below_drewN|apply below_drew1|refine below_set ?_ (IsS82.ge HI0.out))|exact HB.out),by repeat (first|(with_reducible first|exact HK.out|apply KeepBut.set_|apply keep_drewN|apply keep_drew|apply keep_alloc)|exact HK.out)⟩
 ·rw [if_neg c3] at H
  have c3b0 : decide (a1 ≤ 0) = false:=decide_eq_false c3
  clear c3
  by_cases c4 : a1 ≤ 256
  ·rw [if_pos c4] at H
   have c4b0 : decide (a1 ≤ 256) = true:=decide_eq_true c4
   clear c4
   replace H:=Option.bind_eq_some_iff.mp H
   obtain ⟨⟨t105,t106,t107⟩,A50,H⟩:=H
   replace H : (if a1 = 0 then (none) else (some (Int.tmod t105 a1,t106,t107))) = some (r1,r2,r3):=H
   have A5:=Aside0.mk A50
   clear A50
   by_cases c6 : a1 = 0
   ·rw [if_pos c6] at H
    exact absurd H (by simp)
   ·rw [if_neg c6] at H
    have c6b0 : (a1 == 0) = false:=beq_eq_false_iff_ne.mpr c6
    have c6b1 : (a1 != 0) = true:=bne_iff_ne.mpr c6
    simp only [Option.some.injEq,Prod.mk.injEq] at H
    obtain ⟨rfl,rfl,rfl⟩:=H
    go_enter Tryz.func59,Tryz.ntmps59
    go_wp2_with (first|((with_reducible refine gate_callee (f:=88) rfl ?_);refine goesL_ (some 14) rfl rfl Tryz.func88 (by kernel_rfl) rfl #[.pointer (some ⟨g,0,none⟩)] rfl (by (try simp only [List.map_toArray,List.map_cons,List.map_nil]);first|done|rfl|(simp only [List.length_drop,List.length_take];rfl)) ?_;(with_reducible refine (spec_l1Byte.calls g s0_0 s0_1 s0_2 t105 t106 t107 w0 _ ?side1 ?side2 A5.out).mono ?_);(case side1=>repeat (first|(with_reducible first|exact HI0.out|apply IsS82.alloc|apply IsS82.drewN|apply IsS82.drew|apply IsS82.set_1|apply IsS82.set_2)|exact HI0.out));(case side2=>repeat (first|(with_reducible first|exact HB.out|apply below_alloc|apply pw_below_drewN|apply below_drew1|refine below_set ?_ (IsS82.ge HI0.out))|exact HB.out));rintro e w7 ⟨rfl,hi,hb,hk⟩;refine ⟨_,rfl,?_⟩;have n0_:=Aside0.mk (KeepBut.trans (by repeat (first|(with_reducible first|exact HK.out|apply KeepBut.set_|apply keep_drewN|apply keep_drew|apply keep_alloc)|exact HK.out)) hk (.inl rfl));have n1_:=Aside0.mk (hb);have n2_:=Aside0.mk (hi);clear HK;clear HB;clear HI0;have HK:=n0_;have HB:=n1_;have HI0:=n2_;clear n0_ n1_ n2_;(try clear hb);(try clear hb2);(try clear hk);(try clear hi)))
    go_ret
    exact ⟨by first|rfl|(simp [errW_none,errW_some] <;> rfl)|(simp [*,errW_none,errW_some] <;> rfl),by repeat (first|(with_reducible first|exact HI0.out|apply IsS82.alloc|apply IsS82.drewN|apply IsS82.drew|apply IsS82.set_1|apply IsS82.set_2)|exact HI0.out),by repeat (first|(with_reducible first|exact HB.out|apply below_alloc|apply pw_below_drewN|apply below_drew1|refine below_set ?_ (IsS82.ge HI0.out))|exact HB.out),by repeat (first|(with_reducible first|exact HK.out|apply KeepBut.set_|apply keep_drewN|apply keep_drew|apply keep_alloc)|exact HK.out)⟩
  ·rw [if_neg c4] at H
   have c4b0 : decide (a1 ≤ 256) = false:=decide_eq_false c4
   clear c4
   replace H:=Option.bind_eq_some_iff.mp H
   obtain ⟨⟨t108,t109,t110⟩,A80,H⟩:=H
   replace H : ((spec_l1Byte.f s0_0 t109 t110).bind fun bt111=>((spec_l1Byte.f s0_0 bt111.2.1 bt111.2.2).bind fun bt114=>((spec_l1Byte.f s0_0 bt114.2.1 bt114.2.2).bind fun bt117=>(if a1 = 0 then (none) else (some (Int.tmod (wrap64 ((wrap64 ((wrap64 ((wrap64 (t108 * 16777216)) + (wrap64 (bt111.1 * 65536)))) + (wrap64 (bt114.1 * 256)))) + bt117.1)) a1,bt117.2.1,bt117.2.2)))))) = some (r1,r2,r3):=H
   have A8:=Aside0.mk A80
   clear A80
   replace H:=Option.bind_eq_some_iff.mp H
   obtain ⟨⟨t111,t112,t113⟩,A90,H⟩:=H
   replace H : ((spec_l1Byte.f s0_0 t112 t113).bind fun bt114=>((spec_l1Byte.f s0_0 bt114.2.1 bt114.2.2).bind fun bt117=>(if a1 = 0 then (none) else (some (Int.tmod (wrap64 ((wrap64 ((wrap64 ((wrap64 (t108 * 16777216)) + (wrap64 (t111 * 65536)))) + (wrap64 (bt114.1 * 256)))) + bt117.1)) a1,bt117.2.1,bt117.2.2))))) = some (r1,r2,r3):=H
   have A9:=Aside0.mk A90
   clear A90
   replace H:=Option.bind_eq_some_iff.mp H
   obtain ⟨⟨t114,t115,t116⟩,A100,H⟩:=H
   replace H : ((spec_l1Byte.f s0_0 t115 t116).bind fun bt117=>(if a1 = 0 then (none) else (some (Int.tmod (wrap64 ((wrap64 ((wrap64 ((wrap64 (t108 * 16777216)) + (wrap64 (t111 * 65536)))) + (wrap64 (t114 * 256)))) + bt117.1)) a1,bt117.2.1,bt117.2.2)))) = some (r1,r2,r3):=H
   have A10:=Aside0.mk A100
   clear A100
   replace H:=Option.bind_eq_some_iff.mp H
   obtain ⟨⟨t117,t118,t119⟩,A110,H⟩:=H
   replace H : (if a1 = 0 then (none) else (some (Int.tmod (wrap64 ((wrap64 ((wrap64 ((wrap64 (t108 * 16777216)) + (wrap64 (t111 * 65536)))) + (wrap64 (t114 * 256)))) + t117)) a1,t118,t119))) = some (r1,r2,r3):=H
   have A11:=Aside0.mk A110
   clear A110
   by_cases c12 : a1 = 0
   ·rw [if_pos c12] at H
    exact absurd H (by simp)
   ·rw [if_neg c12] at H
    have c12b0 : (a1 == 0) = false:=beq_eq_false_iff_ne.mpr c12
    have c12b1 : (a1 != 0) = true:=bne_iff_ne.mpr c12
    simp only [Option.some.injEq,Prod.mk.injEq] at H
    obtain ⟨rfl,rfl,rfl⟩:=H
    go_enter Tryz.func59,Tryz.ntmps59
    go_wp2_with (first|((with_reducible refine gate_callee (f:=88) rfl ?_);refine goesL_ (some 18) rfl rfl Tryz.func88 (by kernel_rfl) rfl #[.pointer (some ⟨g,0,none⟩)] rfl (by (try simp only [List.map_toArray,List.map_cons,List.map_nil]);first|done|rfl|(simp only [List.length_drop,List.length_take];rfl)) ?_;(with_reducible refine (spec_l1Byte.calls g s0_0 s0_1 s0_2 t108 t109 t110 w0 _ ?side1 ?side2 A8.out).mono ?_);(case side1=>repeat (first|(with_reducible first|exact HI0.out|apply IsS82.alloc|apply IsS82.drewN|apply IsS82.drew|apply IsS82.set_1|apply IsS82.set_2)|exact HI0.out));(case side2=>repeat (first|(with_reducible first|exact HB.out|apply below_alloc|apply pw_below_drewN|apply below_drew1|refine below_set ?_ (IsS82.ge HI0.out))|exact HB.out));rintro e w13 ⟨rfl,hi,hb,hk⟩;refine ⟨_,rfl,?_⟩;have n0_:=Aside0.mk (KeepBut.trans (by repeat (first|(with_reducible first|exact HK.out|apply KeepBut.set_|apply keep_drewN|apply keep_drew|apply keep_alloc)|exact HK.out)) hk (.inl rfl));have n1_:=Aside0.mk (hb);have n2_:=Aside0.mk (hi);clear HK;clear HB;clear HI0;have HK:=n0_;have HB:=n1_;have HI0:=n2_;clear n0_ n1_ n2_;(try clear hb);(try clear hb2);(try clear hk);(try clear hi))|((with_reducible refine gate_callee (f:=88) rfl ?_);refine goesL_ (some 20) rfl rfl Tryz.func88 (by kernel_rfl) rfl #[.pointer (some ⟨g,0,none⟩)] rfl (by (try simp only [List.map_toArray,List.map_cons,List.map_nil]);first|done|rfl|(simp only [List.length_drop,List.length_take];rfl)) ?_;(with_reducible refine (spec_l1Byte.calls g s0_0 t109 t110 t111 t112 t113 w0 _ ?side1 ?side2 A9.out).mono ?_);(case side1=>repeat (first|(with_reducible first|exact HI0.out|apply IsS82.alloc|apply IsS82.drewN|apply IsS82.drew|apply IsS82.set_1|apply IsS82.set_2)|exact HI0.out));(case side2=>repeat (first|(with_reducible first|exact HB.out|apply below_alloc|apply pw_below_drewN|apply below_drew1|refine below_set ?_ (IsS82.ge HI0.out))|exact HB.out));rintro e w14 ⟨rfl,hi,hb,hk⟩;refine ⟨_,rfl,?_⟩;have n0_:=Aside0.mk (KeepBut.trans (by repeat (first|(with_reducible first|exact HK.out|apply KeepBut.set_|apply keep_drewN|apply keep_drew|apply keep_alloc)|exact HK.out)) hk (.inl rfl));have n1_:=Aside0.mk (hb);have n2_:=Aside0.mk (hi);clear HK;clear HB;clear HI0;have HK:=n0_;have HB:=n1_;have HI0:=n2_;clear n0_ n1_ n2_;(try clear hb);(try clear hb2);(try clear hk);(try clear hi))|((with_reducible refine gate_callee (f:=88) rfl ?_);refine goesL_ (some 22) rfl rfl Tryz.func88 (by kernel_rfl) rfl #[.pointer (some ⟨g,0,none⟩)] rfl (by (try simp only [List.map_toArray,List.map_cons,List.map_nil]);first|done|rfl|(simp only [List.length_drop,List.length_take];rfl)) ?_;(with_reducible refine (spec_l1Byte.calls g s0_0 t112 t113 t114 t115 t116 w0 _ ?side1 ?side2 A10.out).mono ?_);(case side1=>repeat (first|(with_reducible first|exact HI0.out|apply IsS82.alloc|apply IsS82.drewN|apply IsS82.drew|apply IsS82.set_1|apply IsS82.set_2)|exact HI0.out));(case side2=>repeat (first|(with_reducible first|exact HB.out|apply below_alloc|apply pw_below_drewN|apply below_drew1|refine below_set ?_ (IsS82.ge HI0.out))|exact HB.out));rintro e w15 ⟨rfl,hi,hb,hk⟩;refine ⟨_,rfl,?_⟩;have n0_:=Aside0.mk (KeepBut.trans (by repeat (first|(with_reducible first|exact HK.out|apply KeepBut.set_|apply keep_drewN|apply keep_drew|apply keep_alloc)|exact HK.out)) hk (.inl rfl));have n1_:=Aside0.mk (hb);have n2_:=Aside0.mk (hi);clear HK;clear HB;clear HI0;have HK:=n0_;have HB:=n1_;have HI0:=n2_;clear n0_ n1_ n2_;(try clear hb);(try clear hb2);(try clear hk);(try clear hi))|((with_reducible refine gate_callee (f:=88) rfl ?_);refine goesL_ (some 24) rfl rfl Tryz.func88 (by kernel_rfl) rfl #[.pointer (some ⟨g,0,none⟩)] rfl (by (try simp only [List.map_toArray,List.map_cons,List.map_nil]);first|done|rfl|(simp only [List.length_drop,List.length_take];rfl)) ?_;(with_reducible refine (spec_l1Byte.calls g s0_0 t115 t116 t117 t118 t119 w0 _ ?side1 ?side2 A11.out).mono ?_);(case side1=>repeat (first|(with_reducible first|exact HI0.out|apply IsS82.alloc|apply IsS82.drewN|apply IsS82.drew|apply IsS82.set_1|apply IsS82.set_2)|exact HI0.out));(case side2=>repeat (first|(with_reducible first|exact HB.out|apply below_alloc|apply pw_below_drewN|apply below_drew1|refine below_set ?_ (IsS82.ge HI0.out))|exact HB.out));rintro e w16 ⟨rfl,hi,hb,hk⟩;refine ⟨_,rfl,?_⟩;have n0_:=Aside0.mk (KeepBut.trans (by repeat (first|(with_reducible first|exact HK.out|apply KeepBut.set_|apply keep_drewN|apply keep_drew|apply keep_alloc)|exact HK.out)) hk (.inl rfl));have n1_:=Aside0.mk (hb);have n2_:=Aside0.mk (hi);clear HK;clear HB;clear HI0;have HK:=n0_;have HB:=n1_;have HI0:=n2_;clear n0_ n1_ n2_;(try clear hb);(try clear hb2);(try clear hk);(try clear hi)))
    go_ret
    exact ⟨by first|rfl|(simp [errW_none,errW_some] <;> rfl)|(simp [*,errW_none,errW_some] <;> rfl),by repeat (first|(with_reducible first|exact HI0.out|apply IsS82.alloc|apply IsS82.drewN|apply IsS82.drew|apply IsS82.set_1|apply IsS82.set_2)|exact HI0.out),by repeat (first|(with_reducible first|exact HB.out|apply below_alloc|apply pw_below_drewN|apply below_drew1|refine below_set ?_ (IsS82.ge HI0.out))|exact HB.out),by repeat (first|(with_reducible first|exact HK.out|apply KeepBut.set_|apply keep_drewN|apply keep_drew|apply keep_alloc)|exact HK.out)⟩
def spec_l1PickInt.f (s0_0 : List Int) (s0_1 : Int) (s0_2 : Int) (l1 : List Int) : Option (Int × Int × Int):=(spec_l1Below.f s0_0 s0_1 s0_2 (l1.length : Int)).bind fun bt120=>(if 0 ≤ bt120.1 then (if bt120.1 < (l1.length : Int) then (some (rd l1 bt120.1,bt120.2.1,bt120.2.2)) else (none)) else (none))
set_option maxHeartbeats 8000000 in
set_option maxRecDepth 100000 in
theorem spec_l1PickInt.calls (g : Nat) (s0_0 : List Int) (s0_1 : Int) (s0_2 : Int) (A1 : Option Addr) (c1 : Nat) (l1 : List Int) (r1 : Int) (r2 : Int) (r3 : Int) (w0 w : World) (hI : IsS82 w0 w g s0_0 s0_1 s0_2) (hB : Below w0.heap.size w0 w) (hr1 : Kd.C (Kd.int .i64) w A1 l1.length l1) (hc1 : l1.length ≤ c1) (hf1 : ∀ ad,A1 = some ad → 0 < l1.length → ad.block ≠ g) (h : spec_l1PickInt.f s0_0 s0_1 s0_2 l1 = some (r1,r2,r3)) :
  Calls Tryz.prog 23 #[.pointer (some ⟨g,0,none⟩),.slice A1 l1.length c1] w fun e w'=>e = .returned (.int .i64 r1) ∧ IsS82 w0 w' g s0_0 r2 r3 ∧ Below w0.heap.size w0 w' ∧ KeepBut w w' g none:=by
 have HR1:=Aside0.mk hr1
 have HC1:=Aside0.mk hc1
 clear hr1 hc1
 have HI0:=Aside0.mk hI
 have HK:=Aside0.mk (KeepBut.refl w g none)
 have HL:=Aside0.mk hB.size
 clear hI
 have HW0:=Aside0.mk hB.size
 have HB:=Aside0.mk hB
 clear hB
 have H : ((spec_l1Below.f s0_0 s0_1 s0_2 (l1.length : Int)).bind fun bt120=>(if 0 ≤ bt120.1 then (if bt120.1 < (l1.length : Int) then (some (rd l1 bt120.1,bt120.2.1,bt120.2.2)) else (none)) else (none))) = some (r1,r2,r3):=h
 clear h
 replace H:=Option.bind_eq_some_iff.mp H
 obtain ⟨⟨t120,t121,t122⟩,A30,H⟩:=H
 replace H : (if 0 ≤ t120 then (if t120 < (l1.length : Int) then (some (rd l1 t120,t121,t122)) else (none)) else (none)) = some (r1,r2,r3):=H
 have A3:=Aside0.mk A30
 clear A30
 by_cases c4 : 0 ≤ t120
 ·rw [if_pos c4] at H
  have c4b0 : decide (0 ≤ t120) = true:=decide_eq_true c4
  clear c4
  by_cases c5 : t120 < (l1.length : Int)
  ·rw [if_pos c5] at H
   have c5b0 : decide (t120 < (l1.length : Int)) = true:=decide_eq_true c5
   clear c5
   simp only [Option.some.injEq,Prod.mk.injEq] at H
   obtain ⟨rfl,rfl,rfl⟩:=H
   go_enter Tryz.func23,Tryz.ntmps23
   go_wp2_with (first|((with_reducible refine gate_callee (f:=59) rfl ?_);refine goesL_ (some 9) rfl rfl Tryz.func59 (by kernel_rfl) rfl #[.pointer (some ⟨g,0,none⟩),.int .i64 (l1.length : Int)] rfl (by (try simp only [List.map_toArray,List.map_cons,List.map_nil]);first|done|rfl|(simp only [List.length_drop,List.length_take];rfl)) ?_;(with_reducible refine (spec_l1Below.calls g s0_0 s0_1 s0_2 (l1.length : Int) t120 t121 t122 w0 _ ?side1 ?side2 A3.out).mono ?_);(case side1=>repeat (first|(with_reducible first|exact HI0.out|apply IsS82.alloc|apply IsS82.drewN|apply IsS82.drew|apply IsS82.set_1|apply IsS82.set_2)|exact HI0.out));(case side2=>repeat (first|(with_reducible first|exact HB.out|apply below_alloc|apply pw_below_drewN|apply below_drew1|refine below_set ?_ (IsS82.ge HI0.out))|exact HB.out));rintro e w6 ⟨rfl,hi,hb,hk⟩;refine ⟨_,rfl,?_⟩;have n0_:=Aside0.mk (KeepBut.trans (by repeat (first|(with_reducible first|exact HK.out|apply KeepBut.set_|apply keep_drewN|apply keep_drew|apply keep_alloc)|exact HK.out)) hk (.inl rfl));have n1_:=Aside0.mk (hb);have n2_:=Aside0.mk (hi);clear HK;clear HB;clear HI0;have HK:=n0_;have HB:=n1_;have HI0:=n2_;clear n0_ n1_ n2_;(try clear hb);(try clear hb2);(try clear hk);(try clear hi);have p123 : 0 ≤ (t120 : Int):=of_decide_eq_true (by first|(with_reducible assumption)|assumption);have q123 : t120 < (l1.length : Int):=of_decide_eq_true (by first|(with_reducible assumption)|assumption);obtain ⟨ad123,e123,hx123_0⟩:=Kd.at_int HR1.out t120 p123 q123;cases e123;replace hx123_0:=keep_cell HK.out hx123_0 (by first|(rw [add_block];exact hf1 _ rfl (by omega))|exact hf1 _ rfl (by omega)|exact hf1 ad123 rfl (by omega));replace p123:=eq_true p123;replace q123:=eq_true q123))
   go_ret
   exact ⟨by first|rfl|(simp [errW_none,errW_some] <;> rfl)|(simp [*,errW_none,errW_some] <;> rfl),by repeat (first|(with_reducible first|exact HI0.out|apply IsS82.alloc|apply IsS82.drewN|apply IsS82.drew|apply IsS82.set_1|apply IsS82.set_2)|exact HI0.out),by repeat (first|(with_reducible first|exact HB.out|apply below_alloc|apply pw_below_drewN|apply below_drew1|refine below_set ?_ (IsS82.ge HI0.out))|exact HB.out),by repeat (first|(with_reducible first|exact HK.out|apply KeepBut.set_|apply keep_drewN|apply keep_drew|apply keep_alloc)|exact HK.out)⟩
  ·rw [if_neg c5] at H
   exact absurd H (by simp)
 ·rw [if_neg c4] at H
  exact absurd H (by simp)
def spec_l1text.f (s0_0 : List Int) (s0_1 : Int) (s0_2 : Int) (l1 : List ByteArray) : Option (ByteArray × Int × Int):=(spec_l1Below.f s0_0 s0_1 s0_2 (l1.length : Int)).bind fun bt124=>(if 0 ≤ bt124.1 then (if bt124.1 < (l1.length : Int) then (some (rdOf ByteArray.empty l1 bt124.1,bt124.2.1,bt124.2.2)) else (none)) else (none))
set_option maxHeartbeats 8000000 in
set_option maxRecDepth 100000 in
theorem spec_l1text.calls (g : Nat) (s0_0 : List Int) (s0_1 : Int) (s0_2 : Int) (A1 : Option Addr) (c1 : Nat) (l1 : List ByteArray) (r1 : ByteArray) (r2 : Int) (r3 : Int) (w0 w : World) (hI : IsS82 w0 w g s0_0 s0_1 s0_2) (hB : Below w0.heap.size w0 w) (hr1 : Kd.C Kd.string w A1 l1.length l1) (hc1 : l1.length ≤ c1) (hf1 : ∀ ad,A1 = some ad → 0 < l1.length → ad.block ≠ g) (h : spec_l1text.f s0_0 s0_1 s0_2 l1 = some (r1,r2,r3)) :
  Calls Tryz.prog 86 #[.pointer (some ⟨g,0,none⟩),.slice A1 l1.length c1] w fun e w'=>e = .returned (.string r1) ∧ IsS82 w0 w' g s0_0 r2 r3 ∧ Below w0.heap.size w0 w' ∧ KeepBut w w' g none:=by
 have HR1:=Aside0.mk hr1
 have HC1:=Aside0.mk hc1
 clear hr1 hc1
 have HI0:=Aside0.mk hI
 have HK:=Aside0.mk (KeepBut.refl w g none)
 have HL:=Aside0.mk hB.size
 clear hI
 have HW0:=Aside0.mk hB.size
 have HB:=Aside0.mk hB
 clear hB
 have H : ((spec_l1Below.f s0_0 s0_1 s0_2 (l1.length : Int)).bind fun bt124=>(if 0 ≤ bt124.1 then (if bt124.1 < (l1.length : Int) then (some (rdOf ByteArray.empty l1 bt124.1,bt124.2.1,bt124.2.2)) else (none)) else (none))) = some (r1,r2,r3):=h
 clear h
 replace H:=Option.bind_eq_some_iff.mp H
 obtain ⟨⟨t124,t125,t126⟩,A30,H⟩:=H
 replace H : (if 0 ≤ t124 then (if t124 < (l1.length : Int) then (some (rdOf ByteArray.empty l1 t124,t125,t126)) else (none)) else (none)) = some (r1,r2,r3):=H
 have A3:=Aside0.mk A30
 clear A30
 by_cases c4 : 0 ≤ t124
 ·rw [if_pos c4] at H
  have c4b0 : decide (0 ≤ t124) = true:=decide_eq_true c4
  clear c4
  by_cases c5 : t124 < (l1.length : Int)
  ·rw [if_pos c5] at H
   have c5b0 : decide (t124 < (l1.length : Int)) = true:=decide_eq_true c5
   clear c5
   simp only [Option.some.injEq,Prod.mk.injEq] at H
   obtain ⟨rfl,rfl,rfl⟩:=H
   go_enter Tryz.func86,Tryz.ntmps86
   go_wp2_with (first|((with_reducible refine gate_callee (f:=59) rfl ?_);refine goesL_ (some 9) rfl rfl Tryz.func59 (by kernel_rfl) rfl #[.pointer (some ⟨g,0,none⟩),.int .i64 (l1.length : Int)] rfl (by (try simp only [List.map_toArray,List.map_cons,List.map_nil]);first|done|rfl|(simp only [List.length_drop,List.length_take];rfl)) ?_;(with_reducible refine (spec_l1Below.calls g s0_0 s0_1 s0_2 (l1.length : Int) t124 t125 t126 w0 _ ?side1 ?side2 A3.out).mono ?_);(case side1=>repeat (first|(with_reducible first|exact HI0.out|apply IsS82.alloc|apply IsS82.drewN|apply IsS82.drew|apply IsS82.set_1|apply IsS82.set_2)|exact HI0.out));(case side2=>repeat (first|(with_reducible first|exact HB.out|apply below_alloc|apply pw_below_drewN|apply below_drew1|refine below_set ?_ (IsS82.ge HI0.out))|exact HB.out));rintro e w6 ⟨rfl,hi,hb,hk⟩;refine ⟨_,rfl,?_⟩;have n0_:=Aside0.mk (KeepBut.trans (by repeat (first|(with_reducible first|exact HK.out|apply KeepBut.set_|apply keep_drewN|apply keep_drew|apply keep_alloc)|exact HK.out)) hk (.inl rfl));have n1_:=Aside0.mk (hb);have n2_:=Aside0.mk (hi);clear HK;clear HB;clear HI0;have HK:=n0_;have HB:=n1_;have HI0:=n2_;clear n0_ n1_ n2_;(try clear hb);(try clear hb2);(try clear hk);(try clear hi);have p127 : 0 ≤ (t124 : Int):=of_decide_eq_true (by first|(with_reducible assumption)|assumption);have q127 : t124 < (l1.length : Int):=of_decide_eq_true (by first|(with_reducible assumption)|assumption);obtain ⟨ad127,e127,hx127_0⟩:=Kd.at_string HR1.out t124 p127 q127;cases e127;replace hx127_0:=keep_cell HK.out hx127_0 (by first|(rw [add_block];exact hf1 _ rfl (by omega))|exact hf1 _ rfl (by omega)|exact hf1 ad127 rfl (by omega));replace p127:=eq_true p127;replace q127:=eq_true q127))
   go_ret
   exact ⟨by first|rfl|(simp [errW_none,errW_some] <;> rfl)|(simp [*,errW_none,errW_some] <;> rfl),by repeat (first|(with_reducible first|exact HI0.out|apply IsS82.alloc|apply IsS82.drewN|apply IsS82.drew|apply IsS82.set_1|apply IsS82.set_2)|exact HI0.out),by repeat (first|(with_reducible first|exact HB.out|apply below_alloc|apply pw_below_drewN|apply below_drew1|refine below_set ?_ (IsS82.ge HI0.out))|exact HB.out),by repeat (first|(with_reducible first|exact HK.out|apply KeepBut.set_|apply keep_drewN|apply keep_drew|apply keep_alloc)|exact HK.out)⟩
  ·rw [if_neg c5] at H
   exact absurd H (by simp)
 ·rw [if_neg c4] at H
  exact absurd H (by simp)
def spec_l1digit.f (a0 : Int) : Option (Bool):=if a0 ≥ 48 then (some (decide (a0 ≤ 57))) else (some false)
set_option maxHeartbeats 8000000 in
set_option maxRecDepth 100000 in
theorem spec_l1digit.calls (a0 : Int) (r : Bool) (w : World) (h : spec_l1digit.f a0 = some r) :
  Calls Tryz.prog 80 #[.int .u8 a0] w fun e w'=>e = .returned (.bool r) ∧ Drawn0 w w':=by
 have H : (if a0 ≥ 48 then (some (decide (a0 ≤ 57))) else (some false)) = some r:=h
 clear h
 by_cases c2 : a0 ≥ 48
 ·rw [if_pos c2] at H
  have c2b0 : decide (48 ≤ a0) = true:=decide_eq_true c2
  clear c2
  obtain rfl:=Option.some.inj H
  go_enter Tryz.func80,Tryz.ntmps80
  go_wp2
  go_ret
  exact ⟨by first|rfl|(simp;done)|(simp [*];done),by repeat (first|exact Drawn0.refl _|apply Drawn0.step)⟩
 ·rw [if_neg c2] at H
  have c2b0 : decide (48 ≤ a0) = false:=decide_eq_false c2
  clear c2
  obtain rfl:=Option.some.inj H
  go_enter Tryz.func80,Tryz.ntmps80
  go_wp2
  go_ret
  exact ⟨by first|rfl|(simp;done)|(simp [*];done),by repeat (first|exact Drawn0.refl _|apply Drawn0.step)⟩
def spec_l1white.f (a0 : Int) : Option (Bool):=if a0 = 32 then (some true) else (if a0 = 9 then (some true) else (some (a0 == 10)))
set_option maxHeartbeats 8000000 in
set_option maxRecDepth 100000 in
theorem spec_l1white.calls (a0 : Int) (r : Bool) (w : World) (h : spec_l1white.f a0 = some r) :
  Calls Tryz.prog 106 #[.int .u8 a0] w fun e w'=>e = .returned (.bool r) ∧ Drawn0 w w':=by
 have H : (if a0 = 32 then (some true) else (if a0 = 9 then (some true) else (some (a0 == 10)))) = some r:=h
 clear h
 by_cases c2 : a0 = 32
 ·rw [if_pos c2] at H
  have c2b0 : (a0 == 32) = true:=beq_iff_eq.mpr c2
  have c2b1 : (a0 != 32) = false:=bne_eq_false_iff_eq.mpr c2
  clear c2
  obtain rfl:=Option.some.inj H
  go_enter Tryz.func106,Tryz.ntmps106
  go_wp2
  go_ret
  exact ⟨by first|rfl|(simp;done)|(simp [*];done),by repeat (first|exact Drawn0.refl _|apply Drawn0.step)⟩
 ·rw [if_neg c2] at H
  have c2b0 : (a0 == 32) = false:=beq_eq_false_iff_ne.mpr c2
  have c2b1 : (a0 != 32) = true:=bne_iff_ne.mpr c2
  by_cases c3 : a0 = 9
  ·rw [if_pos c3] at H
   have c3b0 : (a0 == 9) = true:=beq_iff_eq.mpr c3
   have c3b1 : (a0 != 9) = false:=bne_eq_false_iff_eq.mpr c3
   clear c3
   obtain rfl:=Option.some.inj H
   go_enter Tryz.func106,Tryz.ntmps106
   go_wp2
   go_ret
   exact ⟨by first|rfl|(simp;done)|(simp [*];done),by repeat (first|exact Drawn0.refl _|apply Drawn0.step)⟩
  ·rw [if_neg c3] at H
   have c3b0 : (a0 == 9) = false:=beq_eq_false_iff_ne.mpr c3
   have c3b1 : (a0 != 9) = true:=bne_iff_ne.mpr c3
   obtain rfl:=Option.some.inj H
   go_enter Tryz.func106,Tryz.ntmps106
   go_wp2
   go_ret
   exact ⟨by first|rfl|(simp;done)|(simp [*];done),by repeat (first|exact Drawn0.refl _|apply Drawn0.step)⟩
def spec_l1skip.l0 : Nat → ByteArray → Int → Option (Int)
 | 0,_,_=>none
 | k + 1,x0,x1=>if x1 < (x0.size : Int) then (if 0 ≤ x1 then ((spec_l1white.f (bt x0 x1)).bind fun t128=>(if t128 = true then (spec_l1skip.l0 k x0 (wrap64 (x1 + 1))) else (some x1))) else (none)) else (some x1)
def spec_l1skip.f (k : Nat) (a0 : ByteArray) (a1 : Int) : Option (Int):=spec_l1skip.l0 k a0 a1
set_option maxHeartbeats 8000000 in
set_option maxRecDepth 100000 in
theorem spec_l1skip.calls (k : Nat) (a0 : ByteArray) (a1 : Int) (r : Int) (w : World) (h : spec_l1skip.f k a0 a1 = some r) :
  Calls Tryz.prog 91 #[.string a0,.int .i64 a1] w fun e w'=>e = .returned (.int .i64 r) ∧ Drawn0 w w':=by
 have H : (spec_l1skip.l0 k a0 a1) = some r:=h
 clear h
 have H':=Aside0.mk H
 clear H
 go_enter Tryz.func91,Tryz.ntmps91
 go_wp2
 go_loopg [1] k (fun kq v1 w'=>∃ (x1_1 : Int),v1 = .int .i64 x1_1 ∧ Aside0 (spec_l1skip.l0 kq a0 x1_1 = some r) ∧ Aside0 (kq ≤ k) ∧ Drawn0 w w')
 case atStart=>exact ⟨(a1),(by first|rfl|(simp;done)|(simp [*];done)),H',⟨Nat.le_refl _⟩,by repeat (first|exact Drawn0.refl _|apply Drawn0.step)⟩
 case round =>
  clear H'
  try clear p2
  obtain ⟨x1_1,rfl,HA,HK1,⟨m1,rfl⟩⟩:=hrel
  cases gk with
  | zero=>exact absurd HA.out (by simp [spec_l1skip.l0])
  | succ k1 =>
   have H:=HA.out
   clear HA
   simp only [spec_l1skip.l0] at H
   by_cases c3 : x1_1 < (a0.size : Int)
   ·rw [if_pos c3] at H
    have c3b0 : decide (x1_1 < (a0.size : Int)) = true:=decide_eq_true c3
    clear c3
    by_cases c4 : 0 ≤ x1_1
    ·rw [if_pos c4] at H
     have c4b0 : decide (0 ≤ x1_1) = true:=decide_eq_true c4
     clear c4
     replace H:=Option.bind_eq_some_iff.mp H
     obtain ⟨t128,A60,H⟩:=H
     replace H : (if t128 = true then (spec_l1skip.l0 k1 a0 (wrap64 (x1_1 + 1))) else (some x1_1)) = some r:=H
     have A6:=Aside0.mk A60
     clear A60
     by_cases c7 : t128 = true
     ·subst c7
      have H1 : (spec_l1skip.l0 k1 a0 (wrap64 (x1_1 + 1))) = some r:=by rw [if_pos rfl] at H;exact H
      clear H
      have H:=H1
      clear H1
      have H':=Aside0.mk H
      clear H
      have p5 : 0 ≤ (x1_1 : Int):=of_decide_eq_true (by first|(with_reducible assumption)|assumption)
      have q5 : x1_1 < (a0.size : Int):=of_decide_eq_true (by first|(with_reducible assumption)|assumption)
      have hx5:=bt_at a0 x1_1
      replace p5:=eq_true p5
      replace q5:=eq_true q5
      go_wp2_with (first|(go_at_call 106;(with_reducible refine (spec_l1white.calls (bt a0 x1_1) true _ A6.out).mono ?_);rintro e w' ⟨rfl,⟨nd,rfl⟩⟩))
      go_roundg k1
      case measure=>have:=HK1.out;omega
      case rel=>exact ⟨(wrap64 (x1_1 + 1)),(by first|rfl|(simp;done)|(simp [*];done)),H',⟨by have:=HK1.out;omega⟩,by repeat (first|exact Drawn0.refl _|apply Drawn0.step)⟩
     ·replace c7:=Bool.eq_false_iff.mpr c7
      subst c7
      have H1 : (some x1_1) = some r:=by rw [if_neg (show ¬ (false = true) by decide)] at H;exact H
      clear H
      have H:=H1
      clear H1
      obtain rfl:=Option.some.inj H
      have p5 : 0 ≤ (x1_1 : Int):=of_decide_eq_true (by first|(with_reducible assumption)|assumption)
      have q5 : x1_1 < (a0.size : Int):=of_decide_eq_true (by first|(with_reducible assumption)|assumption)
      have hx5:=bt_at a0 x1_1
      replace p5:=eq_true p5
      replace q5:=eq_true q5
      go_wp2_with (first|(go_at_call 106;(with_reducible refine (spec_l1white.calls (bt a0 x1_1) false _ A6.out).mono ?_);rintro e w' ⟨rfl,⟨nd,rfl⟩⟩))
      go_ret
      exact ⟨by first|rfl|(simp;done)|(simp [*];done),by repeat (first|exact Drawn0.refl _|apply Drawn0.step)⟩
    ·rw [if_neg c4] at H
     exact absurd H (by simp)
   ·rw [if_neg c3] at H
    have c3b0 : decide (x1_1 < (a0.size : Int)) = false:=decide_eq_false c3
    clear c3
    obtain rfl:=Option.some.inj H
    go_wp2
    go_ret
    exact ⟨by first|rfl|(simp;done)|(simp [*];done),by repeat (first|exact Drawn0.refl _|apply Drawn0.step)⟩
mutual
def spec_ReadDec.j0 : Nat → ByteArray → Int → Bool → Bool → Option (Int × Int)
 | 0,_,_,_,_=>none
 | k + 1,x0,x4,x5,x26=>if x26 = true then (if 0 ≤ x4 then (if x4 < (x0.size : Int) then (spec_ReadDec.j1 k x0 (wrap64 (x4 + 1)) ((bt x0 x4) == 45)) else (none)) else (none)) else (spec_ReadDec.j1 k x0 x4 x5)
def spec_ReadDec.j1 : Nat → ByteArray → Int → Bool → Option (Int × Int)
 | 0,_,_,_=>none
 | k + 1,x0,x4,x5=>spec_ReadDec.l0 k x0 x4 x5 0 0
def spec_ReadDec.l0 : Nat → ByteArray → Int → Bool → Int → Int → Option (Int × Int)
 | 0,_,_,_,_,_=>none
 | k + 1,x0,x4,x5,x6,x7=>if x4 < (x0.size : Int) then (if 0 ≤ x4 then ((spec_l1digit.f (bt x0 x4)).bind fun t130=>(spec_ReadDec.j3 k x0 x4 x5 x6 x7 t130)) else (none)) else (spec_ReadDec.j3 k x0 x4 x5 x6 x7 false)
def spec_ReadDec.j3 : Nat → ByteArray → Int → Bool → Int → Int → Bool → Option (Int × Int)
 | 0,_,_,_,_,_,_=>none
 | k + 1,x0,x4,x5,x6,x7,x42=>if x42 = true then (if 0 ≤ x4 then (if x4 < (x0.size : Int) then (if (wrap64 ((wrap64 (x6 * 10)) + ((((bt x0 x4) - 48) % 256) * 1000000))) > 9000000000000 then (spec_ReadDec.l0 k x0 (wrap64 (x4 + 1)) x5 9000000000001 (wrap64 (x7 + 1))) else (spec_ReadDec.l0 k x0 (wrap64 (x4 + 1)) x5 (wrap64 ((wrap64 (x6 * 10)) + ((((bt x0 x4) - 48) % 256) * 1000000))) (wrap64 (x7 + 1)))) else (none)) else (none)) else (if x4 < (x0.size : Int) then (if 0 ≤ x4 then (if (bt x0 x4) = 46 then (if x7 > 0 then (spec_ReadDec.j4 k x0 x4 x5 x6 x7 true) else (if (wrap64 (x4 + 1)) < (x0.size : Int) then (if 0 ≤ (wrap64 (x4 + 1)) then ((spec_l1digit.f (bt x0 (wrap64 (x4 + 1)))).bind fun t131=>(spec_ReadDec.j4 k x0 x4 x5 x6 x7 t131)) else (none)) else (spec_ReadDec.j4 k x0 x4 x5 x6 x7 false))) else (spec_ReadDec.j4 k x0 x4 x5 x6 x7 false)) else (none)) else (spec_ReadDec.j4 k x0 x4 x5 x6 x7 false))
def spec_ReadDec.j4 : Nat → ByteArray → Int → Bool → Int → Int → Bool → Option (Int × Int)
 | 0,_,_,_,_,_,_=>none
 | k + 1,x0,x4,x5,x6,x7,x85=>if x85 = true then (spec_ReadDec.l1 k x0 (wrap64 (x4 + 1)) x5 x6 x7 100000) else (spec_ReadDec.j6 k x4 x5 x6 x7)
def spec_ReadDec.j6 : Nat → Int → Bool → Int → Int → Option (Int × Int)
 | 0,_,_,_,_=>none
 | k + 1,x4,x5,x6,x7=>if x7 = 0 then (some (0,0)) else (if x6 > 9000000000000 then (if x5 = true then (some (-9000000000000,x4)) else (some (9000000000000,x4))) else (if x5 = true then (some (wrap64 (-x6),x4)) else (some (x6,x4))))
def spec_ReadDec.l1 : Nat → ByteArray → Int → Bool → Int → Int → Int → Option (Int × Int)
 | 0,_,_,_,_,_,_=>none
 | k + 1,x0,x4,x5,x6,x7,x8=>if x4 < (x0.size : Int) then (if 0 ≤ x4 then ((spec_l1digit.f (bt x0 x4)).bind fun t132=>(if t132 = true then (spec_ReadDec.l1 k x0 (wrap64 (x4 + 1)) x5 (wrap64 (x6 + (wrap64 ((((bt x0 x4) - 48) % 256) * x8)))) (wrap64 (x7 + 1)) (wrap64 (Int.tdiv x8 10))) else (spec_ReadDec.j6 k x4 x5 x6 x7))) else (none)) else (spec_ReadDec.j6 k x4 x5 x6 x7)
end
def spec_ReadDec.f (k : Nat) (a0 : ByteArray) : Option (Int × Int):=(spec_l1skip.f k a0 0).bind fun t129=>(if t129 < (a0.size : Int) then (if 0 ≤ t129 then (if (bt a0 t129) = 43 then (spec_ReadDec.j0 k a0 t129 false true) else (spec_ReadDec.j0 k a0 t129 false ((bt a0 t129) == 45))) else (none)) else (spec_ReadDec.j0 k a0 t129 false false))
set_option maxHeartbeats 8000000 in
set_option maxRecDepth 100000 in
theorem spec_ReadDec.calls (k : Nat) (a0 : ByteArray) (r1 : Int) (r2 : Int) (w : World) (h : spec_ReadDec.f k a0 = some (r1,r2)) :
  Calls Tryz.prog 69 #[.string a0] w fun e w'=>e = .returned (.tuple #[.int .i64 r1,.int .i64 r2]) ∧ Drawn0 w w':=by
 have H : ((spec_l1skip.f k a0 0).bind fun t129=>(if t129 < (a0.size : Int) then (if 0 ≤ t129 then (if (bt a0 t129) = 43 then (spec_ReadDec.j0 k a0 t129 false true) else (spec_ReadDec.j0 k a0 t129 false ((bt a0 t129) == 45))) else (none)) else (spec_ReadDec.j0 k a0 t129 false false))) = some (r1,r2):=h
 clear h
 replace H:=Option.bind_eq_some_iff.mp H
 obtain ⟨t129,A20,H⟩:=H
 replace H : (if t129 < (a0.size : Int) then (if 0 ≤ t129 then (if (bt a0 t129) = 43 then (spec_ReadDec.j0 k a0 t129 false true) else (spec_ReadDec.j0 k a0 t129 false ((bt a0 t129) == 45))) else (none)) else (spec_ReadDec.j0 k a0 t129 false false)) = some (r1,r2):=H
 have A2:=Aside0.mk A20
 clear A20
 have HC3:=Aside0.mk H
 clear H
 go_enter Tryz.func69,Tryz.ntmps69
 go_upto_region 3 with (first|((with_reducible refine gate_callee (f:=91) rfl ?_);refine goesL_ (some 10) rfl rfl Tryz.func91 (by kernel_rfl) rfl #[.string a0,.int .i64 0] rfl (by (try simp only [List.map_toArray,List.map_cons,List.map_nil]);first|done|rfl|(simp only [List.length_drop,List.length_take];rfl)) ?_;(with_reducible refine (spec_l1skip.calls k a0 0 t129 _ A2.out).mono ?_);rintro e w' ⟨rfl,⟨nd,rfl⟩⟩;refine ⟨_,rfl,?_⟩))
 (try simp only [Act.put,List.setIfInBounds_toArray,List.set_cons_zero,List.set_cons_succ])
 go_cut [26] (fun v26 wc=>∃ (kq : Nat) (x26_2 : Bool),v26 = .bool x26_2 ∧ Aside0 (spec_ReadDec.j0 kq a0 t129 false x26_2 = some (r1,r2)) ∧ Aside0 (kq ≤ k) ∧ Drawn0 w wc)
 case first =>
  have H:=HC3.out
  clear HC3
  by_cases c4 : t129 < (a0.size : Int)
  ·rw [if_pos c4] at H
   have c4b0 : decide (t129 < (a0.size : Int)) = true:=decide_eq_true c4
   clear c4
   (first|rw [c4b0]|(simp only [i64_w,i32_w];rw [c4b0])|skip)
   by_cases c5 : 0 ≤ t129
   ·rw [if_pos c5] at H
    have c5b0 : decide (0 ≤ t129) = true:=decide_eq_true c5
    clear c5
    by_cases c7 : (bt a0 t129) = 43
    ·rw [if_pos c7] at H
     have c7b0 : ((bt a0 t129) == 43) = true:=beq_iff_eq.mpr c7
     have c7b1 : ((bt a0 t129) != 43) = false:=bne_eq_false_iff_eq.mpr c7
     clear c7
     have H':=Aside0.mk H
     clear H
     have p6 : 0 ≤ (t129 : Int):=of_decide_eq_true (by first|(with_reducible assumption)|assumption)
     have q6 : t129 < (a0.size : Int):=of_decide_eq_true (by first|(with_reducible assumption)|assumption)
     have hx6:=bt_at a0 t129
     replace p6:=eq_true p6
     replace q6:=eq_true q6
     go_wp2
     go_meet
     case rel=>exact ⟨_,(true),(by first|rfl|(simp;done)|(simp [*];done)),H',⟨by first|omega|exact Nat.le_refl _⟩,by repeat (first|exact Drawn0.refl _|apply Drawn0.step)⟩
    ·rw [if_neg c7] at H
     have c7b0 : ((bt a0 t129) == 43) = false:=beq_eq_false_iff_ne.mpr c7
     have c7b1 : ((bt a0 t129) != 43) = true:=bne_iff_ne.mpr c7
     have H':=Aside0.mk H
     clear H
     have p6 : 0 ≤ (t129 : Int):=of_decide_eq_true (by first|(with_reducible assumption)|assumption)
     have q6 : t129 < (a0.size : Int):=of_decide_eq_true (by first|(with_reducible assumption)|assumption)
     have hx6:=bt_at a0 t129
     replace p6:=eq_true p6
     replace q6:=eq_true q6
     have p8 : 0 ≤ (t129 : Int):=of_decide_eq_true (by first|(with_reducible assumption)|assumption)
     have q8 : t129 < (a0.size : Int):=of_decide_eq_true (by first|(with_reducible assumption)|assumption)
     have hx8:=bt_at a0 t129
     replace p8:=eq_true p8
     replace q8:=eq_true q8
     go_wp2
     go_meet
     case rel=>exact ⟨_,(((bt a0 t129) == 45)),(by first|rfl|(simp;done)|(simp [*];done)),H',⟨by first|omega|exact Nat.le_refl _⟩,by repeat (first|exact Drawn0.refl _|apply Drawn0.step)⟩
   ·rw [if_neg c5] at H
    exact absurd H (by simp)
  ·rw [if_neg c4] at H
   have c4b0 : decide (t129 < (a0.size : Int)) = false:=decide_eq_false c4
   clear c4
   (first|rw [c4b0]|(simp only [i64_w,i32_w];rw [c4b0])|skip)
   have H':=Aside0.mk H
   clear H
   go_wp2
   go_meet
   case rel=>exact ⟨_,(false),(by first|rfl|(simp;done)|(simp [*];done)),H',⟨by first|omega|exact Nat.le_refl _⟩,by repeat (first|exact Drawn0.refl _|apply Drawn0.step)⟩
 case rest =>
  clear HC3
  try clear p2
  try clear c4
  try clear c4b0
  try clear c5
  try clear c5b0
  try clear c6
  try clear p6
  try clear q6
  try clear hx6
  try clear c7
  try clear c7b0
  try clear c7b1
  try clear p8
  try clear q8
  try clear hx8
  try clear p6
  try clear p8
  try clear q6
  try clear q8
  obtain ⟨kq,x26_2,rfl,HA,HJ2,⟨mc2,rfl⟩⟩:=hcut
  cases kq with
  | zero=>exact absurd HA.out (by simp [spec_ReadDec.j0])
  | succ kj2 =>
   have H:=HA.out
   clear HA
   simp only [spec_ReadDec.j0] at H
   have HC9:=Aside0.mk H
   clear H
   go_upto_if 26 with (fail)
   go_cut [4,5] (fun v4 v5 wc=>∃ (kq : Nat) (x4_8 : Int) (x5_8 : Bool),v4 = .int .i64 x4_8 ∧ v5 = .bool x5_8 ∧ Aside0 (spec_ReadDec.j1 kq a0 x4_8 x5_8 = some (r1,r2)) ∧ Aside0 (kq ≤ kj2) ∧ Drawn0 w wc)
   case first =>
    have H:=HC9.out
    clear HC9
    by_cases c10 : x26_2 = true
    ·subst c10
     have H1 : (if 0 ≤ t129 then (if t129 < (a0.size : Int) then (spec_ReadDec.j1 kj2 a0 (wrap64 (t129 + 1)) ((bt a0 t129) == 45)) else (none)) else (none)) = some (r1,r2):=by rw [if_pos rfl] at H;exact H
     clear H
     have H:=H1
     clear H1
     by_cases c11 : 0 ≤ t129
     ·rw [if_pos c11] at H
      have c11b0 : decide (0 ≤ t129) = true:=decide_eq_true c11
      clear c11
      (first|rw [c11b0]|(simp only [i64_w,i32_w];rw [c11b0])|skip)
      by_cases c12 : t129 < (a0.size : Int)
      ·rw [if_pos c12] at H
       have c12b0 : decide (t129 < (a0.size : Int)) = true:=decide_eq_true c12
       clear c12
       have H':=Aside0.mk H
       clear H
       have p13 : 0 ≤ (t129 : Int):=of_decide_eq_true (by first|(with_reducible assumption)|assumption)
       have q13 : t129 < (a0.size : Int):=of_decide_eq_true (by first|(with_reducible assumption)|assumption)
       have hx13:=bt_at a0 t129
       replace p13:=eq_true p13
       replace q13:=eq_true q13
       go_wp2
       go_meet
       case rel=>exact ⟨_,(wrap64 (t129 + 1)),(((bt a0 t129) == 45)),(by first|rfl|(simp;done)|(simp [*];done)),(by first|rfl|(simp;done)|(simp [*];done)),H',⟨by have:=HJ2.out;first|omega|exact Nat.le_refl _⟩,by repeat (first|exact Drawn0.refl _|apply Drawn0.step)⟩
      ·rw [if_neg c12] at H
       exact absurd H (by simp)
     ·rw [if_neg c11] at H
      exact absurd H (by simp)
    ·replace c10:=Bool.eq_false_iff.mpr c10
     subst c10
     have H1 : (spec_ReadDec.j1 kj2 a0 t129 false) = some (r1,r2):=by rw [if_neg (show ¬ (false = true) by decide)] at H;exact H
     clear H
     have H:=H1
     clear H1
     have H':=Aside0.mk H
     clear H
     go_wp2
     go_meet
     case rel=>exact ⟨_,(t129),(false),(by first|rfl|(simp;done)|(simp [*];done)),(by first|rfl|(simp;done)|(simp [*];done)),H',⟨by have:=HJ2.out;first|omega|exact Nat.le_refl _⟩,by repeat (first|exact Drawn0.refl _|apply Drawn0.step)⟩
   case rest =>
    clear HC9
    try clear c1
    try clear p1
    try clear q1
    try clear hx1
    try clear c2
    try clear p2
    try clear c4
    try clear c4b0
    try clear c5
    try clear c5b0
    try clear c6
    try clear p6
    try clear q6
    try clear hx6
    try clear c7
    try clear c7b0
    try clear c7b1
    try clear p8
    try clear q8
    try clear hx8
    try clear c9
    try clear c10
    try clear c11
    try clear c11b0
    try clear c12
    try clear c12b0
    try clear p13
    try clear q13
    try clear hx13
    try clear p13
    try clear p2
    try clear p6
    try clear p8
    try clear q13
    try clear q6
    try clear q8
    obtain ⟨kq,x4_8,x5_8,rfl,rfl,HA,HJ8,⟨mc8,rfl⟩⟩:=hcut
    cases kq with
    | zero=>exact absurd HA.out (by simp [spec_ReadDec.j1])
    | succ kj8 =>
     have H:=HA.out
     clear HA
     simp only [spec_ReadDec.j1] at H
     have H':=Aside0.mk H
     clear H
     go_wp2
     go_loopg [4,6,7] kj8 (fun kq v4 v6 v7 w'=>∃ (x4_3 : Int) (x6_3 : Int) (x7_3 : Int),v4 = .int .i64 x4_3 ∧ v6 = .int .i64 x6_3 ∧ v7 = .int .i64 x7_3 ∧ Aside0 (spec_ReadDec.l0 kq a0 x4_3 x5_8 x6_3 x7_3 = some (r1,r2)) ∧ Aside0 (kq ≤ kj8) ∧ Drawn0 w w')
     case atStart=>exact ⟨(x4_8),(0),(0),(by first|rfl|(simp;done)|(simp [*];done)),(by first|rfl|(simp;done)|(simp [*];done)),(by first|rfl|(simp;done)|(simp [*];done)),H',⟨Nat.le_refl _⟩,by repeat (first|exact Drawn0.refl _|apply Drawn0.step)⟩
     case round =>
      clear H'
      try clear c1
      try clear p1
      try clear q1
      try clear hx1
      try clear c2
      try clear p2
      try clear c4
      try clear c4b0
      try clear c5
      try clear c5b0
      try clear c6
      try clear p6
      try clear q6
      try clear hx6
      try clear c7
      try clear c7b0
      try clear c7b1
      try clear c8
      try clear p8
      try clear q8
      try clear hx8
      try clear c9
      try clear c10
      try clear c11
      try clear c11b0
      try clear c12
      try clear c12b0
      try clear p13
      try clear q13
      try clear hx13
      try clear p1
      try clear p13
      try clear p2
      try clear p6
      try clear p8
      try clear q1
      try clear q13
      try clear q6
      try clear q8
      obtain ⟨x4_3,x6_3,x7_3,rfl,rfl,rfl,HA,HK3,⟨m3,rfl⟩⟩:=hrel
      cases gk with
      | zero=>exact absurd HA.out (by simp [spec_ReadDec.l0])
      | succ k3 =>
       have H:=HA.out
       clear HA
       simp only [spec_ReadDec.l0] at H
       have HC14:=Aside0.mk H
       clear H
       go_upto_region 8 with (fail)
       go_cut [42] (fun v42 wc=>∃ (kq : Nat) (x42_13 : Bool),v42 = .bool x42_13 ∧ Aside0 (spec_ReadDec.j3 kq a0 x4_3 x5_8 x6_3 x7_3 x42_13 = some (r1,r2)) ∧ Aside0 (kq ≤ k3) ∧ Drawn0 w wc)
       case first =>
        have H:=HC14.out
        clear HC14
        by_cases c15 : x4_3 < (a0.size : Int)
        ·rw [if_pos c15] at H
         have c15b0 : decide (x4_3 < (a0.size : Int)) = true:=decide_eq_true c15
         clear c15
         (first|rw [c15b0]|(simp only [i64_w,i32_w];rw [c15b0])|skip)
         by_cases c16 : 0 ≤ x4_3
         ·rw [if_pos c16] at H
          have c16b0 : decide (0 ≤ x4_3) = true:=decide_eq_true c16
          clear c16
          replace H:=Option.bind_eq_some_iff.mp H
          obtain ⟨t130,A180,H⟩:=H
          replace H : (spec_ReadDec.j3 k3 a0 x4_3 x5_8 x6_3 x7_3 t130) = some (r1,r2):=H
          have A18:=Aside0.mk A180
          clear A180
          have H':=Aside0.mk H
          clear H
          have p17 : 0 ≤ (x4_3 : Int):=of_decide_eq_true (by first|(with_reducible assumption)|assumption)
          have q17 : x4_3 < (a0.size : Int):=of_decide_eq_true (by first|(with_reducible assumption)|assumption)
          have hx17:=bt_at a0 x4_3
          replace p17:=eq_true p17
          replace q17:=eq_true q17
          go_wp2_with (first|(go_at_call 80;(with_reducible refine (spec_l1digit.calls (bt a0 x4_3) t130 _ A18.out).mono ?_);rintro e w' ⟨rfl,⟨nd,rfl⟩⟩))
          go_meet
          case rel=>exact ⟨_,(t130),(by first|rfl|(simp;done)|(simp [*];done)),H',⟨by have:=HJ2.out;have:=HJ8.out;have:=HK3.out;first|omega|exact Nat.le_refl _⟩,by repeat (first|exact Drawn0.refl _|apply Drawn0.step)⟩
         ·rw [if_neg c16] at H
          exact absurd H (by simp)
        ·rw [if_neg c15] at H
         have c15b0 : decide (x4_3 < (a0.size : Int)) = false:=decide_eq_false c15
         clear c15
         (first|rw [c15b0]|(simp only [i64_w,i32_w];rw [c15b0])|skip)
         have H':=Aside0.mk H
         clear H
         go_wp2
         go_meet
         case rel=>exact ⟨_,(false),(by first|rfl|(simp;done)|(simp [*];done)),H',⟨by have:=HJ2.out;have:=HJ8.out;have:=HK3.out;first|omega|exact Nat.le_refl _⟩,by repeat (first|exact Drawn0.refl _|apply Drawn0.step)⟩
       case rest =>
        clear HC14
        try clear c1
        try clear p1
        try clear q1
        try clear hx1
        try clear c2
        try clear p2
        try clear c4
        try clear c4b0
        try clear c5
        try clear c5b0
        try clear c6
        try clear p6
        try clear q6
        try clear hx6
        try clear c7
        try clear c7b0
        try clear c7b1
        try clear c8
        try clear p8
        try clear q8
        try clear hx8
        try clear c9
        try clear c10
        try clear c11
        try clear c11b0
        try clear c12
        try clear c12b0
        try clear p13
        try clear q13
        try clear hx13
        try clear c15
        try clear c15b0
        try clear c16
        try clear c16b0
        try clear p17
        try clear q17
        try clear hx17
        try clear p1
        try clear p13
        try clear p17
        try clear p2
        try clear p6
        try clear p8
        try clear q1
        try clear q13
        try clear q17
        try clear q6
        try clear q8
        obtain ⟨kq,x42_13,rfl,HA,HJ13,⟨mc13,rfl⟩⟩:=hcut
        cases kq with
        | zero=>exact absurd HA.out (by simp [spec_ReadDec.j3])
        | succ kj13 =>
         have H:=HA.out
         clear HA
         simp only [spec_ReadDec.j3] at H
         by_cases c19 : x42_13 = true
         ·subst c19
          have H1 : (if 0 ≤ x4_3 then (if x4_3 < (a0.size : Int) then (if (wrap64 ((wrap64 (x6_3 * 10)) + ((((bt a0 x4_3) - 48) % 256) * 1000000))) > 9000000000000 then (spec_ReadDec.l0 kj13 a0 (wrap64 (x4_3 + 1)) x5_8 9000000000001 (wrap64 (x7_3 + 1))) else (spec_ReadDec.l0 kj13 a0 (wrap64 (x4_3 + 1)) x5_8 (wrap64 ((wrap64 (x6_3 * 10)) + ((((bt a0 x4_3) - 48) % 256) * 1000000))) (wrap64 (x7_3 + 1)))) else (none)) else (none)) = some (r1,r2):=by rw [if_pos rfl] at H;exact H
          clear H
          have H:=H1
          clear H1
          by_cases c20 : 0 ≤ x4_3
          ·rw [if_pos c20] at H
           have c20b0 : decide (0 ≤ x4_3) = true:=decide_eq_true c20
           clear c20
           by_cases c21 : x4_3 < (a0.size : Int)
           ·rw [if_pos c21] at H
            have c21b0 : decide (x4_3 < (a0.size : Int)) = true:=decide_eq_true c21
            clear c21
            by_cases c23 : (wrap64 ((wrap64 (x6_3 * 10)) + ((((bt a0 x4_3) - 48) % 256) * 1000000))) > 9000000000000
            ·rw [if_pos c23] at H
             have c23b0 : decide (9000000000000 < (wrap64 ((wrap64 (x6_3 * 10)) + ((((bt a0 x4_3) - 48) % 256) * 1000000)))) = true:=decide_eq_true c23
             clear c23
             have H':=Aside0.mk H
             clear H
             have p22 : 0 ≤ (x4_3 : Int):=of_decide_eq_true (by first|(with_reducible assumption)|assumption)
             have q22 : x4_3 < (a0.size : Int):=of_decide_eq_true (by first|(with_reducible assumption)|assumption)
             have hx22:=bt_at a0 x4_3
             replace p22:=eq_true p22
             replace q22:=eq_true q22
             go_wp2
             go_roundg kj13
             case measure=>have:=HJ2.out;have:=HJ8.out;have:=HK3.out;have:=HJ13.out;omega
             case rel=>exact ⟨(wrap64 (x4_3 + 1)),(9000000000001),(wrap64 (x7_3 + 1)),(by first|rfl|(simp;done)|(simp [*];done)),(by first|rfl|(simp;done)|(simp [*];done)),(by first|rfl|(simp;done)|(simp [*];done)),H',⟨by have:=HJ2.out;have:=HJ8.out;have:=HK3.out;have:=HJ13.out;omega⟩,by repeat (first|exact Drawn0.refl _|apply Drawn0.step)⟩
            ·rw [if_neg c23] at H
             have c23b0 : decide (9000000000000 < (wrap64 ((wrap64 (x6_3 * 10)) + ((((bt a0 x4_3) - 48) % 256) * 1000000)))) = false:=decide_eq_false c23
             clear c23
             have H':=Aside0.mk H
             clear H
             have p22 : 0 ≤ (x4_3 : Int):=of_decide_eq_true (by first|(with_reducible assumption)|assumption)
             have q22 : x4_3 < (a0.size : Int):=of_decide_eq_true (by first|(with_reducible assumption)|assumption)
             have hx22:=bt_at a0 x4_3
             replace p22:=eq_true p22
             replace q22:=eq_true q22
             go_wp2
             go_roundg kj13
             case measure=>have:=HJ2.out;have:=HJ8.out;have:=HK3.out;have:=HJ13.out;omega
             case rel=>exact ⟨(wrap64 (x4_3 + 1)),(wrap64 ((wrap64 (x6_3 * 10)) + ((((bt a0 x4_3) - 48) % 256) * 1000000))),(wrap64 (x7_3 + 1)),(by first|rfl|(simp;done)|(simp [*];done)),(by first|rfl|(simp;done)|(simp [*];done)),(by first|rfl|(simp;done)|(simp [*];done)),H',⟨by have:=HJ2.out;have:=HJ8.out;have:=HK3.out;have:=HJ13.out;omega⟩,by repeat (first|exact Drawn0.refl _|apply Drawn0.step)⟩
           ·rw [if_neg c21] at H
            exact absurd H (by simp)
          ·rw [if_neg c20] at H
           exact absurd H (by simp)
         ·replace c19:=Bool.eq_false_iff.mpr c19
          subst c19
          have H1 : (if x4_3 < (a0.size : Int) then (if 0 ≤ x4_3 then (if (bt a0 x4_3) = 46 then (if x7_3 > 0 then (spec_ReadDec.j4 kj13 a0 x4_3 x5_8 x6_3 x7_3 true) else (if (wrap64 (x4_3 + 1)) < (a0.size : Int) then (if 0 ≤ (wrap64 (x4_3 + 1)) then ((spec_l1digit.f (bt a0 (wrap64 (x4_3 + 1)))).bind fun t131=>(spec_ReadDec.j4 kj13 a0 x4_3 x5_8 x6_3 x7_3 t131)) else (none)) else (spec_ReadDec.j4 kj13 a0 x4_3 x5_8 x6_3 x7_3 false))) else (spec_ReadDec.j4 kj13 a0 x4_3 x5_8 x6_3 x7_3 false)) else (none)) else (spec_ReadDec.j4 kj13 a0 x4_3 x5_8 x6_3 x7_3 false)) = some (r1,r2):=by rw [if_neg (show ¬ (false = true) by decide)] at H;exact H
          clear H
          have H:=H1
          clear H1
          have HC24:=Aside0.mk H
          clear H
          go_upto_region 14 with (fail)
          go_cut [85] (fun v85 wc=>∃ (kq : Nat) (x85_23 : Bool),v85 = .bool x85_23 ∧ Aside0 (spec_ReadDec.j4 kq a0 x4_3 x5_8 x6_3 x7_3 x85_23 = some (r1,r2)) ∧ Aside0 (kq ≤ kj13) ∧ Drawn0 w wc)
          case first =>
           have H:=HC24.out
           clear HC24
           by_cases c25 : x4_3 < (a0.size : Int)
           ·rw [if_pos c25] at H
            have c25b0 : decide (x4_3 < (a0.size : Int)) = true:=decide_eq_true c25
            clear c25
            (first|rw [c25b0]|(simp only [i64_w,i32_w];rw [c25b0])|skip)
            by_cases c26 : 0 ≤ x4_3
            ·rw [if_pos c26] at H
             have c26b0 : decide (0 ≤ x4_3) = true:=decide_eq_true c26
             clear c26
             by_cases c28 : (bt a0 x4_3) = 46
             ·rw [if_pos c28] at H
              have c28b0 : ((bt a0 x4_3) == 46) = true:=beq_iff_eq.mpr c28
              have c28b1 : ((bt a0 x4_3) != 46) = false:=bne_eq_false_iff_eq.mpr c28
              clear c28
              by_cases c29 : x7_3 > 0
              ·rw [if_pos c29] at H
               have c29b0 : decide (0 < x7_3) = true:=decide_eq_true c29
               clear c29
               have H':=Aside0.mk H
               clear H
               have p27 : 0 ≤ (x4_3 : Int):=of_decide_eq_true (by first|(with_reducible assumption)|assumption)
               have q27 : x4_3 < (a0.size : Int):=of_decide_eq_true (by first|(with_reducible assumption)|assumption)
               have hx27:=bt_at a0 x4_3
               replace p27:=eq_true p27
               replace q27:=eq_true q27
               go_wp2
               go_meet
               case rel=>exact ⟨_,(true),(by first|rfl|(simp;done)|(simp [*];done)),H',⟨by have:=HJ2.out;have:=HJ8.out;have:=HK3.out;have:=HJ13.out;first|omega|exact Nat.le_refl _⟩,by repeat (first|exact Drawn0.refl _|apply Drawn0.step)⟩
              ·rw [if_neg c29] at H
               have c29b0 : decide (0 < x7_3) = false:=decide_eq_false c29
               clear c29
               by_cases c30 : (wrap64 (x4_3 + 1)) < (a0.size : Int)
               ·rw [if_pos c30] at H
                have c30b0 : decide ((wrap64 (x4_3 + 1)) < (a0.size : Int)) = true:=decide_eq_true c30
                clear c30
                obtain ⟨ji31,hji31⟩ : ∃ j_ : Int,(wrap64 (x4_3 + 1)) = j_:=⟨_,rfl⟩
                replace H : (if 0 ≤ (ji31) then ((spec_l1digit.f (bt a0 (ji31))).bind fun t131=>(spec_ReadDec.j4 kj13 a0 x4_3 x5_8 x6_3 x7_3 t131)) else (none)) = some (r1,r2):=by first|(rw [hji31] at H;exact H)|(simp only [hji31] at H ⊢;exact H)
                (try rw [hji31] at c30b0)
                have hji31w : (IntKind.i64.wrap (x4_3 + 1)) = ji31:=(i64_w _).trans hji31
                by_cases c32 : 0 ≤ (ji31)
                ·rw [if_pos c32] at H
                 have c32b0 : decide (0 ≤ (ji31)) = true:=decide_eq_true c32
                 clear c32
                 replace H:=Option.bind_eq_some_iff.mp H
                 obtain ⟨t131,A340,H⟩:=H
                 replace H : (spec_ReadDec.j4 kj13 a0 x4_3 x5_8 x6_3 x7_3 t131) = some (r1,r2):=H
                 have A34:=Aside0.mk A340
                 clear A340
                 have H':=Aside0.mk H
                 clear H
                 have p27 : 0 ≤ (x4_3 : Int):=of_decide_eq_true (by first|(with_reducible assumption)|assumption)
                 have q27 : x4_3 < (a0.size : Int):=of_decide_eq_true (by first|(with_reducible assumption)|assumption)
                 have hx27:=bt_at a0 x4_3
                 replace p27:=eq_true p27
                 replace q27:=eq_true q27
                 have p33 : 0 ≤ ((ji31) : Int):=of_decide_eq_true (by first|(with_reducible assumption)|assumption)
                 have q33 : (ji31) < (a0.size : Int):=of_decide_eq_true (by first|(with_reducible assumption)|assumption)
                 have hx33:=bt_at a0 (ji31)
                 replace p33:=eq_true p33
                 replace q33:=eq_true q33
                 go_wp2_with (first|(go_at_call 80;(with_reducible refine (spec_l1digit.calls (bt a0 (ji31)) t131 _ A34.out).mono ?_);rintro e w' ⟨rfl,⟨nd,rfl⟩⟩))
                 go_meet
                 case rel=>exact ⟨_,(t131),(by first|rfl|(simp;done)|(simp [*];done)),H',⟨by have:=HJ2.out;have:=HJ8.out;have:=HK3.out;have:=HJ13.out;first|omega|exact Nat.le_refl _⟩,by repeat (first|exact Drawn0.refl _|apply Drawn0.step)⟩
                ·rw [if_neg c32] at H
                 exact absurd H (by simp)
               ·rw [if_neg c30] at H
                have c30b0 : decide ((wrap64 (x4_3 + 1)) < (a0.size : Int)) = false:=decide_eq_false c30
                clear c30
                have H':=Aside0.mk H
                clear H
                have p27 : 0 ≤ (x4_3 : Int):=of_decide_eq_true (by first|(with_reducible assumption)|assumption)
                have q27 : x4_3 < (a0.size : Int):=of_decide_eq_true (by first|(with_reducible assumption)|assumption)
                have hx27:=bt_at a0 x4_3
                replace p27:=eq_true p27
                replace q27:=eq_true q27
                go_wp2
                go_meet
                case rel=>exact ⟨_,(false),(by first|rfl|(simp;done)|(simp [*];done)),H',⟨by have:=HJ2.out;have:=HJ8.out;have:=HK3.out;have:=HJ13.out;first|omega|exact Nat.le_refl _⟩,by repeat (first|exact Drawn0.refl _|apply Drawn0.step)⟩
             ·rw [if_neg c28] at H
              have c28b0 : ((bt a0 x4_3) == 46) = false:=beq_eq_false_iff_ne.mpr c28
              have c28b1 : ((bt a0 x4_3) != 46) = true:=bne_iff_ne.mpr c28
              have H':=Aside0.mk H
              clear H
              have p27 : 0 ≤ (x4_3 : Int):=of_decide_eq_true (by first|(with_reducible assumption)|assumption)
              have q27 : x4_3 < (a0.size : Int):=of_decide_eq_true (by first|(with_reducible assumption)|assumption)
              have hx27:=bt_at a0 x4_3
              replace p27:=eq_true p27
              replace q27:=eq_true q27
              go_wp2
              go_meet
              case rel=>exact ⟨_,(false),(by first|rfl|(simp;done)|(simp [*];done)),H',⟨by have:=HJ2.out;have:=HJ8.out;have:=HK3.out;have:=HJ13.out;first|omega|exact Nat.le_refl _⟩,by repeat (first|exact Drawn0.refl _|apply Drawn0.step)⟩
            ·rw [if_neg c26] at H
             exact absurd H (by simp)
           ·rw [if_neg c25] at H
            have c25b0 : decide (x4_3 < (a0.size : Int)) = false:=decide_eq_false c25
            clear c25
            (first|rw [c25b0]|(simp only [i64_w,i32_w];rw [c25b0])|skip)
            have H':=Aside0.mk H
            clear H
            go_wp2
            go_meet
            case rel=>exact ⟨_,(false),(by first|rfl|(simp;done)|(simp [*];done)),H',⟨by have:=HJ2.out;have:=HJ8.out;have:=HK3.out;have:=HJ13.out;first|omega|exact Nat.le_refl _⟩,by repeat (first|exact Drawn0.refl _|apply Drawn0.step)⟩
          case rest =>
           clear HC24
           try clear c1
           try clear p1
           try clear q1
           try clear hx1
           try clear c2
           try clear p2
           try clear q2
           try clear hx2
           try clear c3
           try clear p3
           try clear q3
           try clear hx3
           try clear c4
           try clear c4b0
           try clear c5
           try clear c5b0
           try clear c6
           try clear p6
           try clear q6
           try clear hx6
           try clear c7
           try clear c7b0
           try clear c7b1
           try clear c8
           try clear p8
           try clear q8
           try clear hx8
           try clear c9
           try clear c10
           try clear c11
           try clear c11b0
           try clear c12
           try clear c12b0
           try clear c13
           try clear p13
           try clear q13
           try clear hx13
           try clear c15
           try clear c15b0
           try clear c16
           try clear c16b0
           try clear p17
           try clear q17
           try clear hx17
           try clear c19
           try clear c20
           try clear c20b0
           try clear c21
           try clear c21b0
           try clear p22
           try clear q22
           try clear hx22
           try clear c23
           try clear c23b0
           try clear c25
           try clear c25b0
           try clear c26
           try clear c26b0
           try clear p27
           try clear q27
           try clear hx27
           try clear c28
           try clear c28b0
           try clear c28b1
           try clear c29
           try clear c29b0
           try clear c30
           try clear c30b0
           try clear c32
           try clear c32b0
           try clear p33
           try clear q33
           try clear hx33
           try clear p1
           try clear p13
           try clear p17
           try clear p2
           try clear p22
           try clear p27
           try clear p33
           try clear p6
           try clear p8
           try clear q1
           try clear q13
           try clear q17
           try clear q22
           try clear q27
           try clear q33
           try clear q6
           try clear q8
           obtain ⟨kq,x85_23,rfl,HA,HJ23,⟨mc23,rfl⟩⟩:=hcut
           cases kq with
           | zero=>exact absurd HA.out (by simp [spec_ReadDec.j4])
           | succ kj23 =>
            have H:=HA.out
            clear HA
            simp only [spec_ReadDec.j4] at H
            have HC35:=Aside0.mk H
            clear H
            go_upto_if 85 with (fail)
            go_cut [4,6,7] (fun v4 v6 v7 wc=>∃ (kq : Nat) (x4_34 : Int) (x6_34 : Int) (x7_34 : Int),v4 = .int .i64 x4_34 ∧ v6 = .int .i64 x6_34 ∧ v7 = .int .i64 x7_34 ∧ Aside0 (spec_ReadDec.j6 kq x4_34 x5_8 x6_34 x7_34 = some (r1,r2)) ∧ Aside0 (kq ≤ kj23) ∧ Drawn0 w wc)
            case first =>
             have H:=HC35.out
             clear HC35
             by_cases c36 : x85_23 = true
             ·subst c36
              have H1 : (spec_ReadDec.l1 kj23 a0 (wrap64 (x4_3 + 1)) x5_8 x6_3 x7_3 100000) = some (r1,r2):=by rw [if_pos rfl] at H;exact H
              clear H
              have H:=H1
              clear H1
              have H':=Aside0.mk H
              clear H
              go_wp2
              go_loopg [4,6,7,8] kj23 (fun kq v4 v6 v7 v8 w'=>∃ (x4_6 : Int) (x6_6 : Int) (x7_6 : Int) (x8_6 : Int),v4 = .int .i64 x4_6 ∧ v6 = .int .i64 x6_6 ∧ v7 = .int .i64 x7_6 ∧ v8 = .int .i64 x8_6 ∧ Aside0 (spec_ReadDec.l1 kq a0 x4_6 x5_8 x6_6 x7_6 x8_6 = some (r1,r2)) ∧ Aside0 (kq ≤ kj23) ∧ Drawn0 w w')
              case atStart=>exact ⟨(wrap64 (x4_3 + 1)),(x6_3),(x7_3),(100000),(by first|rfl|(simp;done)|(simp [*];done)),(by first|rfl|(simp;done)|(simp [*];done)),(by first|rfl|(simp;done)|(simp [*];done)),(by first|rfl|(simp;done)|(simp [*];done)),H',⟨Nat.le_refl _⟩,by repeat (first|exact Drawn0.refl _|apply Drawn0.step)⟩
              case round =>
               clear H'
               try clear c1
               try clear p1
               try clear q1
               try clear hx1
               try clear c2
               try clear p2
               try clear q2
               try clear hx2
               try clear c3
               try clear p3
               try clear q3
               try clear hx3
               try clear c4
               try clear c4b0
               try clear c5
               try clear c5b0
               try clear c6
               try clear p6
               try clear q6
               try clear hx6
               try clear c7
               try clear c7b0
               try clear c7b1
               try clear c8
               try clear p8
               try clear q8
               try clear hx8
               try clear c9
               try clear c10
               try clear c11
               try clear c11b0
               try clear c12
               try clear c12b0
               try clear c13
               try clear p13
               try clear q13
               try clear hx13
               try clear c15
               try clear c15b0
               try clear c16
               try clear c16b0
               try clear p17
               try clear q17
               try clear hx17
               try clear c19
               try clear c20
               try clear c20b0
               try clear c21
               try clear c21b0
               try clear p22
               try clear q22
               try clear hx22
               try clear c23
               try clear c23b0
               try clear c25
               try clear c25b0
               try clear c26
               try clear c26b0
               try clear p27
               try clear q27
               try clear hx27
               try clear c28
               try clear c28b0
               try clear c28b1
               try clear c29
               try clear c29b0
               try clear c30
               try clear c30b0
               try clear c32
               try clear c32b0
               try clear p33
               try clear q33
               try clear hx33
               try clear c36
               try clear p1
               try clear p13
               try clear p17
               try clear p2
               try clear p22
               try clear p27
               try clear p3
               try clear p33
               try clear p6
               try clear p8
               try clear q1
               try clear q13
               try clear q17
               try clear q2
               try clear q22
               try clear q27
               try clear q3
               try clear q33
               try clear q6
               try clear q8
               obtain ⟨x4_6,x6_6,x7_6,x8_6,rfl,rfl,rfl,rfl,HA,HK6,⟨m6,rfl⟩⟩:=hrel
               cases gk with
               | zero=>exact absurd HA.out (by simp [spec_ReadDec.l1])
               | succ k6 =>
                have H:=HA.out
                clear HA
                simp only [spec_ReadDec.l1] at H
                by_cases c37 : x4_6 < (a0.size : Int)
                ·rw [if_pos c37] at H
                 have c37b0 : decide (x4_6 < (a0.size : Int)) = true:=decide_eq_true c37
                 clear c37
                 (first|rw [c37b0]|(simp only [i64_w,i32_w];rw [c37b0])|skip)
                 by_cases c38 : 0 ≤ x4_6
                 ·rw [if_pos c38] at H
                  have c38b0 : decide (0 ≤ x4_6) = true:=decide_eq_true c38
                  clear c38
                  replace H:=Option.bind_eq_some_iff.mp H
                  obtain ⟨t132,A400,H⟩:=H
                  replace H : (if t132 = true then (spec_ReadDec.l1 k6 a0 (wrap64 (x4_6 + 1)) x5_8 (wrap64 (x6_6 + (wrap64 ((((bt a0 x4_6) - 48) % 256) * x8_6)))) (wrap64 (x7_6 + 1)) (wrap64 (Int.tdiv x8_6 10))) else (spec_ReadDec.j6 k6 x4_6 x5_8 x6_6 x7_6)) = some (r1,r2):=H
                  have A40:=Aside0.mk A400
                  clear A400
                  by_cases c41 : t132 = true
                  ·subst c41
                   have H1 : (spec_ReadDec.l1 k6 a0 (wrap64 (x4_6 + 1)) x5_8 (wrap64 (x6_6 + (wrap64 ((((bt a0 x4_6) - 48) % 256) * x8_6)))) (wrap64 (x7_6 + 1)) (wrap64 (Int.tdiv x8_6 10))) = some (r1,r2):=by rw [if_pos rfl] at H;exact H
                   clear H
                   have H:=H1
                   clear H1
                   have H':=Aside0.mk H
                   clear H
                   have p39 : 0 ≤ (x4_6 : Int):=of_decide_eq_true (by first|(with_reducible assumption)|assumption)
                   have q39 : x4_6 < (a0.size : Int):=of_decide_eq_true (by first|(with_reducible assumption)|assumption)
                   have hx39:=bt_at a0 x4_6
                   replace p39:=eq_true p39
                   replace q39:=eq_true q39
                   go_wp2_with (first|(go_at_call 80;(with_reducible refine (spec_l1digit.calls (bt a0 x4_6) true _ A40.out).mono ?_);rintro e w' ⟨rfl,⟨nd,rfl⟩⟩;have p42 : 0 ≤ (x4_6 : Int):=of_decide_eq_true (by first|(with_reducible assumption)|assumption);have q42 : x4_6 < (a0.size : Int):=of_decide_eq_true (by first|(with_reducible assumption)|assumption);have hx42:=bt_at a0 x4_6;replace p42:=eq_true p42;replace q42:=eq_true q42))
                   go_roundg k6
                   case measure=>have:=HJ2.out;have:=HJ8.out;have:=HK3.out;have:=HJ13.out;have:=HJ23.out;have:=HK6.out;omega
                   case rel=>exact ⟨(wrap64 (x4_6 + 1)),(wrap64 (x6_6 + (wrap64 ((((bt a0 x4_6) - 48) % 256) * x8_6)))),(wrap64 (x7_6 + 1)),(wrap64 (Int.tdiv x8_6 10)),(by first|rfl|(simp;done)|(simp [*];done)),(by first|rfl|(simp;done)|(simp [*];done)),(by first|rfl|(simp;done)|(simp [*];done)),(by first|rfl|(simp;done)|(simp [*];done)),H',⟨by have:=HJ2.out;have:=HJ8.out;have:=HK3.out;have:=HJ13.out;have:=HJ23.out;have:=HK6.out;omega⟩,by repeat (first|exact Drawn0.refl _|apply Drawn0.step)⟩
                  ·replace c41:=Bool.eq_false_iff.mpr c41
                   subst c41
                   have H1 : (spec_ReadDec.j6 k6 x4_6 x5_8 x6_6 x7_6) = some (r1,r2):=by rw [if_neg (show ¬ (false = true) by decide)] at H;exact H
                   clear H
                   have H:=H1
                   clear H1
                   have H':=Aside0.mk H
                   clear H
                   have p39 : 0 ≤ (x4_6 : Int):=of_decide_eq_true (by first|(with_reducible assumption)|assumption)
                   have q39 : x4_6 < (a0.size : Int):=of_decide_eq_true (by first|(with_reducible assumption)|assumption)
                   have hx39:=bt_at a0 x4_6
                   replace p39:=eq_true p39
                   replace q39:=eq_true q39
                   go_wp2_with (first|(go_at_call 80;(with_reducible refine (spec_l1digit.calls (bt a0 x4_6) false _ A40.out).mono ?_);rintro e w' ⟨rfl,⟨nd,rfl⟩⟩))
                   go_meet
                   case rel=>exact ⟨_,(x4_6),(x6_6),(x7_6),(by first|rfl|(simp;done)|(simp [*];done)),(by first|rfl|(simp;done)|(simp [*];done)),(by first|rfl|(simp;done)|(simp [*];done)),H',⟨by have:=HJ2.out;have:=HJ8.out;have:=HK3.out;have:=HJ13.out;have:=HJ23.out;have:=HK6.out;first|omega|exact Nat.le_refl _⟩,by repeat (first|exact Drawn0.refl _|apply Drawn0.step)⟩
                 ·rw [if_neg c38] at H
                  exact absurd H (by simp)
                ·rw [if_neg c37] at H
                 have c37b0 : decide (x4_6 < (a0.size : Int)) = false:=decide_eq_false c37
                 clear c37
                 (first|rw [c37b0]|(simp only [i64_w,i32_w];rw [c37b0])|skip)
                 have H':=Aside0.mk H
                 clear H
                 go_wp2
                 go_meet
                 case rel=>exact ⟨_,(x4_6),(x6_6),(x7_6),(by first|rfl|(simp;done)|(simp [*];done)),(by first|rfl|(simp;done)|(simp [*];done)),(by first|rfl|(simp;done)|(simp [*];done)),H',⟨by have:=HJ2.out;have:=HJ8.out;have:=HK3.out;have:=HJ13.out;have:=HJ23.out;have:=HK6.out;first|omega|exact Nat.le_refl _⟩,by repeat (first|exact Drawn0.refl _|apply Drawn0.step)⟩
             ·replace c36:=Bool.eq_false_iff.mpr c36
              subst c36
              have H1 : (spec_ReadDec.j6 kj23 x4_3 x5_8 x6_3 x7_3) = some (r1,r2):=by rw [if_neg (show ¬ (false = true) by decide)] at H;exact H
              clear H
              have H:=H1
              clear H1
              have H':=Aside0.mk H
              clear H
              go_wp2
              go_meet
              case rel=>exact ⟨_,(x4_3),(x6_3),(x7_3),(by first|rfl|(simp;done)|(simp [*];done)),(by first|rfl|(simp;done)|(simp [*];done)),(by first|rfl|(simp;done)|(simp [*];done)),H',⟨by have:=HJ2.out;have:=HJ8.out;have:=HK3.out;have:=HJ13.out;have:=HJ23.out;first|omega|exact Nat.le_refl _⟩,by repeat (first|exact Drawn0.refl _|apply Drawn0.step)⟩
            case rest =>
             clear HC35
             try clear c1
             try clear p1
             try clear q1
             try clear hx1
             try clear c2
             try clear p2
             try clear q2
             try clear hx2
             try clear c3
             try clear p3
             try clear q3
             try clear hx3
             try clear c4
             try clear c4b0
             try clear p4
             try clear q4
             try clear hx4
             try clear c5
             try clear c5b0
             try clear c6
             try clear p6
             try clear q6
             try clear hx6
             try clear c7
             try clear c7b0
             try clear c7b1
             try clear c8
             try clear p8
             try clear q8
             try clear hx8
             try clear c9
             try clear c10
             try clear c11
             try clear c11b0
             try clear c12
             try clear c12b0
             try clear c13
             try clear p13
             try clear q13
             try clear hx13
             try clear c15
             try clear c15b0
             try clear c16
             try clear c16b0
             try clear p17
             try clear q17
             try clear hx17
             try clear c19
             try clear c20
             try clear c20b0
             try clear c21
             try clear c21b0
             try clear p22
             try clear q22
             try clear hx22
             try clear c23
             try clear c23b0
             try clear c25
             try clear c25b0
             try clear c26
             try clear c26b0
             try clear p27
             try clear q27
             try clear hx27
             try clear c28
             try clear c28b0
             try clear c28b1
             try clear c29
             try clear c29b0
             try clear c30
             try clear c30b0
             try clear c32
             try clear c32b0
             try clear p33
             try clear q33
             try clear hx33
             try clear c36
             try clear c37
             try clear c37b0
             try clear c38
             try clear c38b0
             try clear p39
             try clear q39
             try clear hx39
             try clear c41
             try clear p42
             try clear q42
             try clear hx42
             try clear p1
             try clear p13
             try clear p17
             try clear p2
             try clear p22
             try clear p27
             try clear p3
             try clear p33
             try clear p39
             try clear p42
             try clear p6
             try clear p8
             try clear q1
             try clear q13
             try clear q17
             try clear q2
             try clear q22
             try clear q27
             try clear q3
             try clear q33
             try clear q39
             try clear q42
             try clear q6
             try clear q8
             obtain ⟨kq,x4_34,x6_34,x7_34,rfl,rfl,rfl,HA,HJ34,⟨mc34,rfl⟩⟩:=hcut
             cases kq with
             | zero=>exact absurd HA.out (by simp [spec_ReadDec.j6])
             | succ kj34 =>
              have H:=HA.out
              clear HA
              simp only [spec_ReadDec.j6] at H
              by_cases c43 : x7_34 = 0
              ·rw [if_pos c43] at H
               have c43b0 : (x7_34 == 0) = true:=beq_iff_eq.mpr c43
               have c43b1 : (x7_34 != 0) = false:=bne_eq_false_iff_eq.mpr c43
               clear c43
               simp only [Option.some.injEq,Prod.mk.injEq] at H
               obtain ⟨rfl,rfl⟩:=H
               go_wp2
               go_ret2
               exact ⟨by first|rfl|(simp;done)|(simp [*];done),by repeat (first|exact Drawn0.refl _|apply Drawn0.step)⟩
              ·rw [if_neg c43] at H
               have c43b0 : (x7_34 == 0) = false:=beq_eq_false_iff_ne.mpr c43
               have c43b1 : (x7_34 != 0) = true:=bne_iff_ne.mpr c43
               by_cases c44 : x6_34 > 9000000000000
               ·rw [if_pos c44] at H
                have c44b0 : decide (9000000000000 < x6_34) = true:=decide_eq_true c44
                clear c44
                by_cases c45 : x5_8 = true
                ·subst c45
                 have H1 : (some (-9000000000000,x4_34)) = some (r1,r2):=by rw [if_pos rfl] at H;exact H
                 clear H
                 have H:=H1
                 clear H1
                 simp only [Option.some.injEq,Prod.mk.injEq] at H
                 obtain ⟨rfl,rfl⟩:=H
                 go_wp2
                 go_ret2
                 exact ⟨by first|rfl|(simp;done)|(simp [*];done),by repeat (first|exact Drawn0.refl _|apply Drawn0.step)⟩
                ·replace c45:=Bool.eq_false_iff.mpr c45
                 subst c45
                 have H1 : (some (9000000000000,x4_34)) = some (r1,r2):=by rw [if_neg (show ¬ (false = true) by decide)] at H;exact H
                 clear H
                 have H:=H1
                 clear H1
                 simp only [Option.some.injEq,Prod.mk.injEq] at H
                 obtain ⟨rfl,rfl⟩:=H
                 go_wp2
                 go_ret2
                 exact ⟨by first|rfl|(simp;done)|(simp [*];done),by repeat (first|exact Drawn0.refl _|apply Drawn0.step)⟩
               ·rw [if_neg c44] at H
                have c44b0 : decide (9000000000000 < x6_34) = false:=decide_eq_false c44
                clear c44
                by_cases c46 : x5_8 = true
                ·subst c46
                 have H1 : (some (wrap64 (-x6_34),x4_34)) = some (r1,r2):=by rw [if_pos rfl] at H;exact H
                 clear H
                 have H:=H1
                 clear H1
                 simp only [Option.some.injEq,Prod.mk.injEq] at H
                 obtain ⟨rfl,rfl⟩:=H
                 go_wp2
                 go_ret2
                 exact ⟨by first|rfl|(simp;done)|(simp [*];done),by repeat (first|exact Drawn0.refl _|apply Drawn0.step)⟩
                ·replace c46:=Bool.eq_false_iff.mpr c46
                 subst c46
                 have H1 : (some (x6_34,x4_34)) = some (r1,r2):=by rw [if_neg (show ¬ (false = true) by decide)] at H;exact H
                 clear H
                 have H:=H1
                 clear H1
                 simp only [Option.some.injEq,Prod.mk.injEq] at H
                 obtain ⟨rfl,rfl⟩:=H
                 go_wp2
                 go_ret2
                 exact ⟨by first|rfl|(simp;done)|(simp [*];done),by repeat (first|exact Drawn0.refl _|apply Drawn0.step)⟩
def spec_LooksNum.f (k : Nat) (a0 : ByteArray) : Option (Bool):=(spec_ReadDec.f k a0).bind fun bt133=>(if bt133.2 > 0 then ((spec_l1skip.f k a0 bt133.2).bind fun t135=>(some (t135 == (a0.size : Int)))) else (some false))
set_option maxHeartbeats 8000000 in
set_option maxRecDepth 100000 in
theorem spec_LooksNum.calls (k : Nat) (a0 : ByteArray) (r : Bool) (w : World) (h : spec_LooksNum.f k a0 = some r) :
  Calls Tryz.prog 70 #[.string a0] w fun e w'=>e = .returned (.bool r) ∧ Drawn0 w w':=by
 have H : ((spec_ReadDec.f k a0).bind fun bt133=>(if bt133.2 > 0 then ((spec_l1skip.f k a0 bt133.2).bind fun t135=>(some (t135 == (a0.size : Int)))) else (some false))) = some r:=h
 clear h
 replace H:=Option.bind_eq_some_iff.mp H
 obtain ⟨⟨t133,t134⟩,A20,H⟩:=H
 replace H : (if t134 > 0 then ((spec_l1skip.f k a0 t134).bind fun t135=>(some (t135 == (a0.size : Int)))) else (some false)) = some r:=H
 have A2:=Aside0.mk A20
 clear A20
 by_cases c3 : t134 > 0
 ·rw [if_pos c3] at H
  have c3b0 : decide (0 < t134) = true:=decide_eq_true c3
  clear c3
  replace H:=Option.bind_eq_some_iff.mp H
  obtain ⟨t135,A40,H⟩:=H
  replace H : (some (t135 == (a0.size : Int))) = some r:=H
  have A4:=Aside0.mk A40
  clear A40
  obtain rfl:=Option.some.inj H
  go_enter Tryz.func70,Tryz.ntmps70
  go_wp2_with (first|((with_reducible refine gate_callee (f:=69) rfl ?_);refine goesL_ (some 7) rfl rfl Tryz.func69 (by kernel_rfl) rfl #[.string a0] rfl (by (try simp only [List.map_toArray,List.map_cons,List.map_nil]);first|done|rfl|(simp only [List.length_drop,List.length_take];rfl)) ?_;(with_reducible refine (spec_ReadDec.calls k a0 t133 t134 _ A2.out).mono ?_);rintro e w' ⟨rfl,⟨nd,rfl⟩⟩;refine ⟨_,rfl,?_⟩)|(go_at_call 91;(with_reducible refine (spec_l1skip.calls k a0 t134 t135 _ A4.out).mono ?_);rintro e w' ⟨rfl,⟨nd,rfl⟩⟩))
  go_ret
  exact ⟨by first|rfl|(simp;done)|(simp [*];done),by repeat (first|exact Drawn0.refl _|apply Drawn0.step)⟩
 ·rw [if_neg c3] at H
  have c3b0 : decide (0 < t134) = false:=decide_eq_false c3
  clear c3
  obtain rfl:=Option.some.inj H
  go_enter Tryz.func70,Tryz.ntmps70
  go_wp2_with (first|((with_reducible refine gate_callee (f:=69) rfl ?_);refine goesL_ (some 7) rfl rfl Tryz.func69 (by kernel_rfl) rfl #[.string a0] rfl (by (try simp only [List.map_toArray,List.map_cons,List.map_nil]);first|done|rfl|(simp only [List.length_drop,List.length_take];rfl)) ?_;(with_reducible refine (spec_ReadDec.calls k a0 t133 t134 _ A2.out).mono ?_);rintro e w' ⟨rfl,⟨nd,rfl⟩⟩;refine ⟨_,rfl,?_⟩))
  go_ret
  exact ⟨by first|rfl|(simp;done)|(simp [*];done),by repeat (first|exact Drawn0.refl _|apply Drawn0.step)⟩
def spec_FieldCell.f (k : Nat) (a0 : ByteArray) : Option (Int × Int × ByteArray):=if (a0.size : Int) > 500 then (some (0,0,(⟨#[]⟩ : ByteArray))) else ((spec_LooksNum.f k a0).bind fun t137=>(if t137 = true then ((spec_ReadDec.f k a0).bind fun bt138=>(some (3,bt138.1,a0))) else (some (2,0,a0))))
set_option maxHeartbeats 8000000 in
set_option maxRecDepth 100000 in
theorem spec_FieldCell.calls (k : Nat) (a0 : ByteArray) (r1 : Int) (r2 : Int) (r3 : ByteArray) (w : World) (h : spec_FieldCell.f k a0 = some (r1,r2,r3)) :
  Calls Tryz.prog 89 #[.string a0] w fun e w'=>e = .returned (.agg #[.int .i64 r1,.int .i64 r2,.string r3]) ∧ Below w.heap.size w w':=by
 have hu24:=Tryz.underlying24
 have HB:=Aside0.mk (Below.refl w.heap.size w)
 have H : (if (a0.size : Int) > 500 then (some (0,0,(⟨#[]⟩ : ByteArray))) else ((spec_LooksNum.f k a0).bind fun t137=>(if t137 = true then ((spec_ReadDec.f k a0).bind fun bt138=>(some (3,bt138.1,a0))) else (some (2,0,a0))))) = some (r1,r2,r3):=h
 clear h
 by_cases c2 : (a0.size : Int) > 500
 ·rw [if_pos c2] at H
  have c2b0 : decide (500 < (a0.size : Int)) = true:=decide_eq_true c2
  have c2b1 : decide (500 < a0.size) = true:=decide_eq_true (by omega)
  clear c2
  simp only [Option.some.injEq,Prod.mk.injEq] at H
  obtain ⟨rfl,rfl,rfl⟩:=H
  go_enter Tryz.func89,Tryz.ntmps89
  go_wp2_with (first|((with_reducible refine gate_dst (N:=2) rfl ?_);refine box_event ?hg (N:=2) ?hd (cs:=#[.int .i64 0,.int .i64 0,.string (⟨#[]⟩ : ByteArray)]) (t:=24) ?hr ?_;(case hd=>rfl);(case hg=>rfl);(case hr=>first|(go_simp;done)|(go_simp;rfl));intro gb136 hg w3 hbox hb;have n0_:=Aside0.mk (below_step (by repeat (first|(with_reducible first|exact HB.out|apply below_alloc|apply pw_below_drewN|apply below_drew1)|exact HB.out)) hb);have n1_:=Aside0.mk (hbox);have n2_:=Aside0.mk ((by rw [hg];exact (below_size (by repeat (first|(with_reducible first|exact HB.out|apply below_alloc|apply pw_below_drewN|apply below_drew1)|exact HB.out))) : w.heap.size ≤ gb136));have n3_:=Aside0.mk ((by rw [hg];exact (below_size (by repeat (first|(with_reducible first|exact HB.out|apply below_alloc|apply pw_below_drewN|apply below_drew1)|exact HB.out))) : w.heap.size ≤ gb136));clear HB;have HB:=n0_;have BK136:=n1_;have GW136:=n2_;have GE136:=n3_;clear n0_ n1_ n2_ n3_;clear hb hbox hg;have hcz4_0 : w3.cell? ⟨gb136,0,none⟩ = some (.int .i64 0):=(blk_cell BK136.out 0).trans rfl;have hcz4_1 : w3.cell? ⟨gb136,1,none⟩ = some (.int .i64 0):=(blk_cell BK136.out 1).trans rfl;have hcz4_2 : w3.cell? ⟨gb136,2,none⟩ = some (.string (⟨#[]⟩ : ByteArray)):=(blk_cell BK136.out 2).trans rfl;have hfz4_0:=blk_frozen BK136.out 0;have hfz4_1:=blk_frozen BK136.out 1;have hfz4_2:=blk_frozen BK136.out 2))
  refine bodyPost_ret (results_cell_row rfl _ _ gb136 24 #[.int .i64 0,.int .i64 0,.string (⟨#[]⟩ : ByteArray)] (0,0) _ rfl (by (with_reducible repeat (first|refine blk_drewN ?_ _|refine blk_drew ?_|refine blk_alloc ?_ _));refine blk_put (cs:=#[.int .i64 0,.int .i64 0,.string (⟨#[]⟩ : ByteArray)]) ?_ 2 _ rfl;(with_reducible repeat (first|refine blk_drewN ?_ _|refine blk_drew ?_|refine blk_alloc ?_ _));refine blk_put (cs:=#[.int .i64 0,.int .i64 0,.string (⟨#[]⟩ : ByteArray)]) ?_ 1 _ rfl;(with_reducible repeat (first|refine blk_drewN ?_ _|refine blk_drew ?_|refine blk_alloc ?_ _));refine blk_put (cs:=#[.int .i64 0,.int .i64 0,.string (⟨#[]⟩ : ByteArray)]) ?_ 0 _ rfl;(with_reducible repeat (first|refine blk_drewN ?_ _|refine blk_drew ?_|refine blk_alloc ?_ _));exact BK136.out) Tryz.underlying24 rfl (by kernel_rfl)) rfl ?_
  exact ⟨by first|rfl|(simp [errW_none,errW_some] <;> rfl)|(simp [*,errW_none,errW_some] <;> rfl),by repeat (first|(with_reducible first|exact HB.out|apply below_alloc|apply pw_below_drewN|apply below_drew1|refine below_set ?_ GE136.out)|exact HB.out)⟩
 ·rw [if_neg c2] at H
  have c2b0 : decide (500 < (a0.size : Int)) = false:=decide_eq_false c2
  have c2b1 : decide (500 < a0.size) = false:=decide_eq_false (by omega)
  clear c2
  replace H:=Option.bind_eq_some_iff.mp H
  obtain ⟨t137,A50,H⟩:=H
  replace H : (if t137 = true then ((spec_ReadDec.f k a0).bind fun bt138=>(some (3,bt138.1,a0))) else (some (2,0,a0))) = some (r1,r2,r3):=H
  have A5:=Aside0.mk A50
  clear A50
  by_cases c6 : t137 = true
  ·subst c6
   have H1 : ((spec_ReadDec.f k a0).bind fun bt138=>(some (3,bt138.1,a0))) = some (r1,r2,r3):=by rw [if_pos rfl] at H;exact H
   clear H
   have H:=H1
   clear H1
   replace H:=Option.bind_eq_some_iff.mp H
   obtain ⟨⟨t138,t139⟩,A70,H⟩:=H
   replace H : (some (3,t138,a0)) = some (r1,r2,r3):=H
   have A7:=Aside0.mk A70
   clear A70
   simp only [Option.some.injEq,Prod.mk.injEq] at H
   obtain ⟨rfl,rfl,rfl⟩:=H
   go_enter Tryz.func89,Tryz.ntmps89
   go_wp2_with (first|((with_reducible refine gate_dst (N:=2) rfl ?_);refine box_event ?hg (N:=2) ?hd (cs:=#[.int .i64 0,.int .i64 0,.string (⟨#[]⟩ : ByteArray)]) (t:=24) ?hr ?_;(case hd=>rfl);(case hg=>rfl);(case hr=>first|(go_simp;done)|(go_simp;rfl));intro gb136 hg w8 hbox hb;have n0_:=Aside0.mk (below_step (by repeat (first|(with_reducible first|exact HB.out|apply below_alloc|apply pw_below_drewN|apply below_drew1)|exact HB.out)) hb);have n1_:=Aside0.mk (hbox);have n2_:=Aside0.mk ((by rw [hg];exact (below_size (by repeat (first|(with_reducible first|exact HB.out|apply below_alloc|apply pw_below_drewN|apply below_drew1)|exact HB.out))) : w.heap.size ≤ gb136));have n3_:=Aside0.mk ((by rw [hg];exact (below_size (by repeat (first|(with_reducible first|exact HB.out|apply below_alloc|apply pw_below_drewN|apply below_drew1)|exact HB.out))) : w.heap.size ≤ gb136));clear HB;have HB:=n0_;have BK136:=n1_;have GW136:=n2_;have GE136:=n3_;clear n0_ n1_ n2_ n3_;clear hb hbox hg)|((with_reducible refine gate_callee (f:=70) rfl ?_);refine goesL_ (some 10) rfl rfl Tryz.func70 (by kernel_rfl) rfl #[.string a0] rfl (by (try simp only [List.map_toArray,List.map_cons,List.map_nil]);first|done|rfl|(simp only [List.length_drop,List.length_take];rfl)) ?_;(with_reducible refine (spec_LooksNum.calls k a0 true _ A5.out).mono ?_);rintro e w' ⟨rfl,⟨nd,rfl⟩⟩;refine ⟨_,rfl,?_⟩;(try (rw [drewN_self w8];generalize hq_ : World.drewN w8 _ = w8;have n0_ : Aside0 (w8.heap[gb136]? = some (.cells #[.int .i64 0,.int .i64 0,.string (⟨#[]⟩ : ByteArray)] 24 (0,0))):=⟨by rw [← hq_];exact (by (with_reducible repeat (first|refine blk_drewN ?_ _|refine blk_drew ?_|refine blk_alloc ?_ _));exact BK136.out)⟩;have n1_ : Aside0 (Below w.heap.size w w8):=⟨by rw [← hq_];exact (by repeat (first|(with_reducible first|exact HB.out|apply below_alloc|apply pw_below_drewN|apply below_drew1|refine below_set ?_ GE136.out)|exact HB.out))⟩;clear BK136 HB hq_;have BK136:=n0_;have HB:=n1_;clear n0_ n1_)))|((with_reducible refine gate_callee (f:=69) rfl ?_);refine goesL_ (some 13) rfl rfl Tryz.func69 (by kernel_rfl) rfl #[.string a0] rfl (by (try simp only [List.map_toArray,List.map_cons,List.map_nil]);first|done|rfl|(simp only [List.length_drop,List.length_take];rfl)) ?_;(with_reducible refine (spec_ReadDec.calls k a0 t138 t139 _ A7.out).mono ?_);rintro e w' ⟨rfl,⟨nd,rfl⟩⟩;refine ⟨_,rfl,?_⟩;(try (rw [drewN_self w8];generalize hq_ : World.drewN w8 _ = w8;have n0_ : Aside0 (w8.heap[gb136]? = some (.cells #[.int .i64 0,.int .i64 0,.string (⟨#[]⟩ : ByteArray)] 24 (0,0))):=⟨by rw [← hq_];exact (by (with_reducible repeat (first|refine blk_drewN ?_ _|refine blk_drew ?_|refine blk_alloc ?_ _));exact BK136.out)⟩;have n1_ : Aside0 (Below w.heap.size w w8):=⟨by rw [← hq_];exact (by repeat (first|(with_reducible first|exact HB.out|apply below_alloc|apply pw_below_drewN|apply below_drew1|refine below_set ?_ GE136.out)|exact HB.out))⟩;clear BK136 HB hq_;have BK136:=n0_;have HB:=n1_;clear n0_ n1_));have hcz9_0 : w8.cell? ⟨gb136,0,none⟩ = some (.int .i64 0):=(blk_cell BK136.out 0).trans rfl;have hcz9_1 : w8.cell? ⟨gb136,1,none⟩ = some (.int .i64 0):=(blk_cell BK136.out 1).trans rfl;have hcz9_2 : w8.cell? ⟨gb136,2,none⟩ = some (.string (⟨#[]⟩ : ByteArray)):=(blk_cell BK136.out 2).trans rfl;have hfz9_0:=blk_frozen BK136.out 0;have hfz9_1:=blk_frozen BK136.out 1;have hfz9_2:=blk_frozen BK136.out 2))
   refine bodyPost_ret (results_cell_row rfl _ _ gb136 24 #[.int .i64 3,.int .i64 t138,.string a0] (0,0) _ rfl (by (with_reducible repeat (first|refine blk_drewN ?_ _|refine blk_drew ?_|refine blk_alloc ?_ _));refine blk_put (cs:=#[.int .i64 3,.int .i64 t138,.string (⟨#[]⟩ : ByteArray)]) ?_ 2 _ rfl;(with_reducible repeat (first|refine blk_drewN ?_ _|refine blk_drew ?_|refine blk_alloc ?_ _));refine blk_put (cs:=#[.int .i64 3,.int .i64 0,.string (⟨#[]⟩ : ByteArray)]) ?_ 1 _ rfl;(with_reducible repeat (first|refine blk_drewN ?_ _|refine blk_drew ?_|refine blk_alloc ?_ _));refine blk_put (cs:=#[.int .i64 0,.int .i64 0,.string (⟨#[]⟩ : ByteArray)]) ?_ 0 _ rfl;(with_reducible repeat (first|refine blk_drewN ?_ _|refine blk_drew ?_|refine blk_alloc ?_ _));exact BK136.out) Tryz.underlying24 rfl (by kernel_rfl)) rfl ?_
   exact ⟨by first|rfl|(simp [errW_none,errW_some] <;> rfl)|(simp [*,errW_none,errW_some] <;> rfl),by repeat (first|(with_reducible first|exact HB.out|apply below_alloc|apply pw_below_drewN|apply below_drew1|refine below_set ?_ GE136.out)|exact HB.out)⟩
  ·replace c6:=Bool.eq_false_iff.mpr c6
   subst c6
   have H1 : (some (2,0,a0)) = some (r1,r2,r3):=by rw [if_neg (show ¬ (false = true) by decide)] at H;exact H
   clear H
   have H:=H1
   clear H1
   simp only [Option.some.injEq,Prod.mk.injEq] at H
   obtain ⟨rfl,rfl,rfl⟩:=H
   go_enter Tryz.func89,Tryz.ntmps89
   go_wp2_with (first|((with_reducible refine gate_dst (N:=2) rfl ?_);refine box_event ?hg (N:=2) ?hd (cs:=#[.int .i64 0,.int .i64 0,.string (⟨#[]⟩ : ByteArray)]) (t:=24) ?hr ?_;(case hd=>rfl);(case hg=>rfl);(case hr=>first|(go_simp;done)|(go_simp;rfl));intro gb136 hg w10 hbox hb;have n0_:=Aside0.mk (below_step (by repeat (first|(with_reducible first|exact HB.out|apply below_alloc|apply pw_below_drewN|apply below_drew1)|exact HB.out)) hb);have n1_:=Aside0.mk (hbox);have n2_:=Aside0.mk ((by rw [hg];exact (below_size (by repeat (first|(with_reducible first|exact HB.out|apply below_alloc|apply pw_below_drewN|apply below_drew1)|exact HB.out))) : w.heap.size ≤ gb136));have n3_:=Aside0.mk ((by rw [hg];exact (below_size (by repeat (first|(with_reducible first|exact HB.out|apply below_alloc|apply pw_below_drewN|apply below_drew1)|exact HB.out))) : w.heap.size ≤ gb136));clear HB;have HB:=n0_;have BK136:=n1_;have GW136:=n2_;have GE136:=n3_;clear n0_ n1_ n2_ n3_;clear hb hbox hg)|((with_reducible refine gate_callee (f:=70) rfl ?_);refine goesL_ (some 10) rfl rfl Tryz.func70 (by kernel_rfl) rfl #[.string a0] rfl (by (try simp only [List.map_toArray,List.map_cons,List.map_nil]);first|done|rfl|(simp only [List.length_drop,List.length_take];rfl)) ?_;(with_reducible refine (spec_LooksNum.calls k a0 false _ A5.out).mono ?_);rintro e w' ⟨rfl,⟨nd,rfl⟩⟩;refine ⟨_,rfl,?_⟩;(try (rw [drewN_self w10];generalize hq_ : World.drewN w10 _ = w10;have n0_ : Aside0 (w10.heap[gb136]? = some (.cells #[.int .i64 0,.int .i64 0,.string (⟨#[]⟩ : ByteArray)] 24 (0,0))):=⟨by rw [← hq_];exact (by (with_reducible repeat (first|refine blk_drewN ?_ _|refine blk_drew ?_|refine blk_alloc ?_ _));exact BK136.out)⟩;have n1_ : Aside0 (Below w.heap.size w w10):=⟨by rw [← hq_];exact (by repeat (first|(with_reducible first|exact HB.out|apply below_alloc|apply pw_below_drewN|apply below_drew1|refine below_set ?_ GE136.out)|exact HB.out))⟩;clear BK136 HB hq_;have BK136:=n0_;have HB:=n1_;clear n0_ n1_));have hcz11_0 : w10.cell? ⟨gb136,0,none⟩ = some (.int .i64 0):=(blk_cell BK136.out 0).trans rfl;have hcz11_1 : w10.cell? ⟨gb136,1,none⟩ = some (.int .i64 0):=(blk_cell BK136.out 1).trans rfl;have hcz11_2 : w10.cell? ⟨gb136,2,none⟩ = some (.string (⟨#[]⟩ : ByteArray)):=(blk_cell BK136.out 2).trans rfl;have hfz11_0:=blk_frozen BK136.out 0;have hfz11_1:=blk_frozen BK136.out 1;have hfz11_2:=blk_frozen BK136.out 2))
   refine bodyPost_ret (results_cell_row rfl _ _ gb136 24 #[.int .i64 2,.int .i64 0,.string a0] (0,0) _ rfl (by (with_reducible repeat (first|refine blk_drewN ?_ _|refine blk_drew ?_|refine blk_alloc ?_ _));refine blk_put (cs:=#[.int .i64 2,.int .i64 0,.string (⟨#[]⟩ : ByteArray)]) ?_ 2 _ rfl;(with_reducible repeat (first|refine blk_drewN ?_ _|refine blk_drew ?_|refine blk_alloc ?_ _));refine blk_put (cs:=#[.int .i64 2,.int .i64 0,.string (⟨#[]⟩ : ByteArray)]) ?_ 1 _ rfl;(with_reducible repeat (first|refine blk_drewN ?_ _|refine blk_drew ?_|refine blk_alloc ?_ _));refine blk_put (cs:=#[.int .i64 0,.int .i64 0,.string (⟨#[]⟩ : ByteArray)]) ?_ 0 _ rfl;(with_reducible repeat (first|refine blk_drewN ?_ _|refine blk_drew ?_|refine blk_alloc ?_ _));exact BK136.out) Tryz.underlying24 rfl (by kernel_rfl)) rfl ?_
   exact ⟨by first|rfl|(simp [errW_none,errW_some] <;> rfl)|(simp [*,errW_none,errW_some] <;> rfl),by repeat (first|(with_reducible first|exact HB.out|apply below_alloc|apply pw_below_drewN|apply below_drew1|refine below_set ?_ GE136.out)|exact HB.out)⟩
def spec_l7draw.f (k : Nat) (s0_0 : List Int) (s0_1 : Int) (s0_2 : Int) : Option (Int × Int × ByteArray × Int × Int):=(spec_l1Below.f s0_0 s0_1 s0_2 4).bind fun bt141=>(if bt141.1 = 0 then (some (0,0,(⟨#[]⟩ : ByteArray),bt141.2.1,bt141.2.2)) else (if bt141.1 = 1 then ((spec_l1Below.f s0_0 bt141.2.1 bt141.2.2 20).bind fun bt144=>((spec_l1Below.f s0_0 bt144.2.1 bt144.2.2 2).bind fun bt147=>(some (1,wrap64 ((wrap64 ((wrap64 (bt144.1 - 5)) * 500000)) + bt147.1),(⟨#[]⟩ : ByteArray),bt147.2.1,bt147.2.2)))) else (if bt141.1 = 2 then ((spec_l1text.f s0_0 bt141.2.1 bt141.2.2 (([(⟨#[51]⟩ : ByteArray),(⟨#[32,51,32]⟩ : ByteArray),(⟨#[45,49,46,53]⟩ : ByteArray),(⟨#[120]⟩ : ByteArray),(⟨#[]⟩ : ByteArray),(⟨#[51,120]⟩ : ByteArray),(⟨#[49,48]⟩ : ByteArray)] : List ByteArray))).bind fun bt153=>((spec_FieldCell.f k bt153.1).bind fun bt156=>(some (bt156.1,bt156.2.1,bt156.2.2,bt153.2.1,bt153.2.2)))) else ((spec_l1text.f s0_0 bt141.2.1 bt141.2.2 (([(⟨#[]⟩ : ByteArray),(⟨#[51]⟩ : ByteArray),(⟨#[97]⟩ : ByteArray),(⟨#[97,98]⟩ : ByteArray),(⟨#[49,48]⟩ : ByteArray),(⟨#[32,50]⟩ : ByteArray)] : List ByteArray))).bind fun bt162=>(some (2,0,bt162.1,bt162.2.1,bt162.2.2))))))
set_option maxHeartbeats 8000000 in
set_option maxRecDepth 100000 in
theorem spec_l7draw.calls (k : Nat) (g : Nat) (s0_0 : List Int) (s0_1 : Int) (s0_2 : Int) (r1 : Int) (r2 : Int) (r3 : ByteArray) (r4 : Int) (r5 : Int) (w0 w : World) (hI : IsS82 w0 w g s0_0 s0_1 s0_2) (hB : Below w0.heap.size w0 w) (h : spec_l7draw.f k s0_0 s0_1 s0_2 = some (r1,r2,r3,r4,r5)) :
  Calls Tryz.prog 60 #[.pointer (some ⟨g,0,none⟩)] w fun e w'=>e = .returned (.agg #[.int .i64 r1,.int .i64 r2,.string r3]) ∧ IsS82 w0 w' g s0_0 r4 r5 ∧ Below w0.heap.size w0 w' ∧ KeepBut w w' g none:=by
 have hu24:=Tryz.underlying24
 have HI0:=Aside0.mk hI
 have HK:=Aside0.mk (KeepBut.refl w g none)
 have HL:=Aside0.mk hB.size
 clear hI
 have HW0:=Aside0.mk hB.size
 have HB:=Aside0.mk hB
 clear hB
 have H : ((spec_l1Below.f s0_0 s0_1 s0_2 4).bind fun bt141=>(if bt141.1 = 0 then (some (0,0,(⟨#[]⟩ : ByteArray),bt141.2.1,bt141.2.2)) else (if bt141.1 = 1 then ((spec_l1Below.f s0_0 bt141.2.1 bt141.2.2 20).bind fun bt144=>((spec_l1Below.f s0_0 bt144.2.1 bt144.2.2 2).bind fun bt147=>(some (1,wrap64 ((wrap64 ((wrap64 (bt144.1 - 5)) * 500000)) + bt147.1),(⟨#[]⟩ : ByteArray),bt147.2.1,bt147.2.2)))) else (if bt141.1 = 2 then ((spec_l1text.f s0_0 bt141.2.1 bt141.2.2 (([(⟨#[51]⟩ : ByteArray),(⟨#[32,51,32]⟩ : ByteArray),(⟨#[45,49,46,53]⟩ : ByteArray),(⟨#[120]⟩ : ByteArray),(⟨#[]⟩ : ByteArray),(⟨#[51,120]⟩ : ByteArray),(⟨#[49,48]⟩ : ByteArray)] : List ByteArray))).bind fun bt153=>((spec_FieldCell.f k bt153.1).bind fun bt156=>(some (bt156.1,bt156.2.1,bt156.2.2,bt153.2.1,bt153.2.2)))) else ((spec_l1text.f s0_0 bt141.2.1 bt141.2.2 (([(⟨#[]⟩ : ByteArray),(⟨#[51]⟩ : ByteArray),(⟨#[97]⟩ : ByteArray),(⟨#[97,98]⟩ : ByteArray),(⟨#[49,48]⟩ : ByteArray),(⟨#[32,50]⟩ : ByteArray)] : List ByteArray))).bind fun bt162=>(some (2,0,bt162.1,bt162.2.1,bt162.2.2))))))) = some (r1,r2,r3,r4,r5):=h
 clear h
 replace H:=Option.bind_eq_some_iff.mp H
 obtain ⟨⟨t141,t142,t143⟩,A20,H⟩:=H
 replace H : (if t141 = 0 then (some (0,0,(⟨#[]⟩ : ByteArray),t142,t143)) else (if t141 = 1 then ((spec_l1Below.f s0_0 t142 t143 20).bind fun bt144=>((spec_l1Below.f s0_0 bt144.2.1 bt144.2.2 2).bind fun bt147=>(some (1,wrap64 ((wrap64 ((wrap64 (bt144.1 - 5)) * 500000)) + bt147.1),(⟨#[]⟩ : ByteArray),bt147.2.1,bt147.2.2)))) else (if t141 = 2 then ((spec_l1text.f s0_0 t142 t143 (([(⟨#[51]⟩ : ByteArray),(⟨#[32,51,32]⟩ : ByteArray),(⟨#[45,49,46,53]⟩ : ByteArray),(⟨#[120]⟩ : ByteArray),(⟨#[]⟩ : ByteArray),(⟨#[51,120]⟩ : ByteArray),(⟨#[49,48]⟩ : ByteArray)] : List ByteArray))).bind fun bt153=>((spec_FieldCell.f k bt153.1).bind fun bt156=>(some (bt156.1,bt156.2.1,bt156.2.2,bt153.2.1,bt153.2.2)))) else ((spec_l1text.f s0_0 t142 t143 (([(⟨#[]⟩ : ByteArray),(⟨#[51]⟩ : ByteArray),(⟨#[97]⟩ : ByteArray),(⟨#[97,98]⟩ : ByteArray),(⟨#[49,48]⟩ : ByteArray),(⟨#[32,50]⟩ : ByteArray)] : List ByteArray))).bind fun bt162=>(some (2,0,bt162.1,bt162.2.1,bt162.2.2)))))) = some (r1,r2,r3,r4,r5):=H
 have A2:=Aside0.mk A20
 clear A20
 by_cases c3 : t141 = 0
 ·rw [if_pos c3] at H
  have c3b0 : (t141 == 0) = true:=beq_iff_eq.mpr c3
  have c3b1 : (t141 != 0) = false:=bne_eq_false_iff_eq.mpr c3
  clear c3
  simp only [Option.some.injEq,Prod.mk.injEq] at H
  obtain ⟨rfl,rfl,rfl,rfl,rfl⟩:=H
  go_enter Tryz.func60,Tryz.ntmps60
  go_wp2_with (first|((with_reducible refine gate_dst (N:=2) rfl ?_);refine box_event ?hg (N:=2) ?hd (cs:=#[.int .i64 0,.int .i64 0,.string (⟨#[]⟩ : ByteArray)]) (t:=24) ?hr ?_;(case hd=>rfl);(case hg=>rfl);(case hr=>first|(go_simp;done)|(go_simp;rfl));intro gb140 hg w4 hbox hb;have n0_:=Aside0.mk (IsS82.below (by repeat (first|(with_reducible first|exact HI0.out|apply IsS82.alloc|apply IsS82.drewN|apply IsS82.drew|apply IsS82.set_1|apply IsS82.set_2)|exact HI0.out)) hb);have n1_:=Aside0.mk (KeepBut.trans (by repeat (first|(with_reducible first|exact HK.out|apply KeepBut.set_|apply keep_drewN|apply keep_drew|apply keep_alloc)|exact HK.out)) (KeepBut.of_below hb g none) (.inl rfl));have n2_:=Aside0.mk (below_step (by repeat (first|(with_reducible first|exact HB.out|apply below_alloc|apply pw_below_drewN|apply below_drew1|refine below_set ?_ (IsS82.ge HI0.out))|exact HB.out)) hb);have n3_:=Aside0.mk (hbox);have n4_:=Aside0.mk ((by rw [hg];exact (keep_size (w:=w) (g:=g) (row:=none) (by repeat (first|(with_reducible first|exact HK.out|apply KeepBut.set_|apply keep_drewN|apply keep_drew|apply keep_alloc)|exact HK.out))) : w.heap.size ≤ gb140));have n5_:=Aside0.mk ((Nat.le_trans HW0.out (by rw [hg];exact (keep_size (w:=w) (g:=g) (row:=none) (by repeat (first|(with_reducible first|exact HK.out|apply KeepBut.set_|apply keep_drewN|apply keep_drew|apply keep_alloc)|exact HK.out))) : w.heap.size ≤ gb140) : w0.heap.size ≤ gb140));have n6_:=Aside0.mk ((by rw [hg];exact Nat.ne_of_lt (IsS82.lt (show IsS82 w0 _ g s0_0 s0_1 s0_2 from by repeat (first|(with_reducible first|exact HI0.out|apply IsS82.alloc|apply IsS82.drewN|apply IsS82.drew|apply IsS82.set_1|apply IsS82.set_2)|exact HI0.out))) : g ≠ gb140));have n7_:=Aside0.mk ((by rw [hg];exact Nat.ne_of_gt (IsS82.lt (show IsS82 w0 _ g s0_0 s0_1 s0_2 from by repeat (first|(with_reducible first|exact HI0.out|apply IsS82.alloc|apply IsS82.drewN|apply IsS82.drew|apply IsS82.set_1|apply IsS82.set_2)|exact HI0.out))) : gb140 ≠ g));clear HI0;clear HK;clear HB;have HI0:=n0_;have HK:=n1_;have HB:=n2_;have BK140:=n3_;have GW140:=n4_;have GE140:=n5_;have NB0_140:=n6_;have NB140_0:=n7_;clear n0_ n1_ n2_ n3_ n4_ n5_ n6_ n7_;clear hb hbox hg)|((with_reducible refine gate_callee (f:=59) rfl ?_);refine goesL_ (some 4) rfl rfl Tryz.func59 (by kernel_rfl) rfl #[.pointer (some ⟨g,0,none⟩),.int .i64 4] rfl (by (try simp only [List.map_toArray,List.map_cons,List.map_nil]);first|done|rfl|(simp only [List.length_drop,List.length_take];rfl)) ?_;(with_reducible refine (spec_l1Below.calls g s0_0 s0_1 s0_2 4 t141 t142 t143 w0 _ ?side1 ?side2 A2.out).mono ?_);(case side1=>repeat (first|(with_reducible first|exact HI0.out|apply IsS82.alloc|apply IsS82.drewN|apply IsS82.drew|apply IsS82.set_1|apply IsS82.set_2|refine IsS82.far ?_ NB0_140.out _)|exact HI0.out));(case side2=>repeat (first|(with_reducible first|exact HB.out|apply below_alloc|apply pw_below_drewN|apply below_drew1|refine below_set ?_ (IsS82.ge HI0.out)|refine below_set ?_ GE140.out)|exact HB.out));rintro e w5 ⟨rfl,hi,hb,hk⟩;refine ⟨_,rfl,?_⟩;have n0_:=Aside0.mk (KeepBut.blk hk (g':=gb140) (o:=.cells #[.int .i64 0,.int .i64 0,.string (⟨#[]⟩ : ByteArray)] 24 (0,0)) (by (with_reducible repeat (first|refine blk_drewN ?_ _|refine blk_drew ?_|refine blk_alloc ?_ _));exact BK140.out) NB140_0.out (by simp));have n1_:=Aside0.mk (KeepBut.trans (by repeat (first|(with_reducible first|exact HK.out|apply KeepBut.set_|apply keep_drewN|apply keep_drew|apply keep_alloc|refine keep_far ?_ GW140.out _)|exact HK.out)) hk (.inl rfl));have n2_:=Aside0.mk (hb);have n3_:=Aside0.mk (hi);clear BK140;clear HK;clear HB;clear HI0;have BK140:=n0_;have HK:=n1_;have HB:=n2_;have HI0:=n3_;clear n0_ n1_ n2_ n3_;(try clear hb);(try clear hb2);(try clear hk);(try clear hi);have hnb6:=NB140_0.out;have hnc6:=NB0_140.out;have hcz7_0 : w5.cell? ⟨gb140,0,none⟩ = some (.int .i64 0):=(blk_cell BK140.out 0).trans rfl;have hcz7_1 : w5.cell? ⟨gb140,1,none⟩ = some (.int .i64 0):=(blk_cell BK140.out 1).trans rfl;have hcz7_2 : w5.cell? ⟨gb140,2,none⟩ = some (.string (⟨#[]⟩ : ByteArray)):=(blk_cell BK140.out 2).trans rfl;have hfz7_0:=blk_frozen BK140.out 0;have hfz7_1:=blk_frozen BK140.out 1;have hfz7_2:=blk_frozen BK140.out 2))
  refine bodyPost_ret (results_cell_row rfl _ _ gb140 24 #[.int .i64 0,.int .i64 0,.string (⟨#[]⟩ : ByteArray)] (0,0) _ rfl (by (with_reducible repeat (first|refine blk_drewN ?_ _|refine blk_drew ?_|refine blk_alloc ?_ _));refine blk_put (cs:=#[.int .i64 0,.int .i64 0,.string (⟨#[]⟩ : ByteArray)]) ?_ 2 _ rfl;(with_reducible repeat (first|refine blk_drewN ?_ _|refine blk_drew ?_|refine blk_alloc ?_ _));refine blk_put (cs:=#[.int .i64 0,.int .i64 0,.string (⟨#[]⟩ : ByteArray)]) ?_ 1 _ rfl;(with_reducible repeat (first|refine blk_drewN ?_ _|refine blk_drew ?_|refine blk_alloc ?_ _));refine blk_put (cs:=#[.int .i64 0,.int .i64 0,.string (⟨#[]⟩ : ByteArray)]) ?_ 0 _ rfl;(with_reducible repeat (first|refine blk_drewN ?_ _|refine blk_drew ?_|refine blk_alloc ?_ _));exact BK140.out) Tryz.underlying24 rfl (by kernel_rfl)) rfl ?_
  exact ⟨by first|rfl|(simp [errW_none,errW_some] <;> rfl)|(simp [*,errW_none,errW_some] <;> rfl),by repeat (first|(with_reducible first|exact HI0.out|apply IsS82.alloc|apply IsS82.drewN|apply IsS82.drew|apply IsS82.set_1|apply IsS82.set_2|refine IsS82.far ?_ NB0_140.out _)|exact HI0.out),by repeat (first|(with_reducible first|exact HB.out|apply below_alloc|apply pw_below_drewN|apply below_drew1|refine below_set ?_ (IsS82.ge HI0.out)|refine below_set ?_ GE140.out)|exact HB.out),by repeat (first|(with_reducible first|exact HK.out|apply KeepBut.set_|apply keep_drewN|apply keep_drew|apply keep_alloc|refine keep_far ?_ GW140.out _)|exact HK.out)⟩
 ·rw [if_neg c3] at H
  have c3b0 : (t141 == 0) = false:=beq_eq_false_iff_ne.mpr c3
  have c3b1 : (t141 != 0) = true:=bne_iff_ne.mpr c3
  by_cases c8 : t141 = 1
  ·rw [if_pos c8] at H
   have c8b0 : (t141 == 1) = true:=beq_iff_eq.mpr c8
   have c8b1 : (t141 != 1) = false:=bne_eq_false_iff_eq.mpr c8
   clear c8
   replace H:=Option.bind_eq_some_iff.mp H
   obtain ⟨⟨t144,t145,t146⟩,A90,H⟩:=H
   replace H : ((spec_l1Below.f s0_0 t145 t146 2).bind fun bt147=>(some (1,wrap64 ((wrap64 ((wrap64 (t144 - 5)) * 500000)) + bt147.1),(⟨#[]⟩ : ByteArray),bt147.2.1,bt147.2.2))) = some (r1,r2,r3,r4,r5):=H
   have A9:=Aside0.mk A90
   clear A90
   replace H:=Option.bind_eq_some_iff.mp H
   obtain ⟨⟨t147,t148,t149⟩,A100,H⟩:=H
   replace H : (some (1,wrap64 ((wrap64 ((wrap64 (t144 - 5)) * 500000)) + t147),(⟨#[]⟩ : ByteArray),t148,t149)) = some (r1,r2,r3,r4,r5):=H
   have A10:=Aside0.mk A100
   clear A100
   simp only [Option.some.injEq,Prod.mk.injEq] at H
   obtain ⟨rfl,rfl,rfl,rfl,rfl⟩:=H
   go_enter Tryz.func60,Tryz.ntmps60
   go_wp2_with (first|((with_reducible refine gate_dst (N:=2) rfl ?_);refine box_event ?hg (N:=2) ?hd (cs:=#[.int .i64 0,.int .i64 0,.string (⟨#[]⟩ : ByteArray)]) (t:=24) ?hr ?_;(case hd=>rfl);(case hg=>rfl);(case hr=>first|(go_simp;done)|(go_simp;rfl));intro gb140 hg w11 hbox hb;have n0_:=Aside0.mk (IsS82.below (by repeat (first|(with_reducible first|exact HI0.out|apply IsS82.alloc|apply IsS82.drewN|apply IsS82.drew|apply IsS82.set_1|apply IsS82.set_2)|exact HI0.out)) hb);have n1_:=Aside0.mk (KeepBut.trans (by repeat (first|(with_reducible first|exact HK.out|apply KeepBut.set_|apply keep_drewN|apply keep_drew|apply keep_alloc)|exact HK.out)) (KeepBut.of_below hb g none) (.inl rfl));have n2_:=Aside0.mk (below_step (by repeat (first|(with_reducible first|exact HB.out|apply below_alloc|apply pw_below_drewN|apply below_drew1|refine below_set ?_ (IsS82.ge HI0.out))|exact HB.out)) hb);have n3_:=Aside0.mk (hbox);have n4_:=Aside0.mk ((by rw [hg];exact (keep_size (w:=w) (g:=g) (row:=none) (by repeat (first|(with_reducible first|exact HK.out|apply KeepBut.set_|apply keep_drewN|apply keep_drew|apply keep_alloc)|exact HK.out))) : w.heap.size ≤ gb140));have n5_:=Aside0.mk ((Nat.le_trans HW0.out (by rw [hg];exact (keep_size (w:=w) (g:=g) (row:=none) (by repeat (first|(with_reducible first|exact HK.out|apply KeepBut.set_|apply keep_drewN|apply keep_drew|apply keep_alloc)|exact HK.out))) : w.heap.size ≤ gb140) : w0.heap.size ≤ gb140));have n6_:=Aside0.mk ((by rw [hg];exact Nat.ne_of_lt (IsS82.lt (show IsS82 w0 _ g s0_0 s0_1 s0_2 from by repeat (first|(with_reducible first|exact HI0.out|apply IsS82.alloc|apply IsS82.drewN|apply IsS82.drew|apply IsS82.set_1|apply IsS82.set_2)|exact HI0.out))) : g ≠ gb140));have n7_:=Aside0.mk ((by rw [hg];exact Nat.ne_of_gt (IsS82.lt (show IsS82 w0 _ g s0_0 s0_1 s0_2 from by repeat (first|(with_reducible first|exact HI0.out|apply IsS82.alloc|apply IsS82.drewN|apply IsS82.drew|apply IsS82.set_1|apply IsS82.set_2)|exact HI0.out))) : gb140 ≠ g));clear HI0;clear HK;clear HB;have HI0:=n0_;have HK:=n1_;have HB:=n2_;have BK140:=n3_;have GW140:=n4_;have GE140:=n5_;have NB0_140:=n6_;have NB140_0:=n7_;clear n0_ n1_ n2_ n3_ n4_ n5_ n6_ n7_;clear hb hbox hg)|((with_reducible refine gate_callee (f:=59) rfl ?_);refine goesL_ (some 4) rfl rfl Tryz.func59 (by kernel_rfl) rfl #[.pointer (some ⟨g,0,none⟩),.int .i64 4] rfl (by (try simp only [List.map_toArray,List.map_cons,List.map_nil]);first|done|rfl|(simp only [List.length_drop,List.length_take];rfl)) ?_;(with_reducible refine (spec_l1Below.calls g s0_0 s0_1 s0_2 4 t141 t142 t143 w0 _ ?side1 ?side2 A2.out).mono ?_);(case side1=>repeat (first|(with_reducible first|exact HI0.out|apply IsS82.alloc|apply IsS82.drewN|apply IsS82.drew|apply IsS82.set_1|apply IsS82.set_2|refine IsS82.far ?_ NB0_140.out _)|exact HI0.out));(case side2=>repeat (first|(with_reducible first|exact HB.out|apply below_alloc|apply pw_below_drewN|apply below_drew1|refine below_set ?_ (IsS82.ge HI0.out)|refine below_set ?_ GE140.out)|exact HB.out));rintro e w12 ⟨rfl,hi,hb,hk⟩;refine ⟨_,rfl,?_⟩;have n0_:=Aside0.mk (KeepBut.blk hk (g':=gb140) (o:=.cells #[.int .i64 0,.int .i64 0,.string (⟨#[]⟩ : ByteArray)] 24 (0,0)) (by (with_reducible repeat (first|refine blk_drewN ?_ _|refine blk_drew ?_|refine blk_alloc ?_ _));exact BK140.out) NB140_0.out (by simp));have n1_:=Aside0.mk (KeepBut.trans (by repeat (first|(with_reducible first|exact HK.out|apply KeepBut.set_|apply keep_drewN|apply keep_drew|apply keep_alloc|refine keep_far ?_ GW140.out _)|exact HK.out)) hk (.inl rfl));have n2_:=Aside0.mk (hb);have n3_:=Aside0.mk (hi);clear BK140;clear HK;clear HB;clear HI0;have BK140:=n0_;have HK:=n1_;have HB:=n2_;have HI0:=n3_;clear n0_ n1_ n2_ n3_;(try clear hb);(try clear hb2);(try clear hk);(try clear hi))|((with_reducible refine gate_callee (f:=59) rfl ?_);refine goesL_ (some 11) rfl rfl Tryz.func59 (by kernel_rfl) rfl #[.pointer (some ⟨g,0,none⟩),.int .i64 20] rfl (by (try simp only [List.map_toArray,List.map_cons,List.map_nil]);first|done|rfl|(simp only [List.length_drop,List.length_take];rfl)) ?_;(with_reducible refine (spec_l1Below.calls g s0_0 t142 t143 20 t144 t145 t146 w0 _ ?side1 ?side2 A9.out).mono ?_);(case side1=>repeat (first|(with_reducible first|exact HI0.out|apply IsS82.alloc|apply IsS82.drewN|apply IsS82.drew|apply IsS82.set_1|apply IsS82.set_2|refine IsS82.far ?_ NB0_140.out _)|exact HI0.out));(case side2=>repeat (first|(with_reducible first|exact HB.out|apply below_alloc|apply pw_below_drewN|apply below_drew1|refine below_set ?_ (IsS82.ge HI0.out)|refine below_set ?_ GE140.out)|exact HB.out));rintro e w13 ⟨rfl,hi,hb,hk⟩;refine ⟨_,rfl,?_⟩;have n0_:=Aside0.mk (KeepBut.blk hk (g':=gb140) (o:=.cells #[.int .i64 0,.int .i64 0,.string (⟨#[]⟩ : ByteArray)] 24 (0,0)) (by (with_reducible repeat (first|refine blk_drewN ?_ _|refine blk_drew ?_|refine blk_alloc ?_ _));exact BK140.out) NB140_0.out (by simp));have n1_:=Aside0.mk (KeepBut.trans (by repeat (first|(with_reducible first|exact HK.out|apply KeepBut.set_|apply keep_drewN|apply keep_drew|apply keep_alloc|refine keep_far ?_ GW140.out _)|exact HK.out)) hk (.inl rfl));have n2_:=Aside0.mk (hb);have n3_:=Aside0.mk (hi);clear BK140;clear HK;clear HB;clear HI0;have BK140:=n0_;have HK:=n1_;have HB:=n2_;have HI0:=n3_;clear n0_ n1_ n2_ n3_;(try clear hb);(try clear hb2);(try clear hk);(try clear hi))|((with_reducible refine gate_callee (f:=59) rfl ?_);refine goesL_ (some 15) rfl rfl Tryz.func59 (by kernel_rfl) rfl #[.pointer (some ⟨g,0,none⟩),.int .i64 2] rfl (by (try simp only [List.map_toArray,List.map_cons,List.map_nil]);first|done|rfl|(simp only [List.length_drop,List.length_take];rfl)) ?_;(with_reducible refine (spec_l1Below.calls g s0_0 t145 t146 2 t147 t148 t149 w0 _ ?side1 ?side2 A10.out).mono ?_);(case side1=>repeat (first|(with_reducible first|exact HI0.out|apply IsS82.alloc|apply IsS82.drewN|apply IsS82.drew|apply IsS82.set_1|apply IsS82.set_2|refine IsS82.far ?_ NB0_140.out _)|exact HI0.out));(case side2=>repeat (first|(with_reducible first|exact HB.out|apply below_alloc|apply pw_below_drewN|apply below_drew1|refine below_set ?_ (IsS82.ge HI0.out)|refine below_set ?_ GE140.out)|exact HB.out));rintro e w14 ⟨rfl,hi,hb,hk⟩;refine ⟨_,rfl,?_⟩;have n0_:=Aside0.mk (KeepBut.blk hk (g':=gb140) (o:=.cells #[.int .i64 0,.int .i64 0,.string (⟨#[]⟩ : ByteArray)] 24 (0,0)) (by (with_reducible repeat (first|refine blk_drewN ?_ _|refine blk_drew ?_|refine blk_alloc ?_ _));exact BK140.out) NB140_0.out (by simp));have n1_:=Aside0.mk (KeepBut.trans (by repeat (first|(with_reducible first|exact HK.out|apply KeepBut.set_|apply keep_drewN|apply keep_drew|apply keep_alloc|refine keep_far ?_ GW140.out _)|exact HK.out)) hk (.inl rfl));have n2_:=Aside0.mk (hb);have n3_:=Aside0.mk (hi);clear BK140;clear HK;clear HB;clear HI0;have BK140:=n0_;have HK:=n1_;have HB:=n2_;have HI0:=n3_;clear n0_ n1_ n2_ n3_;(try clear hb);(try clear hb2);(try clear hk);(try clear hi);have hnb15:=NB140_0.out;have hnc15:=NB0_140.out;have hcz16_0 : w14.cell? ⟨gb140,0,none⟩ = some (.int .i64 0):=(blk_cell BK140.out 0).trans rfl;have hcz16_1 : w14.cell? ⟨gb140,1,none⟩ = some (.int .i64 0):=(blk_cell BK140.out 1).trans rfl;have hcz16_2 : w14.cell? ⟨gb140,2,none⟩ = some (.string (⟨#[]⟩ : ByteArray)):=(blk_cell BK140.out 2).trans rfl;have hfz16_0:=blk_frozen BK140.out 0;have hfz16_1:=blk_frozen BK140.out 1;have hfz16_2:=blk_frozen BK140.out 2))
   refine bodyPost_ret (results_cell_row rfl _ _ gb140 24 #[.int .i64 1,.int .i64 (wrap64 ((wrap64 ((wrap64 (t144 - 5)) * 500000)) + t147)),.string (⟨#[]⟩ : ByteArray)] (0,0) _ rfl (by (with_reducible repeat (first|refine blk_drewN ?_ _|refine blk_drew ?_|refine blk_alloc ?_ _));refine blk_put (cs:=#[.int .i64 1,.int .i64 (wrap64 ((wrap64 ((wrap64 (t144 - 5)) * 500000)) + t147)),.string (⟨#[]⟩ : ByteArray)]) ?_ 2 _ rfl;(with_reducible repeat (first|refine blk_drewN ?_ _|refine blk_drew ?_|refine blk_alloc ?_ _));refine blk_put (cs:=#[.int .i64 1,.int .i64 0,.string (⟨#[]⟩ : ByteArray)]) ?_ 1 _ rfl;(with_reducible repeat (first|refine blk_drewN ?_ _|refine blk_drew ?_|refine blk_alloc ?_ _));refine blk_put (cs:=#[.int .i64 0,.int .i64 0,.string (⟨#[]⟩ : ByteArray)]) ?_ 0 _ rfl;(with_reducible repeat (first|refine blk_drewN ?_ _|refine blk_drew ?_|refine blk_alloc ?_ _));exact BK140.out) Tryz.underlying24 rfl (by kernel_rfl)) rfl ?_
   exact ⟨by first|rfl|(simp [errW_none,errW_some] <;> rfl)|(simp [*,errW_none,errW_some] <;> rfl),by repeat (first|(with_reducible first|exact HI0.out|apply IsS82.alloc|apply IsS82.drewN|apply IsS82.drew|apply IsS82.set_1|apply IsS82.set_2|refine IsS82.far ?_ NB0_140.out _)|exact HI0.out),by repeat (first|(with_reducible first|exact HB.out|apply below_alloc|apply pw_below_drewN|apply below_drew1|refine below_set ?_ (IsS82.ge HI0.out)|refine below_set ?_ GE140.out)|exact HB.out),by repeat (first|(with_reducible first|exact HK.out|apply KeepBut.set_|apply keep_drewN|apply keep_drew|apply keep_alloc|refine keep_far ?_ GW140.out _)|exact HK.out)⟩
  ·rw [if_neg c8] at H
   have c8b0 : (t141 == 1) = false:=beq_eq_false_iff_ne.mpr c8
   have c8b1 : (t141 != 1) = true:=bne_iff_ne.mpr c8
   by_cases c17 : t141 = 2
   ·rw [if_pos c17] at H
    have c17b0 : (t141 == 2) = true:=beq_iff_eq.mpr c17
    have c17b1 : (t141 != 2) = false:=bne_eq_false_iff_eq.mpr c17
    clear c17
    obtain ⟨y150,hy150⟩ : ∃ y_ : List ByteArray,y_ = (([(⟨#[51]⟩ : ByteArray),(⟨#[32,51,32]⟩ : ByteArray),(⟨#[45,49,46,53]⟩ : ByteArray),(⟨#[120]⟩ : ByteArray),(⟨#[]⟩ : ByteArray),(⟨#[51,120]⟩ : ByteArray),(⟨#[49,48]⟩ : ByteArray)] : List ByteArray)):=⟨_,rfl⟩
    replace H : ((spec_l1text.f s0_0 t142 t143 y150).bind fun bt153=>((spec_FieldCell.f k bt153.1).bind fun bt156=>(some (bt156.1,bt156.2.1,bt156.2.2,bt153.2.1,bt153.2.2)))) = some (r1,r2,r3,r4,r5):=by first|(rw [hy150];with_reducible exact H)|(have H2_:=(Option.bind_some _ _).symm.trans H;rw [hy150];with_reducible exact H2_)|(have H2_:=(Option.bind_some _ _).symm.trans H;with_reducible exact H2_)|with_reducible exact H|(rw [hy150];exact H)|exact H
    have Ny150:=Aside0.mk hy150
    clear hy150
    replace H:=Option.bind_eq_some_iff.mp H
    obtain ⟨⟨t153,t154,t155⟩,A180,H⟩:=H
    replace H : ((spec_FieldCell.f k t153).bind fun bt156=>(some (bt156.1,bt156.2.1,bt156.2.2,t154,t155))) = some (r1,r2,r3,r4,r5):=H
    have A18:=Aside0.mk A180
    clear A180
    replace H:=Option.bind_eq_some_iff.mp H
    obtain ⟨⟨t156,t157,t158⟩,A190,H⟩:=H
    replace H : (some (t156,t157,t158,t154,t155)) = some (r1,r2,r3,r4,r5):=H
    have A19:=Aside0.mk A190
    clear A190
    simp only [Option.some.injEq,Prod.mk.injEq] at H
    obtain ⟨rfl,rfl,rfl,rfl,rfl⟩:=H
    go_enter Tryz.func60,Tryz.ntmps60
    go_wp2_with (first|((with_reducible refine gate_dst (N:=2) rfl ?_);refine box_event ?hg (N:=2) ?hd (cs:=#[.int .i64 0,.int .i64 0,.string (⟨#[]⟩ : ByteArray)]) (t:=24) ?hr ?_;(case hd=>rfl);(case hg=>rfl);(case hr=>first|(go_simp;done)|(go_simp;rfl));intro gb140 hg w20 hbox hb;have n0_:=Aside0.mk (IsS82.below (by repeat (first|(with_reducible first|exact HI0.out|apply IsS82.alloc|apply IsS82.drewN|apply IsS82.drew|apply IsS82.set_1|apply IsS82.set_2)|exact HI0.out)) hb);have n1_:=Aside0.mk (KeepBut.trans (by repeat (first|(with_reducible first|exact HK.out|apply KeepBut.set_|apply keep_drewN|apply keep_drew|apply keep_alloc)|exact HK.out)) (KeepBut.of_below hb g none) (.inl rfl));have n2_:=Aside0.mk (below_step (by repeat (first|(with_reducible first|exact HB.out|apply below_alloc|apply pw_below_drewN|apply below_drew1|refine below_set ?_ (IsS82.ge HI0.out))|exact HB.out)) hb);have n3_:=Aside0.mk (hbox);have n4_:=Aside0.mk ((by rw [hg];exact (keep_size (w:=w) (g:=g) (row:=none) (by repeat (first|(with_reducible first|exact HK.out|apply KeepBut.set_|apply keep_drewN|apply keep_drew|apply keep_alloc)|exact HK.out))) : w.heap.size ≤ gb140));have n5_:=Aside0.mk ((Nat.le_trans HW0.out (by rw [hg];exact (keep_size (w:=w) (g:=g) (row:=none) (by repeat (first|(with_reducible first|exact HK.out|apply KeepBut.set_|apply keep_drewN|apply keep_drew|apply keep_alloc)|exact HK.out))) : w.heap.size ≤ gb140) : w0.heap.size ≤ gb140));have n6_:=Aside0.mk ((by rw [hg];exact Nat.ne_of_lt (IsS82.lt (show IsS82 w0 _ g s0_0 s0_1 s0_2 from by repeat (first|(with_reducible first|exact HI0.out|apply IsS82.alloc|apply IsS82.drewN|apply IsS82.drew|apply IsS82.set_1|apply IsS82.set_2)|exact HI0.out))) : g ≠ gb140));have n7_:=Aside0.mk ((by rw [hg];exact Nat.ne_of_gt (IsS82.lt (show IsS82 w0 _ g s0_0 s0_1 s0_2 from by repeat (first|(with_reducible first|exact HI0.out|apply IsS82.alloc|apply IsS82.drewN|apply IsS82.drew|apply IsS82.set_1|apply IsS82.set_2)|exact HI0.out))) : gb140 ≠ g));clear HI0;clear HK;clear HB;have HI0:=n0_;have HK:=n1_;have HB:=n2_;have BK140:=n3_;have GW140:=n4_;have GE140:=n5_;have NB0_140:=n6_;have NB140_0:=n7_;clear n0_ n1_ n2_ n3_ n4_ n5_ n6_ n7_;clear hb hbox hg)|((with_reducible refine gate_callee (f:=59) rfl ?_);refine goesL_ (some 4) rfl rfl Tryz.func59 (by kernel_rfl) rfl #[.pointer (some ⟨g,0,none⟩),.int .i64 4] rfl (by (try simp only [List.map_toArray,List.map_cons,List.map_nil]);first|done|rfl|(simp only [List.length_drop,List.length_take];rfl)) ?_;(with_reducible refine (spec_l1Below.calls g s0_0 s0_1 s0_2 4 t141 t142 t143 w0 _ ?side1 ?side2 A2.out).mono ?_);(case side1=>repeat (first|(with_reducible first|exact HI0.out|apply IsS82.alloc|apply IsS82.drewN|apply IsS82.drew|apply IsS82.set_1|apply IsS82.set_2|refine IsS82.far ?_ NB0_140.out _)|exact HI0.out));(case side2=>repeat (first|(with_reducible first|exact HB.out|apply below_alloc|apply pw_below_drewN|apply below_drew1|refine below_set ?_ (IsS82.ge HI0.out)|refine below_set ?_ GE140.out)|exact HB.out));rintro e w21 ⟨rfl,hi,hb,hk⟩;refine ⟨_,rfl,?_⟩;have n0_:=Aside0.mk (KeepBut.blk hk (g':=gb140) (o:=.cells #[.int .i64 0,.int .i64 0,.string (⟨#[]⟩ : ByteArray)] 24 (0,0)) (by (with_reducible repeat (first|refine blk_drewN ?_ _|refine blk_drew ?_|refine blk_alloc ?_ _));exact BK140.out) NB140_0.out (by simp));have n1_:=Aside0.mk (KeepBut.trans (by repeat (first|(with_reducible first|exact HK.out|apply KeepBut.set_|apply keep_drewN|apply keep_drew|apply keep_alloc|refine keep_far ?_ GW140.out _)|exact HK.out)) hk (.inl rfl));have n2_:=Aside0.mk (hb);have n3_:=Aside0.mk (hi);clear BK140;clear HK;clear HB;clear HI0;have BK140:=n0_;have HK:=n1_;have HB:=n2_;have HI0:=n3_;clear n0_ n1_ n2_ n3_;(try clear hb);(try clear hb2);(try clear hk);(try clear hi))|((with_reducible refine gate_dst (N:=21) rfl ?_);refine Kd.R_lit Kd.string _ 9 ?hg (N:=21) ?hd (xs:=([(⟨#[51]⟩ : ByteArray),(⟨#[32,51,32]⟩ : ByteArray),(⟨#[45,49,46,53]⟩ : ByteArray),(⟨#[120]⟩ : ByteArray),(⟨#[]⟩ : ByteArray),(⟨#[51,120]⟩ : ByteArray),(⟨#[49,48]⟩ : ByteArray)] : List ByteArray)) (inner:=[.string (⟨#[51]⟩ : ByteArray),.string (⟨#[32,51,32]⟩ : ByteArray),.string (⟨#[45,49,46,53]⟩ : ByteArray),.string (⟨#[120]⟩ : ByteArray),.string (⟨#[]⟩ : ByteArray),.string (⟨#[51,120]⟩ : ByteArray),.string (⟨#[49,48]⟩ : ByteArray)]) (ok:=fun _=>True) (okp:=fun _=>True) ?hr ?hp (fun _ hk=>hk) trivial (Below.refl _ _) (Nat.le_refl _) (by simp) ?_;(case hd=>rfl);(case hg=>rfl);(case hr=>first|(go_simp;done)|(go_simp;rfl));(case hp=>exact (Reps.one (show Kd.M Kd.string _ _ _ (⟨#[51]⟩ : ByteArray) [.string (⟨#[51]⟩ : ByteArray)] from rfl) (Reps.one (show Kd.M Kd.string _ _ _ (⟨#[32,51,32]⟩ : ByteArray) [.string (⟨#[32,51,32]⟩ : ByteArray)] from rfl) (Reps.one (show Kd.M Kd.string _ _ _ (⟨#[45,49,46,53]⟩ : ByteArray) [.string (⟨#[45,49,46,53]⟩ : ByteArray)] from rfl) (Reps.one (show Kd.M Kd.string _ _ _ (⟨#[120]⟩ : ByteArray) [.string (⟨#[120]⟩ : ByteArray)] from rfl) (Reps.one (show Kd.M Kd.string _ _ _ (⟨#[]⟩ : ByteArray) [.string (⟨#[]⟩ : ByteArray)] from rfl) (Reps.one (show Kd.M Kd.string _ _ _ (⟨#[51,120]⟩ : ByteArray) [.string (⟨#[51,120]⟩ : ByteArray)] from rfl) (Reps.one (show Kd.M Kd.string _ _ _ (⟨#[49,48]⟩ : ByteArray) [.string (⟨#[49,48]⟩ : ByteArray)] from rfl) (Reps.none _ _)))))))));intro v151 w22 ho23 hb hg_ hnew_;clear hg_ hnew_;(first|rw [← Ny150.out] at ho23|(simp only [Int.reduceToNat] at ho23;rw [← Ny150.out] at ho23));have n0_:=Aside0.mk (Kd.R_lower ho23 (keep_size (w:=w) (g:=g) (row:=none) (by repeat (first|(with_reducible first|exact HK.out|apply KeepBut.set_|apply keep_drewN|apply keep_drew|apply keep_alloc|refine keep_far ?_ GW140.out _)|exact HK.out))));have n1_:=Aside0.mk (IsS82.below (by repeat (first|(with_reducible first|exact HI0.out|apply IsS82.alloc|apply IsS82.drewN|apply IsS82.drew|apply IsS82.set_1|apply IsS82.set_2|refine IsS82.far ?_ NB0_140.out _)|exact HI0.out)) hb);have n2_:=Aside0.mk (blk_below (g:=gb140) (o:=.cells #[.int .i64 0,.int .i64 0,.string (⟨#[]⟩ : ByteArray)] 24 (0,0)) (by (with_reducible repeat (first|refine blk_drewN ?_ _|refine blk_drew ?_|refine blk_alloc ?_ _));exact BK140.out) hb);have n3_:=Aside0.mk (KeepBut.trans (by repeat (first|(with_reducible first|exact HK.out|apply KeepBut.set_|apply keep_drewN|apply keep_drew|apply keep_alloc|refine keep_far ?_ GW140.out _)|exact HK.out)) (KeepBut.of_below hb g none) (.inl rfl));have n4_:=Aside0.mk (below_step (by repeat (first|(with_reducible first|exact HB.out|apply below_alloc|apply pw_below_drewN|apply below_drew1|refine below_set ?_ (IsS82.ge HI0.out)|refine below_set ?_ GE140.out)|exact HB.out)) hb);clear HI0;clear BK140;clear HK;clear HB;have HO152:=n0_;have HI0:=n1_;have BK140:=n2_;have HK:=n3_;have HB:=n4_;clear n0_ n1_ n2_ n3_ n4_;clear hb ho23;obtain ⟨Ao24,co24,eo24⟩:=Kd.R_slice HO152.out;subst eo24)|((with_reducible refine gate_callee (f:=86) rfl ?_);refine goesL_ (some 22) rfl rfl Tryz.func86 (by kernel_rfl) rfl #[.pointer (some ⟨g,0,none⟩),.slice Ao24 y150.length co24] rfl (by (try simp only [List.map_toArray,List.map_cons,List.map_nil]);first|done|rfl|(simp only [List.length_drop,List.length_take];rfl)) ?_;(with_reducible refine (spec_l1text.calls g s0_0 t142 t143 _ _ y150 t153 t154 t155 w0 _ ?side1 ?side2 ?side3 ?side4 ?side5 A18.out).mono ?_);(case side1=>repeat (first|(with_reducible first|exact HI0.out|apply IsS82.alloc|apply IsS82.drewN|apply IsS82.drew|apply IsS82.set_1|apply IsS82.set_2|refine IsS82.far ?_ NB0_140.out _)|exact HI0.out));(case side2=>repeat (first|(with_reducible first|exact HB.out|apply below_alloc|apply pw_below_drewN|apply below_drew1|refine below_set ?_ (IsS82.ge HI0.out)|refine below_set ?_ GE140.out)|exact HB.out));(case side3=>repeat (first|exact (Kd.R_reads' HO152.out).2.2|(with_reducible refine Kd.C_alloc ?_ _)|(with_reducible refine Kd.C_drewN ?_ _)|(with_reducible refine Kd.C_drew ?_)));(case side4=>exact (Kd.R_reads' HO152.out).2.1);(case side5=>exact far_slice (IsS82.own_ne HI0.out HO152.out (by decide)));rintro e w25 ⟨rfl,hi,hb,hk⟩;refine ⟨_,rfl,?_⟩;have n0_:=Aside0.mk (KeepBut.blk hk (g':=gb140) (o:=.cells #[.int .i64 0,.int .i64 0,.string (⟨#[]⟩ : ByteArray)] 24 (0,0)) (by (with_reducible repeat (first|refine blk_drewN ?_ _|refine blk_drew ?_|refine blk_alloc ?_ _));exact BK140.out) NB140_0.out (by simp));have n1_:=Aside0.mk (Kd.R_mono (Kd.R_keep (IsS82.apart (show IsS82 w0 _ g s0_0 t142 t143 from by repeat (first|(with_reducible first|exact HI0.out|apply IsS82.alloc|apply IsS82.drewN|apply IsS82.drew|apply IsS82.set_1|apply IsS82.set_2|refine IsS82.far ?_ NB0_140.out _)|exact HI0.out)) (by (with_reducible repeat (first|apply Kd.R_alloc|apply Kd.R_drewN|apply Kd.R_drew));exact HO152.out) (by decide)) hk (fun _ h=>h.2)) (fun _ h=>h.1));have n2_:=Aside0.mk (KeepBut.trans (by repeat (first|(with_reducible first|exact HK.out|apply KeepBut.set_|apply keep_drewN|apply keep_drew|apply keep_alloc|refine keep_far ?_ GW140.out _)|exact HK.out)) hk (.inl rfl));have n3_:=Aside0.mk (hb);have n4_:=Aside0.mk (hi);clear BK140;clear HO152;clear HK;clear HB;clear HI0;have BK140:=n0_;have HO152:=n1_;have HK:=n2_;have HB:=n3_;have HI0:=n4_;clear n0_ n1_ n2_ n3_ n4_;(try clear hb);(try clear hb2);(try clear hk);(try clear hi))|((with_reducible refine gate_callee (f:=89) rfl ?_);refine goesL_ (some 23) rfl rfl Tryz.func89 (by kernel_rfl) rfl #[.string t153] rfl (by (try simp only [List.map_toArray,List.map_cons,List.map_nil]);first|done|rfl|(simp only [List.length_drop,List.length_take];rfl)) ?_;(with_reducible refine (spec_FieldCell.calls k t153 t156 t157 t158 _ A19.out).mono ?_);rintro e w26 ⟨rfl,hb⟩;refine ⟨_,rfl,?_⟩;have n0_:=Aside0.mk (Kd.R_below (by (with_reducible repeat (first|apply Kd.R_alloc|apply Kd.R_drewN|apply Kd.R_drew));exact HO152.out) hb);have n1_:=Aside0.mk (IsS82.below (by repeat (first|(with_reducible first|exact HI0.out|apply IsS82.alloc|apply IsS82.drewN|apply IsS82.drew|apply IsS82.set_1|apply IsS82.set_2|refine IsS82.far ?_ NB0_140.out _)|exact HI0.out)) hb);have n2_:=Aside0.mk (blk_below (g:=gb140) (o:=.cells #[.int .i64 0,.int .i64 0,.string (⟨#[]⟩ : ByteArray)] 24 (0,0)) (by (with_reducible repeat (first|refine blk_drewN ?_ _|refine blk_drew ?_|refine blk_alloc ?_ _));exact BK140.out) hb);have n3_:=Aside0.mk (KeepBut.trans (by repeat (first|(with_reducible first|exact HK.out|apply KeepBut.set_|apply keep_drewN|apply keep_drew|apply keep_alloc|refine keep_far ?_ GW140.out _)|exact HK.out)) (KeepBut.of_below hb g none) (.inl rfl));have n4_:=Aside0.mk (below_step (by repeat (first|(with_reducible first|exact HB.out|apply below_alloc|apply pw_below_drewN|apply below_drew1|refine below_set ?_ (IsS82.ge HI0.out)|refine below_set ?_ GE140.out)|exact HB.out)) hb);clear HO152;clear HI0;clear BK140;clear HK;clear HB;have HO152:=n0_;have HI0:=n1_;have BK140:=n2_;have HK:=n3_;have HB:=n4_;clear n0_ n1_ n2_ n3_ n4_;(try clear hb);(try clear hb2);(try clear hk);(try clear hi);have hnb27:=NB140_0.out;have hnc27:=NB0_140.out;have hcz28_0 : w26.cell? ⟨gb140,0,none⟩ = some (.int .i64 0):=(blk_cell BK140.out 0).trans rfl;have hcz28_1 : w26.cell? ⟨gb140,1,none⟩ = some (.int .i64 0):=(blk_cell BK140.out 1).trans rfl;have hcz28_2 : w26.cell? ⟨gb140,2,none⟩ = some (.string (⟨#[]⟩ : ByteArray)):=(blk_cell BK140.out 2).trans rfl;have hfz28_0:=blk_frozen BK140.out 0;have hfz28_1:=blk_frozen BK140.out 1;have hfz28_2:=blk_frozen BK140.out 2))
    refine bodyPost_ret (results_cell_row rfl _ _ gb140 24 #[.int .i64 t156,.int .i64 t157,.string t158] (0,0) _ rfl (by (with_reducible repeat (first|refine blk_drewN ?_ _|refine blk_drew ?_|refine blk_alloc ?_ _));refine blk_put (cs:=#[.int .i64 t156,.int .i64 t157,.string (⟨#[]⟩ : ByteArray)]) ?_ 2 _ rfl;(with_reducible repeat (first|refine blk_drewN ?_ _|refine blk_drew ?_|refine blk_alloc ?_ _));refine blk_put (cs:=#[.int .i64 t156,.int .i64 0,.string (⟨#[]⟩ : ByteArray)]) ?_ 1 _ rfl;(with_reducible repeat (first|refine blk_drewN ?_ _|refine blk_drew ?_|refine blk_alloc ?_ _));refine blk_put (cs:=#[.int .i64 0,.int .i64 0,.string (⟨#[]⟩ : ByteArray)]) ?_ 0 _ rfl;(with_reducible repeat (first|refine blk_drewN ?_ _|refine blk_drew ?_|refine blk_alloc ?_ _));exact BK140.out) Tryz.underlying24 rfl (by kernel_rfl)) rfl ?_
    exact ⟨by first|rfl|(simp [errW_none,errW_some] <;> rfl)|(simp [*,errW_none,errW_some] <;> rfl),by repeat (first|(with_reducible first|exact HI0.out|apply IsS82.alloc|apply IsS82.drewN|apply IsS82.drew|apply IsS82.set_1|apply IsS82.set_2|refine IsS82.far ?_ NB0_140.out _)|exact HI0.out),by repeat (first|(with_reducible first|exact HB.out|apply below_alloc|apply pw_below_drewN|apply below_drew1|refine below_set ?_ (IsS82.ge HI0.out)|refine below_set ?_ GE140.out)|exact HB.out),by repeat (first|(with_reducible first|exact HK.out|apply KeepBut.set_|apply keep_drewN|apply keep_drew|apply keep_alloc|refine keep_far ?_ GW140.out _)|exact HK.out)⟩
   ·rw [if_neg c17] at H
    have c17b0 : (t141 == 2) = false:=beq_eq_false_iff_ne.mpr c17
    have c17b1 : (t141 != 2) = true:=bne_iff_ne.mpr c17
    obtain ⟨y159,hy159⟩ : ∃ y_ : List ByteArray,y_ = (([(⟨#[]⟩ : ByteArray),(⟨#[51]⟩ : ByteArray),(⟨#[97]⟩ : ByteArray),(⟨#[97,98]⟩ : ByteArray),(⟨#[49,48]⟩ : ByteArray),(⟨#[32,50]⟩ : ByteArray)] : List ByteArray)):=⟨_,rfl⟩
    replace H : ((spec_l1text.f s0_0 t142 t143 y159).bind fun bt162=>(some (2,0,bt162.1,bt162.2.1,bt162.2.2))) = some (r1,r2,r3,r4,r5):=by first|(rw [hy159];with_reducible exact H)|(have H2_:=(Option.bind_some _ _).symm.trans H;rw [hy159];with_reducible exact H2_)|(have H2_:=(Option.bind_some _ _).symm.trans H;with_reducible exact H2_)|with_reducible exact H|(rw [hy159];exact H)|exact H
    have Ny159:=Aside0.mk hy159
    clear hy159
    replace H:=Option.bind_eq_some_iff.mp H
    obtain ⟨⟨t162,t163,t164⟩,A290,H⟩:=H
    replace H : (some (2,0,t162,t163,t164)) = some (r1,r2,r3,r4,r5):=H
    have A29:=Aside0.mk A290
    clear A290
    simp only [Option.some.injEq,Prod.mk.injEq] at H
    obtain ⟨rfl,rfl,rfl,rfl,rfl⟩:=H
    go_enter Tryz.func60,Tryz.ntmps60
    go_wp2_with (first|((with_reducible refine gate_dst (N:=2) rfl ?_);refine box_event ?hg (N:=2) ?hd (cs:=#[.int .i64 0,.int .i64 0,.string (⟨#[]⟩ : ByteArray)]) (t:=24) ?hr ?_;(case hd=>rfl);(case hg=>rfl);(case hr=>first|(go_simp;done)|(go_simp;rfl));intro gb140 hg w30 hbox hb;have n0_:=Aside0.mk (IsS82.below (by repeat (first|(with_reducible first|exact HI0.out|apply IsS82.alloc|apply IsS82.drewN|apply IsS82.drew|apply IsS82.set_1|apply IsS82.set_2)|exact HI0.out)) hb);have n1_:=Aside0.mk (KeepBut.trans (by repeat (first|(with_reducible first|exact HK.out|apply KeepBut.set_|apply keep_drewN|apply keep_drew|apply keep_alloc)|exact HK.out)) (KeepBut.of_below hb g none) (.inl rfl));have n2_:=Aside0.mk (below_step (by repeat (first|(with_reducible first|exact HB.out|apply below_alloc|apply pw_below_drewN|apply below_drew1|refine below_set ?_ (IsS82.ge HI0.out))|exact HB.out)) hb);have n3_:=Aside0.mk (hbox);have n4_:=Aside0.mk ((by rw [hg];exact (keep_size (w:=w) (g:=g) (row:=none) (by repeat (first|(with_reducible first|exact HK.out|apply KeepBut.set_|apply keep_drewN|apply keep_drew|apply keep_alloc)|exact HK.out))) : w.heap.size ≤ gb140));have n5_:=Aside0.mk ((Nat.le_trans HW0.out (by rw [hg];exact (keep_size (w:=w) (g:=g) (row:=none) (by repeat (first|(with_reducible first|exact HK.out|apply KeepBut.set_|apply keep_drewN|apply keep_drew|apply keep_alloc)|exact HK.out))) : w.heap.size ≤ gb140) : w0.heap.size ≤ gb140));have n6_:=Aside0.mk ((by rw [hg];exact Nat.ne_of_lt (IsS82.lt (show IsS82 w0 _ g s0_0 s0_1 s0_2 from by repeat (first|(with_reducible first|exact HI0.out|apply IsS82.alloc|apply IsS82.drewN|apply IsS82.drew|apply IsS82.set_1|apply IsS82.set_2)|exact HI0.out))) : g ≠ gb140));have n7_:=Aside0.mk ((by rw [hg];exact Nat.ne_of_gt (IsS82.lt (show IsS82 w0 _ g s0_0 s0_1 s0_2 from by repeat (first|(with_reducible first|exact HI0.out|apply IsS82.alloc|apply IsS82.drewN|apply IsS82.drew|apply IsS82.set_1|apply IsS82.set_2)|exact HI0.out))) : gb140 ≠ g));clear HI0;clear HK;clear HB;have HI0:=n0_;have HK:=n1_;have HB:=n2_;have BK140:=n3_;have GW140:=n4_;have GE140:=n5_;have NB0_140:=n6_;have NB140_0:=n7_;clear n0_ n1_ n2_ n3_ n4_ n5_ n6_ n7_;clear hb hbox hg)|((with_reducible refine gate_callee (f:=59) rfl ?_);refine goesL_ (some 4) rfl rfl Tryz.func59 (by kernel_rfl) rfl #[.pointer (some ⟨g,0,none⟩),.int .i64 4] rfl (by (try simp only [List.map_toArray,List.map_cons,List.map_nil]);first|done|rfl|(simp only [List.length_drop,List.length_take];rfl)) ?_;(with_reducible refine (spec_l1Below.calls g s0_0 s0_1 s0_2 4 t141 t142 t143 w0 _ ?side1 ?side2 A2.out).mono ?_);(case side1=>repeat (first|(with_reducible first|exact HI0.out|apply IsS82.alloc|apply IsS82.drewN|apply IsS82.drew|apply IsS82.set_1|apply IsS82.set_2|refine IsS82.far ?_ NB0_140.out _)|exact HI0.out));(case side2=>repeat (first|(with_reducible first|exact HB.out|apply below_alloc|apply pw_below_drewN|apply below_drew1|refine below_set ?_ (IsS82.ge HI0.out)|refine below_set ?_ GE140.out)|exact HB.out));rintro e w31 ⟨rfl,hi,hb,hk⟩;refine ⟨_,rfl,?_⟩;have n0_:=Aside0.mk (KeepBut.blk hk (g':=gb140) (o:=.cells #[.int .i64 0,.int .i64 0,.string (⟨#[]⟩ : ByteArray)] 24 (0,0)) (by (with_reducible repeat (first|refine blk_drewN ?_ _|refine blk_drew ?_|refine blk_alloc ?_ _));exact BK140.out) NB140_0.out (by simp));have n1_:=Aside0.mk (KeepBut.trans (by repeat (first|(with_reducible first|exact HK.out|apply KeepBut.set_|apply keep_drewN|apply keep_drew|apply keep_alloc|refine keep_far ?_ GW140.out _)|exact HK.out)) hk (.inl rfl));have n2_:=Aside0.mk (hb);have n3_:=Aside0.mk (hi);clear BK140;clear HK;clear HB;clear HI0;have BK140:=n0_;have HK:=n1_;have HB:=n2_;have HI0:=n3_;clear n0_ n1_ n2_ n3_;(try clear hb);(try clear hb2);(try clear hk);(try clear hi))|((with_reducible refine gate_dst (N:=25) rfl ?_);refine Kd.R_lit Kd.string _ 9 ?hg (N:=25) ?hd (xs:=([(⟨#[]⟩ : ByteArray),(⟨#[51]⟩ : ByteArray),(⟨#[97]⟩ : ByteArray),(⟨#[97,98]⟩ : ByteArray),(⟨#[49,48]⟩ : ByteArray),(⟨#[32,50]⟩ : ByteArray)] : List ByteArray)) (inner:=[.string (⟨#[]⟩ : ByteArray),.string (⟨#[51]⟩ : ByteArray),.string (⟨#[97]⟩ : ByteArray),.string (⟨#[97,98]⟩ : ByteArray),.string (⟨#[49,48]⟩ : ByteArray),.string (⟨#[32,50]⟩ : ByteArray)]) (ok:=fun _=>True) (okp:=fun _=>True) ?hr ?hp (fun _ hk=>hk) trivial (Below.refl _ _) (Nat.le_refl _) (by simp) ?_;(case hd=>rfl);(case hg=>rfl);(case hr=>first|(go_simp;done)|(go_simp;rfl));(case hp=>exact (Reps.one (show Kd.M Kd.string _ _ _ (⟨#[]⟩ : ByteArray) [.string (⟨#[]⟩ : ByteArray)] from rfl) (Reps.one (show Kd.M Kd.string _ _ _ (⟨#[51]⟩ : ByteArray) [.string (⟨#[51]⟩ : ByteArray)] from rfl) (Reps.one (show Kd.M Kd.string _ _ _ (⟨#[97]⟩ : ByteArray) [.string (⟨#[97]⟩ : ByteArray)] from rfl) (Reps.one (show Kd.M Kd.string _ _ _ (⟨#[97,98]⟩ : ByteArray) [.string (⟨#[97,98]⟩ : ByteArray)] from rfl) (Reps.one (show Kd.M Kd.string _ _ _ (⟨#[49,48]⟩ : ByteArray) [.string (⟨#[49,48]⟩ : ByteArray)] from rfl) (Reps.one (show Kd.M Kd.string _ _ _ (⟨#[32,50]⟩ : ByteArray) [.string (⟨#[32,50]⟩ : ByteArray)] from rfl) (Reps.none _ _))))))));intro v160 w32 ho33 hb hg_ hnew_;clear hg_ hnew_;(first|rw [← Ny159.out] at ho33|(simp only [Int.reduceToNat] at ho33;rw [← Ny159.out] at ho33));have n0_:=Aside0.mk (Kd.R_lower ho33 (keep_size (w:=w) (g:=g) (row:=none) (by repeat (first|(with_reducible first|exact HK.out|apply KeepBut.set_|apply keep_drewN|apply keep_drew|apply keep_alloc|refine keep_far ?_ GW140.out _)|exact HK.out))));have n1_:=Aside0.mk (IsS82.below (by repeat (first|(with_reducible first|exact HI0.out|apply IsS82.alloc|apply IsS82.drewN|apply IsS82.drew|apply IsS82.set_1|apply IsS82.set_2|refine IsS82.far ?_ NB0_140.out _)|exact HI0.out)) hb);have n2_:=Aside0.mk (blk_below (g:=gb140) (o:=.cells #[.int .i64 0,.int .i64 0,.string (⟨#[]⟩ : ByteArray)] 24 (0,0)) (by (with_reducible repeat (first|refine blk_drewN ?_ _|refine blk_drew ?_|refine blk_alloc ?_ _));exact BK140.out) hb);have n3_:=Aside0.mk (KeepBut.trans (by repeat (first|(with_reducible first|exact HK.out|apply KeepBut.set_|apply keep_drewN|apply keep_drew|apply keep_alloc|refine keep_far ?_ GW140.out _)|exact HK.out)) (KeepBut.of_below hb g none) (.inl rfl));have n4_:=Aside0.mk (below_step (by repeat (first|(with_reducible first|exact HB.out|apply below_alloc|apply pw_below_drewN|apply below_drew1|refine below_set ?_ (IsS82.ge HI0.out)|refine below_set ?_ GE140.out)|exact HB.out)) hb);clear HI0;clear BK140;clear HK;clear HB;have HO161:=n0_;have HI0:=n1_;have BK140:=n2_;have HK:=n3_;have HB:=n4_;clear n0_ n1_ n2_ n3_ n4_;clear hb ho33;obtain ⟨Ao34,co34,eo34⟩:=Kd.R_slice HO161.out;subst eo34)|((with_reducible refine gate_callee (f:=86) rfl ?_);refine goesL_ (some 26) rfl rfl Tryz.func86 (by kernel_rfl) rfl #[.pointer (some ⟨g,0,none⟩),.slice Ao34 y159.length co34] rfl (by (try simp only [List.map_toArray,List.map_cons,List.map_nil]);first|done|rfl|(simp only [List.length_drop,List.length_take];rfl)) ?_;(with_reducible refine (spec_l1text.calls g s0_0 t142 t143 _ _ y159 t162 t163 t164 w0 _ ?side1 ?side2 ?side3 ?side4 ?side5 A29.out).mono ?_);(case side1=>repeat (first|(with_reducible first|exact HI0.out|apply IsS82.alloc|apply IsS82.drewN|apply IsS82.drew|apply IsS82.set_1|apply IsS82.set_2|refine IsS82.far ?_ NB0_140.out _)|exact HI0.out));(case side2=>repeat (first|(with_reducible first|exact HB.out|apply below_alloc|apply pw_below_drewN|apply below_drew1|refine below_set ?_ (IsS82.ge HI0.out)|refine below_set ?_ GE140.out)|exact HB.out));(case side3=>repeat (first|exact (Kd.R_reads' HO161.out).2.2|(with_reducible refine Kd.C_alloc ?_ _)|(with_reducible refine Kd.C_drewN ?_ _)|(with_reducible refine Kd.C_drew ?_)));(case side4=>exact (Kd.R_reads' HO161.out).2.1);(case side5=>exact far_slice (IsS82.own_ne HI0.out HO161.out (by decide)));rintro e w35 ⟨rfl,hi,hb,hk⟩;refine ⟨_,rfl,?_⟩;have n0_:=Aside0.mk (KeepBut.blk hk (g':=gb140) (o:=.cells #[.int .i64 0,.int .i64 0,.string (⟨#[]⟩ : ByteArray)] 24 (0,0)) (by (with_reducible repeat (first|refine blk_drewN ?_ _|refine blk_drew ?_|refine blk_alloc ?_ _));exact BK140.out) NB140_0.out (by simp));have n1_:=Aside0.mk (Kd.R_mono (Kd.R_keep (IsS82.apart (show IsS82 w0 _ g s0_0 t142 t143 from by repeat (first|(with_reducible first|exact HI0.out|apply IsS82.alloc|apply IsS82.drewN|apply IsS82.drew|apply IsS82.set_1|apply IsS82.set_2|refine IsS82.far ?_ NB0_140.out _)|exact HI0.out)) (by (with_reducible repeat (first|apply Kd.R_alloc|apply Kd.R_drewN|apply Kd.R_drew));exact HO161.out) (by decide)) hk (fun _ h=>h.2)) (fun _ h=>h.1));have n2_:=Aside0.mk (KeepBut.trans (by repeat (first|(with_reducible first|exact HK.out|apply KeepBut.set_|apply keep_drewN|apply keep_drew|apply keep_alloc|refine keep_far ?_ GW140.out _)|exact HK.out)) hk (.inl rfl));have n3_:=Aside0.mk (hb);have n4_:=Aside0.mk (hi);clear BK140;clear HO161;clear HK;clear HB;clear HI0;have BK140:=n0_;have HO161:=n1_;have HK:=n2_;have HB:=n3_;have HI0:=n4_;clear n0_ n1_ n2_ n3_ n4_;(try clear hb);(try clear hb2);(try clear hk);(try clear hi);have hnb36:=NB140_0.out;have hnc36:=NB0_140.out;have hcz37_0 : w35.cell? ⟨gb140,0,none⟩ = some (.int .i64 0):=(blk_cell BK140.out 0).trans rfl;have hcz37_1 : w35.cell? ⟨gb140,1,none⟩ = some (.int .i64 0):=(blk_cell BK140.out 1).trans rfl;have hcz37_2 : w35.cell? ⟨gb140,2,none⟩ = some (.string (⟨#[]⟩ : ByteArray)):=(blk_cell BK140.out 2).trans rfl;have hfz37_0:=blk_frozen BK140.out 0;have hfz37_1:=blk_frozen BK140.out 1;have hfz37_2:=blk_frozen BK140.out 2))
    refine bodyPost_ret (results_cell_row rfl _ _ gb140 24 #[.int .i64 2,.int .i64 0,.string t162] (0,0) _ rfl (by (with_reducible repeat (first|refine blk_drewN ?_ _|refine blk_drew ?_|refine blk_alloc ?_ _));refine blk_put (cs:=#[.int .i64 2,.int .i64 0,.string (⟨#[]⟩ : ByteArray)]) ?_ 2 _ rfl;(with_reducible repeat (first|refine blk_drewN ?_ _|refine blk_drew ?_|refine blk_alloc ?_ _));refine blk_put (cs:=#[.int .i64 2,.int .i64 0,.string (⟨#[]⟩ : ByteArray)]) ?_ 1 _ rfl;(with_reducible repeat (first|refine blk_drewN ?_ _|refine blk_drew ?_|refine blk_alloc ?_ _));refine blk_put (cs:=#[.int .i64 0,.int .i64 0,.string (⟨#[]⟩ : ByteArray)]) ?_ 0 _ rfl;(with_reducible repeat (first|refine blk_drewN ?_ _|refine blk_drew ?_|refine blk_alloc ?_ _));exact BK140.out) Tryz.underlying24 rfl (by kernel_rfl)) rfl ?_
    exact ⟨by first|rfl|(simp [errW_none,errW_some] <;> rfl)|(simp [*,errW_none,errW_some] <;> rfl),by repeat (first|(with_reducible first|exact HI0.out|apply IsS82.alloc|apply IsS82.drewN|apply IsS82.drew|apply IsS82.set_1|apply IsS82.set_2|refine IsS82.far ?_ NB0_140.out _)|exact HI0.out),by repeat (first|(with_reducible first|exact HB.out|apply below_alloc|apply pw_below_drewN|apply below_drew1|refine below_set ?_ (IsS82.ge HI0.out)|refine below_set ?_ GE140.out)|exact HB.out),by repeat (first|(with_reducible first|exact HK.out|apply KeepBut.set_|apply keep_drewN|apply keep_drew|apply keep_alloc|refine keep_far ?_ GW140.out _)|exact HK.out)⟩
def spec_l1num.f (s0_0 : List Int) (s0_1 : Int) (s0_2 : Int) : Option (Int × Int × Int):=(spec_l1Below.f s0_0 s0_1 s0_2 4).bind fun bt165=>(if bt165.1 = 0 then ((spec_l1PickInt.f s0_0 bt165.2.1 bt165.2.2 (([0,1,(-1),1000000,(-1000000),9000000000000,(-9000000000000),9000000000001,(-9000000000001),500000,4611686018427387904,3000000] : List Int))).bind fun bt171=>(some (bt171.1,bt171.2.1,bt171.2.2))) else (if bt165.1 = 1 then ((spec_l1Below.f s0_0 bt165.2.1 bt165.2.2 4294967296).bind fun bt174=>(some (wrap64 ((wrap64 (bt174.1 * 2000)) - 4000000000000),bt174.2.1,bt174.2.2))) else ((spec_l1Below.f s0_0 bt165.2.1 bt165.2.2 30).bind fun bt177=>((spec_l1PickInt.f s0_0 bt177.2.1 bt177.2.2 (([0,0,500000,250000,1] : List Int))).bind fun bt183=>(some (wrap64 ((wrap64 ((wrap64 (bt177.1 - 9)) * 1000000)) + bt183.1),bt183.2.1,bt183.2.2))))))
set_option maxHeartbeats 8000000 in
set_option maxRecDepth 100000 in
theorem spec_l1num.calls (g : Nat) (s0_0 : List Int) (s0_1 : Int) (s0_2 : Int) (r1 : Int) (r2 : Int) (r3 : Int) (w0 w : World) (hI : IsS82 w0 w g s0_0 s0_1 s0_2) (hB : Below w0.heap.size w0 w) (h : spec_l1num.f s0_0 s0_1 s0_2 = some (r1,r2,r3)) :
  Calls Tryz.prog 62 #[.pointer (some ⟨g,0,none⟩)] w fun e w'=>e = .returned (.int .i64 r1) ∧ IsS82 w0 w' g s0_0 r2 r3 ∧ Below w0.heap.size w0 w' ∧ KeepBut w w' g none:=by
 have HI0:=Aside0.mk hI
 have HK:=Aside0.mk (KeepBut.refl w g none)
 have HL:=Aside0.mk hB.size
 clear hI
 have HW0:=Aside0.mk hB.size
 have HB:=Aside0.mk hB
 clear hB
 have H : ((spec_l1Below.f s0_0 s0_1 s0_2 4).bind fun bt165=>(if bt165.1 = 0 then ((spec_l1PickInt.f s0_0 bt165.2.1 bt165.2.2 (([0,1,(-1),1000000,(-1000000),9000000000000,(-9000000000000),9000000000001,(-9000000000001),500000,4611686018427387904,3000000] : List Int))).bind fun bt171=>(some (bt171.1,bt171.2.1,bt171.2.2))) else (if bt165.1 = 1 then ((spec_l1Below.f s0_0 bt165.2.1 bt165.2.2 4294967296).bind fun bt174=>(some (wrap64 ((wrap64 (bt174.1 * 2000)) - 4000000000000),bt174.2.1,bt174.2.2))) else ((spec_l1Below.f s0_0 bt165.2.1 bt165.2.2 30).bind fun bt177=>((spec_l1PickInt.f s0_0 bt177.2.1 bt177.2.2 (([0,0,500000,250000,1] : List Int))).bind fun bt183=>(some (wrap64 ((wrap64 ((wrap64 (bt177.1 - 9)) * 1000000)) + bt183.1),bt183.2.1,bt183.2.2))))))) = some (r1,r2,r3):=h
 clear h
 replace H:=Option.bind_eq_some_iff.mp H
 obtain ⟨⟨t165,t166,t167⟩,A20,H⟩:=H
 replace H : (if t165 = 0 then ((spec_l1PickInt.f s0_0 t166 t167 (([0,1,(-1),1000000,(-1000000),9000000000000,(-9000000000000),9000000000001,(-9000000000001),500000,4611686018427387904,3000000] : List Int))).bind fun bt171=>(some (bt171.1,bt171.2.1,bt171.2.2))) else (if t165 = 1 then ((spec_l1Below.f s0_0 t166 t167 4294967296).bind fun bt174=>(some (wrap64 ((wrap64 (bt174.1 * 2000)) - 4000000000000),bt174.2.1,bt174.2.2))) else ((spec_l1Below.f s0_0 t166 t167 30).bind fun bt177=>((spec_l1PickInt.f s0_0 bt177.2.1 bt177.2.2 (([0,0,500000,250000,1] : List Int))).bind fun bt183=>(some (wrap64 ((wrap64 ((wrap64 (bt177.1 - 9)) * 1000000)) + bt183.1),bt183.2.1,bt183.2.2)))))) = some (r1,r2,r3):=H
 have A2:=Aside0.mk A20
 clear A20
 by_cases c3 : t165 = 0
 ·rw [if_pos c3] at H
  have c3b0 : (t165 == 0) = true:=beq_iff_eq.mpr c3
  have c3b1 : (t165 != 0) = false:=bne_eq_false_iff_eq.mpr c3
  clear c3
  obtain ⟨y168,hy168⟩ : ∃ y_ : List Int,y_ = (([0,1,(-1),1000000,(-1000000),9000000000000,(-9000000000000),9000000000001,(-9000000000001),500000,4611686018427387904,3000000] : List Int)):=⟨_,rfl⟩
  replace H : ((spec_l1PickInt.f s0_0 t166 t167 y168).bind fun bt171=>(some (bt171.1,bt171.2.1,bt171.2.2))) = some (r1,r2,r3):=by first|(rw [hy168];with_reducible exact H)|(have H2_:=(Option.bind_some _ _).symm.trans H;rw [hy168];with_reducible exact H2_)|(have H2_:=(Option.bind_some _ _).symm.trans H;with_reducible exact H2_)|with_reducible exact H|(rw [hy168];exact H)|exact H
  have Ny168:=Aside0.mk hy168
  clear hy168
  replace H:=Option.bind_eq_some_iff.mp H
  obtain ⟨⟨t171,t172,t173⟩,A40,H⟩:=H
  replace H : (some (t171,t172,t173)) = some (r1,r2,r3):=H
  have A4:=Aside0.mk A40
  clear A40
  simp only [Option.some.injEq,Prod.mk.injEq] at H
  obtain ⟨rfl,rfl,rfl⟩:=H
  go_enter Tryz.func62,Tryz.ntmps62
  go_wp2_with (first|((with_reducible refine gate_callee (f:=59) rfl ?_);refine goesL_ (some 4) rfl rfl Tryz.func59 (by kernel_rfl) rfl #[.pointer (some ⟨g,0,none⟩),.int .i64 4] rfl (by (try simp only [List.map_toArray,List.map_cons,List.map_nil]);first|done|rfl|(simp only [List.length_drop,List.length_take];rfl)) ?_;(with_reducible refine (spec_l1Below.calls g s0_0 s0_1 s0_2 4 t165 t166 t167 w0 _ ?side1 ?side2 A2.out).mono ?_);(case side1=>repeat (first|(with_reducible first|exact HI0.out|apply IsS82.alloc|apply IsS82.drewN|apply IsS82.drew|apply IsS82.set_1|apply IsS82.set_2)|exact HI0.out));(case side2=>repeat (first|(with_reducible first|exact HB.out|apply below_alloc|apply pw_below_drewN|apply below_drew1|refine below_set ?_ (IsS82.ge HI0.out))|exact HB.out));rintro e w5 ⟨rfl,hi,hb,hk⟩;refine ⟨_,rfl,?_⟩;have n0_:=Aside0.mk (KeepBut.trans (by repeat (first|(with_reducible first|exact HK.out|apply KeepBut.set_|apply keep_drewN|apply keep_drew|apply keep_alloc)|exact HK.out)) hk (.inl rfl));have n1_:=Aside0.mk (hb);have n2_:=Aside0.mk (hi);clear HK;clear HB;clear HI0;have HK:=n0_;have HB:=n1_;have HI0:=n2_;clear n0_ n1_ n2_;(try clear hb);(try clear hb2);(try clear hk);(try clear hi))|((with_reducible refine gate_dst (N:=8) rfl ?_);refine Kd.R_lit (Kd.int .i64) _ 3 ?hg (N:=8) ?hd (xs:=([0,1,(-1),1000000,(-1000000),9000000000000,(-9000000000000),9000000000001,(-9000000000001),500000,4611686018427387904,3000000] : List Int)) (inner:=[.int .i64 0,.int .i64 1,.int .i64 (-1),.int .i64 1000000,.int .i64 (-1000000),.int .i64 9000000000000,.int .i64 (-9000000000000),.int .i64 9000000000001,.int .i64 (-9000000000001),.int .i64 500000,.int .i64 4611686018427387904,.int .i64 3000000]) (ok:=fun _=>True) (okp:=fun _=>True) ?hr ?hp (fun _ hk=>hk) trivial (Below.refl _ _) (Nat.le_refl _) (by simp) ?_;(case hd=>rfl);(case hg=>rfl);(case hr=>first|(go_simp;done)|(go_simp;rfl));(case hp=>exact (Reps.one (show Kd.M (Kd.int .i64) _ _ _ 0 [.int .i64 0] from rfl) (Reps.one (show Kd.M (Kd.int .i64) _ _ _ 1 [.int .i64 1] from rfl) (Reps.one (show Kd.M (Kd.int .i64) _ _ _ (-1) [.int .i64 (-1)] from rfl) (Reps.one (show Kd.M (Kd.int .i64) _ _ _ 1000000 [.int .i64 1000000] from rfl) (Reps.one (show Kd.M (Kd.int .i64) _ _ _ (-1000000) [.int .i64 (-1000000)] from rfl) (Reps.one (show Kd.M (Kd.int .i64) _ _ _ 9000000000000 [.int .i64 9000000000000] from rfl) (Reps.one (show Kd.M (Kd.int .i64) _ _ _ (-9000000000000) [.int .i64 (-9000000000000)] from rfl) (Reps.one (show Kd.M (Kd.int .i64) _ _ _ 9000000000001 [.int .i64 9000000000001] from rfl) (Reps.one (show Kd.M (Kd.int .i64) _ _ _ (-9000000000001) [.int .i64 (-9000000000001)] from rfl) (Reps.one (show Kd.M (Kd.int .i64) _ _ _ 500000 [.int .i64 500000] from rfl) (Reps.one (show Kd.M (Kd.int .i64) _ _ _ 4611686018427387904 [.int .i64 4611686018427387904] from rfl) (Reps.one (show Kd.M (Kd.int .i64) _ _ _ 3000000 [.int .i64 3000000] from rfl) (Reps.none _ _))))))))))))));intro v169 w6 ho7 hb hg_ hnew_;clear hg_ hnew_;(first|rw [← Ny168.out] at ho7|(simp only [Int.reduceToNat] at ho7;rw [← Ny168.out] at ho7));have n0_:=Aside0.mk (Kd.R_lower ho7 (keep_size (w:=w) (g:=g) (row:=none) (by repeat (first|(with_reducible first|exact HK.out|apply KeepBut.set_|apply keep_drewN|apply keep_drew|apply keep_alloc)|exact HK.out))));have n1_:=Aside0.mk (IsS82.below (by repeat (first|(with_reducible first|exact HI0.out|apply IsS82.alloc|apply IsS82.drewN|apply IsS82.drew|apply IsS82.set_1|apply IsS82.set_2)|exact HI0.out)) hb);have n2_:=Aside0.mk (KeepBut.trans (by repeat (first|(with_reducible first|exact HK.out|apply KeepBut.set_|apply keep_drewN|apply keep_drew|apply keep_alloc)|exact HK.out)) (KeepBut.of_below hb g none) (.inl rfl));have n3_:=Aside0.mk (below_step (by repeat (first|(with_reducible first|exact HB.out|apply below_alloc|apply pw_below_drewN|apply below_drew1|refine below_set ?_ (IsS82.ge HI0.out))|exact HB.out)) hb);clear HI0;clear HK;clear HB;have HO170:=n0_;have HI0:=n1_;have HK:=n2_;have HB:=n3_;clear n0_ n1_ n2_ n3_;clear hb ho7;obtain ⟨Ao8,co8,eo8⟩:=Kd.R_slice HO170.out;subst eo8)|((with_reducible refine gate_callee (f:=23) rfl ?_);refine goesL_ (some 9) rfl rfl Tryz.func23 (by kernel_rfl) rfl #[.pointer (some ⟨g,0,none⟩),.slice Ao8 y168.length co8] rfl (by (try simp only [List.map_toArray,List.map_cons,List.map_nil]);first|done|rfl|(simp only [List.length_drop,List.length_take];rfl)) ?_;(with_reducible refine (spec_l1PickInt.calls g s0_0 t166 t167 _ _ y168 t171 t172 t173 w0 _ ?side1 ?side2 ?side3 ?side4 ?side5 A4.out).mono ?_);(case side1=>repeat (first|(with_reducible first|exact HI0.out|apply IsS82.alloc|apply IsS82.drewN|apply IsS82.drew|apply IsS82.set_1|apply IsS82.set_2)|exact HI0.out));(case side2=>repeat (first|(with_reducible first|exact HB.out|apply below_alloc|apply pw_below_drewN|apply below_drew1|refine below_set ?_ (IsS82.ge HI0.out))|exact HB.out));(case side3=>repeat (first|exact (Kd.R_reads' HO170.out).2.2|(with_reducible refine Kd.C_alloc ?_ _)|(with_reducible refine Kd.C_drewN ?_ _)|(with_reducible refine Kd.C_drew ?_)));(case side4=>exact (Kd.R_reads' HO170.out).2.1);(case side5=>exact far_slice (IsS82.own_ne HI0.out HO170.out (by decide)));rintro e w9 ⟨rfl,hi,hb,hk⟩;refine ⟨_,rfl,?_⟩;have n0_:=Aside0.mk (Kd.R_mono (Kd.R_keep (IsS82.apart (show IsS82 w0 _ g s0_0 t166 t167 from by repeat (first|(with_reducible first|exact HI0.out|apply IsS82.alloc|apply IsS82.drewN|apply IsS82.drew|apply IsS82.set_1|apply IsS82.set_2)|exact HI0.out)) (by (with_reducible repeat (first|apply Kd.R_alloc|apply Kd.R_drewN|apply Kd.R_drew));exact HO170.out) (by decide)) hk (fun _ h=>h.2)) (fun _ h=>h.1));have n1_:=Aside0.mk (KeepBut.trans (by repeat (first|(with_reducible first|exact HK.out|apply KeepBut.set_|apply keep_drewN|apply keep_drew|apply keep_alloc)|exact HK.out)) hk (.inl rfl));have n2_:=Aside0.mk (hb);have n3_:=Aside0.mk (hi);clear HO170;clear HK;clear HB;clear HI0;have HO170:=n0_;have HK:=n1_;have HB:=n2_;have HI0:=n3_;clear n0_ n1_ n2_ n3_;(try clear hb);(try clear hb2);(try clear hk);(try clear hi)))
  go_ret
  exact ⟨by first|rfl|(simp [errW_none,errW_some] <;> rfl)|(simp [*,errW_none,errW_some] <;> rfl),by repeat (first|(with_reducible first|exact HI0.out|apply IsS82.alloc|apply IsS82.drewN|apply IsS82.drew|apply IsS82.set_1|apply IsS82.set_2)|exact HI0.out),by repeat (first|(with_reducible first|exact HB.out|apply below_alloc|apply pw_below_drewN|apply below_drew1|refine below_set ?_ (IsS82.ge HI0.out))|exact HB.out),by repeat (first|(with_reducible first|exact HK.out|apply KeepBut.set_|apply keep_drewN|apply keep_drew|apply keep_alloc)|exact HK.out)⟩
 ·rw [if_neg c3] at H
  have c3b0 : (t165 == 0) = false:=beq_eq_false_iff_ne.mpr c3
  have c3b1 : (t165 != 0) = true:=bne_iff_ne.mpr c3
  by_cases c10 : t165 = 1
  ·rw [if_pos c10] at H
   have c10b0 : (t165 == 1) = true:=beq_iff_eq.mpr c10
   have c10b1 : (t165 != 1) = false:=bne_eq_false_iff_eq.mpr c10
   clear c10
   replace H:=Option.bind_eq_some_iff.mp H
   obtain ⟨⟨t174,t175,t176⟩,A110,H⟩:=H
   replace H : (some (wrap64 ((wrap64 (t174 * 2000)) - 4000000000000),t175,t176)) = some (r1,r2,r3):=H
   have A11:=Aside0.mk A110
   clear A110
   simp only [Option.some.injEq,Prod.mk.injEq] at H
   obtain ⟨rfl,rfl,rfl⟩:=H
   go_enter Tryz.func62,Tryz.ntmps62
   go_wp2_with (first|((with_reducible refine gate_callee (f:=59) rfl ?_);refine goesL_ (some 4) rfl rfl Tryz.func59 (by kernel_rfl) rfl #[.pointer (some ⟨g,0,none⟩),.int .i64 4] rfl (by (try simp only [List.map_toArray,List.map_cons,List.map_nil]);first|done|rfl|(simp only [List.length_drop,List.length_take];rfl)) ?_;(with_reducible refine (spec_l1Below.calls g s0_0 s0_1 s0_2 4 t165 t166 t167 w0 _ ?side1 ?side2 A2.out).mono ?_);(case side1=>repeat (first|(with_reducible first|exact HI0.out|apply IsS82.alloc|apply IsS82.drewN|apply IsS82.drew|apply IsS82.set_1|apply IsS82.set_2)|exact HI0.out));(case side2=>repeat (first|(with_reducible first|exact HB.out|apply below_alloc|apply pw_below_drewN|apply below_drew1|refine below_set ?_ (IsS82.ge HI0.out))|exact HB.out));rintro e w12 ⟨rfl,hi,hb,hk⟩;refine ⟨_,rfl,?_⟩;have n0_:=Aside0.mk (KeepBut.trans (by repeat (first|(with_reducible first|exact HK.out|apply KeepBut.set_|apply keep_drewN|apply keep_drew|apply keep_alloc)|exact HK.out)) hk (.inl rfl));have n1_:=Aside0.mk (hb);have n2_:=Aside0.mk (hi);clear HK;clear HB;clear HI0;have HK:=n0_;have HB:=n1_;have HI0:=n2_;clear n0_ n1_ n2_;(try clear hb);(try clear hb2);(try clear hk);(try clear hi))|((with_reducible refine gate_callee (f:=59) rfl ?_);refine goesL_ (some 13) rfl rfl Tryz.func59 (by kernel_rfl) rfl #[.pointer (some ⟨g,0,none⟩),.int .i64 4294967296] rfl (by (try simp only [List.map_toArray,List.map_cons,List.map_nil]);first|done|rfl|(simp only [List.length_drop,List.length_take];rfl)) ?_;(with_reducible refine (spec_l1Below.calls g s0_0 t166 t167 4294967296 t174 t175 t176 w0 _ ?side1 ?side2 A11.out).mono ?_);(case side1=>repeat (first|(with_reducible first|exact HI0.out|apply IsS82.alloc|apply IsS82.drewN|apply IsS82.drew|apply IsS82.set_1|apply IsS82.set_2)|exact HI0.out));(case side2=>repeat (first|(with_reducible first|exact HB.out|apply below_alloc|apply pw_below_drewN|apply below_drew1|refine below_set ?_ (IsS82.ge HI0.out))|exact HB.out));rintro e w13 ⟨rfl,hi,hb,hk⟩;refine ⟨_,rfl,?_⟩;have n0_:=Aside0.mk (KeepBut.trans (by repeat (first|(with_reducible first|exact HK.out|apply KeepBut.set_|apply keep_drewN|apply keep_drew|apply keep_alloc)|exact HK.out)) hk (.inl rfl));have n1_:=Aside0.mk (hb);have n2_:=Aside0.mk (hi);clear HK;clear HB;clear HI0;have HK:=n0_;have HB:=n1_;have HI0:=n2_;clear n0_ n1_ n2_;(try clear hb);(try clear hb2);(try clear hk);(try clear hi)))
   go_ret
   exact ⟨by first|rfl|(simp [errW_none,errW_some] <;> rfl)|(simp [*,errW_none,errW_some] <;> rfl),by repeat (first|(with_reducible first|exact HI0.out|apply IsS82.alloc|apply IsS82.drewN|apply IsS82.drew|apply IsS82.set_1|apply IsS82.set_2)|exact HI0.out),by repeat (first|(with_reducible first|exact HB.out|apply below_alloc|apply pw_below_drewN|apply below_drew1|refine below_set ?_ (IsS82.ge HI0.out))|exact HB.out),by repeat (first|(with_reducible first|exact HK.out|apply KeepBut.set_|apply keep_drewN|apply keep_drew|apply keep_alloc)|exact HK.out)⟩
  ·rw [if_neg c10] at H
   have c10b0 : (t165 == 1) = false:=beq_eq_false_iff_ne.mpr c10
   have c10b1 : (t165 != 1) = true:=bne_iff_ne.mpr c10
   replace H:=Option.bind_eq_some_iff.mp H
   obtain ⟨⟨t177,t178,t179⟩,A140,H⟩:=H
   replace H : ((spec_l1PickInt.f s0_0 t178 t179 (([0,0,500000,250000,1] : List Int))).bind fun bt183=>(some (wrap64 ((wrap64 ((wrap64 (t177 - 9)) * 1000000)) + bt183.1),bt183.2.1,bt183.2.2))) = some (r1,r2,r3):=H
   have A14:=Aside0.mk A140
   clear A140
   obtain ⟨y180,hy180⟩ : ∃ y_ : List Int,y_ = (([0,0,500000,250000,1] : List Int)):=⟨_,rfl⟩
   replace H : ((spec_l1PickInt.f s0_0 t178 t179 y180).bind fun bt183=>(some (wrap64 ((wrap64 ((wrap64 (t177 - 9)) * 1000000)) + bt183.1),bt183.2.1,bt183.2.2))) = some (r1,r2,r3):=by first|(rw [hy180];with_reducible exact H)|(have H2_:=(Option.bind_some _ _).symm.trans H;rw [hy180];with_reducible exact H2_)|(have H2_:=(Option.bind_some _ _).symm.trans H;with_reducible exact H2_)|with_reducible exact H|(rw [hy180];exact H)|exact H
   have Ny180:=Aside0.mk hy180
   clear hy180
   replace H:=Option.bind_eq_some_iff.mp H
   obtain ⟨⟨t183,t184,t185⟩,A150,H⟩:=H
   replace H : (some (wrap64 ((wrap64 ((wrap64 (t177 - 9)) * 1000000)) + t183),t184,t185)) = some (r1,r2,r3):=H
   have A15:=Aside0.mk A150
   clear A150
   simp only [Option.some.injEq,Prod.mk.injEq] at H
   obtain ⟨rfl,rfl,rfl⟩:=H
   go_enter Tryz.func62,Tryz.ntmps62
   go_wp2_with (first|((with_reducible refine gate_callee (f:=59) rfl ?_);refine goesL_ (some 4) rfl rfl Tryz.func59 (by kernel_rfl) rfl #[.pointer (some ⟨g,0,none⟩),.int .i64 4] rfl (by (try simp only [List.map_toArray,List.map_cons,List.map_nil]);first|done|rfl|(simp only [List.length_drop,List.length_take];rfl)) ?_;(with_reducible refine (spec_l1Below.calls g s0_0 s0_1 s0_2 4 t165 t166 t167 w0 _ ?side1 ?side2 A2.out).mono ?_);(case side1=>repeat (first|(with_reducible first|exact HI0.out|apply IsS82.alloc|apply IsS82.drewN|apply IsS82.drew|apply IsS82.set_1|apply IsS82.set_2)|exact HI0.out));(case side2=>repeat (first|(with_reducible first|exact HB.out|apply below_alloc|apply pw_below_drewN|apply below_drew1|refine below_set ?_ (IsS82.ge HI0.out))|exact HB.out));rintro e w16 ⟨rfl,hi,hb,hk⟩;refine ⟨_,rfl,?_⟩;have n0_:=Aside0.mk (KeepBut.trans (by repeat (first|(with_reducible first|exact HK.out|apply KeepBut.set_|apply keep_drewN|apply keep_drew|apply keep_alloc)|exact HK.out)) hk (.inl rfl));have n1_:=Aside0.mk (hb);have n2_:=Aside0.mk (hi);clear HK;clear HB;clear HI0;have HK:=n0_;have HB:=n1_;have HI0:=n2_;clear n0_ n1_ n2_;(try clear hb);(try clear hb2);(try clear hk);(try clear hi))|((with_reducible refine gate_callee (f:=59) rfl ?_);refine goesL_ (some 17) rfl rfl Tryz.func59 (by kernel_rfl) rfl #[.pointer (some ⟨g,0,none⟩),.int .i64 30] rfl (by (try simp only [List.map_toArray,List.map_cons,List.map_nil]);first|done|rfl|(simp only [List.length_drop,List.length_take];rfl)) ?_;(with_reducible refine (spec_l1Below.calls g s0_0 t166 t167 30 t177 t178 t179 w0 _ ?side1 ?side2 A14.out).mono ?_);(case side1=>repeat (first|(with_reducible first|exact HI0.out|apply IsS82.alloc|apply IsS82.drewN|apply IsS82.drew|apply IsS82.set_1|apply IsS82.set_2)|exact HI0.out));(case side2=>repeat (first|(with_reducible first|exact HB.out|apply below_alloc|apply pw_below_drewN|apply below_drew1|refine below_set ?_ (IsS82.ge HI0.out))|exact HB.out));rintro e w17 ⟨rfl,hi,hb,hk⟩;refine ⟨_,rfl,?_⟩;have n0_:=Aside0.mk (KeepBut.trans (by repeat (first|(with_reducible first|exact HK.out|apply KeepBut.set_|apply keep_drewN|apply keep_drew|apply keep_alloc)|exact HK.out)) hk (.inl rfl));have n1_:=Aside0.mk (hb);have n2_:=Aside0.mk (hi);clear HK;clear HB;clear HI0;have HK:=n0_;have HB:=n1_;have HI0:=n2_;clear n0_ n1_ n2_;(try clear hb);(try clear hb2);(try clear hk);(try clear hi))|((with_reducible refine gate_dst (N:=21) rfl ?_);refine Kd.R_lit (Kd.int .i64) _ 3 ?hg (N:=21) ?hd (xs:=([0,0,500000,250000,1] : List Int)) (inner:=[.int .i64 0,.int .i64 0,.int .i64 500000,.int .i64 250000,.int .i64 1]) (ok:=fun _=>True) (okp:=fun _=>True) ?hr ?hp (fun _ hk=>hk) trivial (Below.refl _ _) (Nat.le_refl _) (by simp) ?_;(case hd=>rfl);(case hg=>rfl);(case hr=>first|(go_simp;done)|(go_simp;rfl));(case hp=>exact (Reps.one (show Kd.M (Kd.int .i64) _ _ _ 0 [.int .i64 0] from rfl) (Reps.one (show Kd.M (Kd.int .i64) _ _ _ 0 [.int .i64 0] from rfl) (Reps.one (show Kd.M (Kd.int .i64) _ _ _ 500000 [.int .i64 500000] from rfl) (Reps.one (show Kd.M (Kd.int .i64) _ _ _ 250000 [.int .i64 250000] from rfl) (Reps.one (show Kd.M (Kd.int .i64) _ _ _ 1 [.int .i64 1] from rfl) (Reps.none _ _)))))));intro v181 w18 ho19 hb hg_ hnew_;clear hg_ hnew_;(first|rw [← Ny180.out] at ho19|(simp only [Int.reduceToNat] at ho19;rw [← Ny180.out] at ho19));have n0_:=Aside0.mk (Kd.R_lower ho19 (keep_size (w:=w) (g:=g) (row:=none) (by repeat (first|(with_reducible first|exact HK.out|apply KeepBut.set_|apply keep_drewN|apply keep_drew|apply keep_alloc)|exact HK.out))));have n1_:=Aside0.mk (IsS82.below (by repeat (first|(with_reducible first|exact HI0.out|apply IsS82.alloc|apply IsS82.drewN|apply IsS82.drew|apply IsS82.set_1|apply IsS82.set_2)|exact HI0.out)) hb);have n2_:=Aside0.mk (KeepBut.trans (by repeat (first|(with_reducible first|exact HK.out|apply KeepBut.set_|apply keep_drewN|apply keep_drew|apply keep_alloc)|exact HK.out)) (KeepBut.of_below hb g none) (.inl rfl));have n3_:=Aside0.mk (below_step (by repeat (first|(with_reducible first|exact HB.out|apply below_alloc|apply pw_below_drewN|apply below_drew1|refine below_set ?_ (IsS82.ge HI0.out))|exact HB.out)) hb);clear HI0;clear HK;clear HB;have HO182:=n0_;have HI0:=n1_;have HK:=n2_;have HB:=n3_;clear n0_ n1_ n2_ n3_;clear hb ho19;obtain ⟨Ao20,co20,eo20⟩:=Kd.R_slice HO182.out;subst eo20)|((with_reducible refine gate_callee (f:=23) rfl ?_);refine goesL_ (some 22) rfl rfl Tryz.func23 (by kernel_rfl) rfl #[.pointer (some ⟨g,0,none⟩),.slice Ao20 y180.length co20] rfl (by (try simp only [List.map_toArray,List.map_cons,List.map_nil]);first|done|rfl|(simp only [List.length_drop,List.length_take];rfl)) ?_;(with_reducible refine (spec_l1PickInt.calls g s0_0 t178 t179 _ _ y180 t183 t184 t185 w0 _ ?side1 ?side2 ?side3 ?side4 ?side5 A15.out).mono ?_);(case side1=>repeat (first|(with_reducible first|exact HI0.out|apply IsS82.alloc|apply IsS82.drewN|apply IsS82.drew|apply IsS82.set_1|apply IsS82.set_2)|exact HI0.out));(case side2=>repeat (first|(with_reducible first|exact HB.out|apply below_alloc|apply pw_below_drewN|apply below_drew1|refine below_set ?_ (IsS82.ge HI0.out))|exact HB.out));(case side3=>repeat (first|exact (Kd.R_reads' HO182.out).2.2|(with_reducible refine Kd.C_alloc ?_ _)|(with_reducible refine Kd.C_drewN ?_ _)|(with_reducible refine Kd.C_drew ?_)));(case side4=>exact (Kd.R_reads' HO182.out).2.1);(case side5=>exact far_slice (IsS82.own_ne HI0.out HO182.out (by decide)));rintro e w21 ⟨rfl,hi,hb,hk⟩;refine ⟨_,rfl,?_⟩;have n0_:=Aside0.mk (Kd.R_mono (Kd.R_keep (IsS82.apart (show IsS82 w0 _ g s0_0 t178 t179 from by repeat (first|(with_reducible first|exact HI0.out|apply IsS82.alloc|apply IsS82.drewN|apply IsS82.drew|apply IsS82.set_1|apply IsS82.set_2)|exact HI0.out)) (by (with_reducible repeat (first|apply Kd.R_alloc|apply Kd.R_drewN|apply Kd.R_drew));exact HO182.out) (by decide)) hk (fun _ h=>h.2)) (fun _ h=>h.1));have n1_:=Aside0.mk (KeepBut.trans (by repeat (first|(with_reducible first|exact HK.out|apply KeepBut.set_|apply keep_drewN|apply keep_drew|apply keep_alloc)|exact HK.out)) hk (.inl rfl));have n2_:=Aside0.mk (hb);have n3_:=Aside0.mk (hi);clear HO182;clear HK;clear HB;clear HI0;have HO182:=n0_;have HK:=n1_;have HB:=n2_;have HI0:=n3_;clear n0_ n1_ n2_ n3_;(try clear hb);(try clear hb2);(try clear hk);(try clear hi)))
   go_ret
   exact ⟨by first|rfl|(simp [errW_none,errW_some] <;> rfl)|(simp [*,errW_none,errW_some] <;> rfl),by repeat (first|(with_reducible first|exact HI0.out|apply IsS82.alloc|apply IsS82.drewN|apply IsS82.drew|apply IsS82.set_1|apply IsS82.set_2)|exact HI0.out),by repeat (first|(with_reducible first|exact HB.out|apply below_alloc|apply pw_below_drewN|apply below_drew1|refine below_set ?_ (IsS82.ge HI0.out))|exact HB.out),by repeat (first|(with_reducible first|exact HK.out|apply KeepBut.set_|apply keep_drewN|apply keep_drew|apply keep_alloc)|exact HK.out)⟩
def spec_l1of.l0 : Nat → Int → ByteArray → List Int → Int → List Int → Int → Int → Option (ByteArray × Int × Int)
 | 0,_,_,_,_,_,_,_=>none
 | k + 1,x1,x2,x7,x8,x1000,x1001,x1002=>if x8 < x1 then ((spec_l1Below.f x1000 x1001 x1002 (x2.size : Int)).bind fun bt186=>(if 0 ≤ bt186.1 then (if bt186.1 < (x2.size : Int) then (if x7.length < 140737488355328 then (spec_l1of.l0 k x1 x2 (x7 ++ [bt x2 bt186.1]) (wrap64 (x8 + 1)) x1000 bt186.2.1 bt186.2.2) else (none)) else (none)) else (none))) else (some (strOfNums x7,x1001,x1002))
def spec_l1of.f (k : Nat) (s0_0 : List Int) (s0_1 : Int) (s0_2 : Int) (a1 : Int) (a2 : ByteArray) : Option (ByteArray × Int × Int):=spec_l1of.l0 k a1 a2 ([] : List Int) 0 s0_0 s0_1 s0_2
set_option maxHeartbeats 8000000 in
set_option maxRecDepth 100000 in
theorem spec_l1of.calls (k : Nat) (g : Nat) (s0_0 : List Int) (s0_1 : Int) (s0_2 : Int) (a1 : Int) (a2 : ByteArray) (r1 : ByteArray) (r2 : Int) (r3 : Int) (w0 w : World) (hI : IsS82 w0 w g s0_0 s0_1 s0_2) (hB : Below w0.heap.size w0 w) (h : spec_l1of.f k s0_0 s0_1 s0_2 a1 a2 = some (r1,r2,r3)) :
  Calls Tryz.prog 63 #[.pointer (some ⟨g,0,none⟩),.int .i64 a1,.string a2] w fun e w'=>e = .returned (.string r1) ∧ IsS82 w0 w' g s0_0 r2 r3 ∧ Below w0.heap.size w0 w' ∧ KeepBut w w' g none:=by
 have HI0:=Aside0.mk hI
 have HK:=Aside0.mk (KeepBut.refl w g none)
 have HL:=Aside0.mk hB.size
 clear hI
 have HW0:=Aside0.mk hB.size
 have HB:=Aside0.mk hB
 clear hB
 have H : (spec_l1of.l0 k a1 a2 ([] : List Int) 0 s0_0 s0_1 s0_2) = some (r1,r2,r3):=h
 clear h
 have H':=Aside0.mk H
 clear H
 go_enter Tryz.func63,Tryz.ntmps63
 go_wp2
 go_loopg [7,8] k (fun kq v7 v8 w'=>∃ (x7_1 : List Int) (x8_1 : Int) (x1001_1 : Int) (x1002_1 : Int),v8 = .int .i64 x8_1 ∧ Aside0 (spec_l1of.l0 kq a1 a2 x7_1 x8_1 s0_0 x1001_1 x1002_1 = some (r1,r2,r3)) ∧ Aside0 (kq ≤ k) ∧ Aside0 (Kd.R (Kd.int .u8) 5 w' w.heap.size (fun _=>True) v7 x7_1) ∧ Aside0 (IsS82 w0 w' g s0_0 x1001_1 x1002_1) ∧ Aside0 (KeepBut w w' g none) ∧ Aside0 (Below w0.heap.size w0 w'))
 case atStart=>exact ⟨(([] : List Int)),(0),(s0_1),(s0_2),(by first|rfl|(simp;done)|(simp [*];done)),H',⟨Nat.le_refl _⟩,⟨by first|exact Kd.R_nil _ _ _ _ _|exact Kd.N_nil _ _ _ _ _|exact Kd.V_nil _ _ _ _ _|exact Kd.Q_nil _ _ _ _ _|exact Kd.S_nil _ _ _ _ _⟩,⟨by repeat (first|(with_reducible first|exact HI0.out|apply IsS82.alloc|apply IsS82.drewN|apply IsS82.drew|apply IsS82.set_1|apply IsS82.set_2)|exact HI0.out)⟩,⟨by repeat (first|(with_reducible first|exact HK.out|apply KeepBut.set_|apply keep_drewN|apply keep_drew|apply keep_alloc)|exact HK.out)⟩,⟨by repeat (first|(with_reducible first|exact HB.out|apply below_alloc|apply pw_below_drewN|apply below_drew1|refine below_set ?_ (IsS82.ge HI0.out))|exact HB.out)⟩⟩
 case round =>
  clear H'
  try clear p2
  obtain ⟨x7_1,x8_1,x1001_1,x1002_1,rfl,HA,HK1,HO_7,HI0,HK,HB⟩:=hrel
  cases gk with
  | zero=>exact absurd HA.out (by simp [spec_l1of.l0])
  | succ k1 =>
   have H:=HA.out
   clear HA
   simp only [spec_l1of.l0] at H
   by_cases c4 : x8_1 < a1
   ·rw [if_pos c4] at H
    have c4b0 : decide (x8_1 < a1) = true:=decide_eq_true c4
    clear c4
    replace H:=Option.bind_eq_some_iff.mp H
    obtain ⟨⟨t186,t187,t188⟩,A50,H⟩:=H
    replace H : (if 0 ≤ t186 then (if t186 < (a2.size : Int) then (if x7_1.length < 140737488355328 then (spec_l1of.l0 k1 a1 a2 (x7_1 ++ [bt a2 t186]) (wrap64 (x8_1 + 1)) s0_0 t187 t188) else (none)) else (none)) else (none)) = some (r1,r2,r3):=H
    have A5:=Aside0.mk A50
    clear A50
    by_cases c6 : 0 ≤ t186
    ·rw [if_pos c6] at H
     have c6b0 : decide (0 ≤ t186) = true:=decide_eq_true c6
     clear c6
     by_cases c7 : t186 < (a2.size : Int)
     ·rw [if_pos c7] at H
      have c7b0 : decide (t186 < (a2.size : Int)) = true:=decide_eq_true c7
      clear c7
      by_cases c9 : x7_1.length < 140737488355328
      ·rw [if_pos c9] at H
       have LMc9:=Aside0.mk c9
       clear c9
       obtain ⟨y189,hy189⟩ : ∃ y_ : List Int,y_ = (x7_1 ++ [bt a2 t186]):=⟨_,rfl⟩
       replace H : (spec_l1of.l0 k1 a1 a2 y189 (wrap64 (x8_1 + 1)) s0_0 t187 t188) = some (r1,r2,r3):=by first|(rw [hy189];with_reducible exact H)|(have H2_:=(Option.bind_some _ _).symm.trans H;rw [hy189];with_reducible exact H2_)|(have H2_:=(Option.bind_some _ _).symm.trans H;with_reducible exact H2_)|with_reducible exact H|(rw [hy189];exact H)|exact H
       have Ny189:=Aside0.mk hy189
       clear hy189
       have H':=Aside0.mk H
       clear H
       go_wp2_with (first|((with_reducible refine gate_callee (f:=59) rfl ?_);refine goesL_ (some 19) rfl rfl Tryz.func59 (by kernel_rfl) rfl #[.pointer (some ⟨g,0,none⟩),.int .i64 (a2.size : Int)] rfl (by (try simp only [List.map_toArray,List.map_cons,List.map_nil]);first|done|rfl|(simp only [List.length_drop,List.length_take];rfl)) ?_;(with_reducible refine (spec_l1Below.calls g s0_0 x1001_1 x1002_1 (a2.size : Int) t186 t187 t188 w0 _ ?side1 ?side2 A5.out).mono ?_);(case side1=>repeat (first|(with_reducible first|exact HI0.out|apply IsS82.alloc|apply IsS82.drewN|apply IsS82.drew|apply IsS82.set_1|apply IsS82.set_2)|exact HI0.out));(case side2=>repeat (first|(with_reducible first|exact HB.out|apply below_alloc|apply pw_below_drewN|apply below_drew1|refine below_set ?_ (IsS82.ge HI0.out))|exact HB.out));rintro e w10 ⟨rfl,hi,hb,hk⟩;refine ⟨_,rfl,?_⟩;have n0_:=Aside0.mk (Kd.R_mono (Kd.R_keep (IsS82.apart (show IsS82 w0 _ g s0_0 x1001_1 x1002_1 from by repeat (first|(with_reducible first|exact HI0.out|apply IsS82.alloc|apply IsS82.drewN|apply IsS82.drew|apply IsS82.set_1|apply IsS82.set_2)|exact HI0.out)) (by (with_reducible repeat (first|apply Kd.R_alloc|apply Kd.R_drewN|apply Kd.R_drew));exact HO_7.out) (by decide)) hk (fun _ h=>h.2)) (fun _ h=>h.1));have n1_:=Aside0.mk (KeepBut.trans (by repeat (first|(with_reducible first|exact HK.out|apply KeepBut.set_|apply keep_drewN|apply keep_drew|apply keep_alloc)|exact HK.out)) hk (.inl rfl));have n2_:=Aside0.mk (hb);have n3_:=Aside0.mk (hi);clear HO_7;clear HK;clear HB;clear HI0;have HO_7:=n0_;have HK:=n1_;have HB:=n2_;have HI0:=n3_;clear n0_ n1_ n2_ n3_;(try clear hb);(try clear hb2);(try clear hk);(try clear hi);have p8 : 0 ≤ (t186 : Int):=of_decide_eq_true (by first|(with_reducible assumption)|assumption);have q8 : t186 < (a2.size : Int):=of_decide_eq_true (by first|(with_reducible assumption)|assumption);have hx8:=bt_at a2 t186;replace p8:=eq_true p8;replace q8:=eq_true q8)|((with_reducible refine gate_builtin (b:=.append) (xs:=#[.tmp 14,.tmp 21]) rfl ?_);at_builtin;refine Kd.R_append (Kd.int .u8) w.heap.size rfl (.tmp 14) (.tmp 21) 22 5 (.int .u8 0) 1 rfl Tryz.underlying22 info5 rfl (by decide) (by omega) u7 x7_1 (bt a2 t186) [.int .u8 (bt a2 t186)] (fun _=>True) (fun _=>False) rfl rfl ?aP (fun _ hk=>hk.elim) ?aF ?aO (Below.refl _ _) ?aS ?aL ?_;(case aP=>exact rfl);(case aF=>exact (fun _ _=>trivial));(case aO=>exact (by (with_reducible repeat (first|apply Kd.R_alloc|apply Kd.R_drewN|apply Kd.R_drew));exact HO_7.out));(case aS=>exact (keep_size (w:=w) (g:=g) (row:=none) (by repeat (first|(with_reducible first|exact HK.out|apply KeepBut.set_|apply keep_drewN|apply keep_drew|apply keep_alloc)|exact HK.out))));(case aL=>have:=LMc9.out;omega);intro v190 w11 ho hb hg hat;rw [← Ny189.out] at ho;have n0_:=Aside0.mk (IsS82.grown (by repeat (first|(with_reducible first|exact HI0.out|apply IsS82.alloc|apply IsS82.drewN|apply IsS82.drew|apply IsS82.set_1|apply IsS82.set_2)|exact HI0.out)) hg (IsS82.own_ne HI0.out HO_7.out (by decide)));have n1_:=Aside0.mk (below_weaken (by repeat (first|(with_reducible first|exact HB.out|apply below_alloc|apply pw_below_drewN|apply below_drew1|refine below_set ?_ (IsS82.ge HI0.out))|exact HB.out)) HL.out hb);have n2_:=Aside0.mk (KeepBut.trans (by repeat (first|(with_reducible first|exact HK.out|apply KeepBut.set_|apply keep_drewN|apply keep_drew|apply keep_alloc)|exact HK.out)) (KeepBut.of_grown hg g) (Kd.R_base2 HO_7.out));have n3_:=Aside0.mk (ho);clear HI0;clear HB;clear HK;clear HO_7;have HI0:=n0_;have HB:=n1_;have HK:=n2_;have HO191:=n3_;clear n0_ n1_ n2_ n3_;clear ho hb hg hat))
       go_roundg k1
       case measure=>have:=HK1.out;omega
       case rel=>exact ⟨(y189),(wrap64 (x8_1 + 1)),(t187),(t188),(by first|rfl|(simp;done)|(simp [*];done)),H',⟨by have:=HK1.out;omega⟩,⟨by (with_reducible repeat (first|apply Kd.R_alloc|apply Kd.R_drewN|apply Kd.R_drew));exact HO191.out⟩,⟨by repeat (first|(with_reducible first|exact HI0.out|apply IsS82.alloc|apply IsS82.drewN|apply IsS82.drew|apply IsS82.set_1|apply IsS82.set_2)|exact HI0.out)⟩,⟨by repeat (first|(with_reducible first|exact HK.out|apply KeepBut.set_|apply keep_drewN|apply keep_drew|apply keep_alloc)|exact HK.out)⟩,⟨by repeat (first|(with_reducible first|exact HB.out|apply below_alloc|apply pw_below_drewN|apply below_drew1|refine below_set ?_ (IsS82.ge HI0.out))|exact HB.out)⟩⟩
      ·rw [if_neg c9] at H
       exact absurd H (by simp)
     ·rw [if_neg c7] at H
      exact absurd H (by simp)
    ·rw [if_neg c6] at H
     exact absurd H (by simp)
   ·rw [if_neg c4] at H
    have c4b0 : decide (x8_1 < a1) = false:=decide_eq_false c4
    clear c4
    simp only [Option.some.injEq,Prod.mk.injEq] at H
    obtain ⟨rfl,rfl,rfl⟩:=H
    have hcv12:=own_string (P:=Tryz.prog) Tryz.underlying22 Tryz.underlying5 Tryz.underlying9 (Kd.own_of_R HO_7.out)
    go_wp2
    go_ret
    exact ⟨by first|rfl|(simp [errW_none,errW_some] <;> rfl)|(simp [*,errW_none,errW_some] <;> rfl),by repeat (first|(with_reducible first|exact HI0.out|apply IsS82.alloc|apply IsS82.drewN|apply IsS82.drew|apply IsS82.set_1|apply IsS82.set_2)|exact HI0.out),by repeat (first|(with_reducible first|exact HB.out|apply below_alloc|apply pw_below_drewN|apply below_drew1|refine below_set ?_ (IsS82.ge HI0.out))|exact HB.out),by repeat (first|(with_reducible first|exact HK.out|apply KeepBut.set_|apply keep_drewN|apply keep_drew|apply keep_alloc)|exact HK.out)⟩
def spec_l7bent.f (k : Nat) (s0_0 : List Int) (s0_1 : Int) (s0_2 : Int) : Option (Int × Int × ByteArray × Int × Int):=(spec_l7draw.f k s0_0 s0_1 s0_2).bind fun bt193=>((spec_l1Below.f s0_0 bt193.2.2.2.1 bt193.2.2.2.2 16).bind fun bt199=>(if bt199.1 = 0 then ((spec_l1Below.f s0_0 bt199.2.1 bt199.2.2 6).bind fun bt202=>(some (wrap64 (bt202.1 - 1),bt193.2.1,bt193.2.2.1,bt202.2.1,bt202.2.2))) else (if bt199.1 = 1 then ((spec_l1num.f s0_0 bt199.2.1 bt199.2.2).bind fun bt205=>(some (bt193.1,bt205.1,bt193.2.2.1,bt205.2.1,bt205.2.2))) else (if bt199.1 = 2 then ((spec_l1Below.f s0_0 bt199.2.1 bt199.2.2 2).bind fun bt208=>((spec_l1of.f k s0_0 bt208.2.1 bt208.2.2 (wrap64 (500 + bt208.1)) (⟨#[97]⟩ : ByteArray)).bind fun bt211=>(some (bt193.1,bt193.2.1,bt211.1,bt211.2.1,bt211.2.2)))) else (some (bt193.1,bt193.2.1,bt193.2.2.1,bt199.2.1,bt199.2.2))))))
end Go.Proofs.YtnfiljnncpieoaaGreatDoor.Q
