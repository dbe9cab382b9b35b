/- The contracts of impl.run at isSpace and isDigit, and of impl.ReadDec: what they return, whatever text; condition: the text is no longer than a Go value can be. -/
import Derived.Test.YtdmganhmgbkliaaDoorQx0
import Derived.Deep.DeepCutAuto
import Derived.Deep.LoopGhost
namespace Go.Proofs.YtdmganhmgbkliaaDoor.Q
open Go.RowKit Go.Proofs.YtdmganhmgbkliaaDoorW.PrintWords Go.Proofs.YtdmganhmgbkliaaDoorW.PrintLast Go.Proofs.YtdmganhmgbkliaaDoorW.PrintMore

theorem str_lh {P : Program} {t : TypeId} (ht : P.underlying t = some .string) (s : ByteArray) (l h : Int) (h0 : 0 ≤ l) (h1 : l ≤ h) (h2 : h ≤ s.size) (W : World) :
    (Instr.slice t (.string s) (some (.int .i64 l)) (some (.int .i64 h)) none).run P W = .ok (.string (s.extract l.toNat h.toNat)) W := by
  have e1 : (h.toNat : Int) = h := Int.toNat_of_nonneg (by omega)
  have hu := run_underlying (P := P) ht
  simp [Instr.slice, Instr.sliceBounds, run_sliceBound, *, (by omega : 0 ≤ h)]

theorem str_h {P : Program} {t : TypeId} (ht : P.underlying t = some .string) (s : ByteArray) (h : Int) (h0 : 0 ≤ h) (h2 : h ≤ s.size) (W : World) :
    (Instr.slice t (.string s) none (some (.int .i64 h)) none).run P W = .ok (.string (s.extract 0 h.toNat)) W := by
  have e1 : (h.toNat : Int) = h := Int.toNat_of_nonneg (by omega)
  have hu := run_underlying (P := P) ht
  simp [Instr.slice, Instr.sliceBounds, run_sliceBound, *]

theorem u8_wrap (n : Int) : IntKind.u8.wrap n = n % 256 := by
  simp [IntKind.wrap, IntKind.signed, IntKind.bits]

theorem ret2_int {a b c d : Int} (h : a = b) (h2 : c = d) : Ending.returned (.tuple #[.int .i64 a, .int .i64 c]) = Ending.returned (.tuple #[.int .i64 b, .int .i64 d]) := by rw [h, h2]

/-- How many bytes from a place on are of a kind. -/
def runN (p : Int → Bool) (s : ByteArray) (i : Nat) : Nat := if i < s.size then (if p (bt s i) then runN p s (i + 1) + 1 else 0) else 0
termination_by s.size - i

theorem runN_le (p : Int → Bool) (s : ByteArray) (i : Nat) : i ≤ s.size → i + runN p s i ≤ s.size := by
  fun_induction runN p s i with
  | case1 i h1 h2 ih => intro h; have := ih (by omega); omega
  | case2 i h1 h2 => intro h; omega
  | case3 i h1 => intro h; omega

theorem runN_hit {p : Int → Bool} {s : ByteArray} {i : Nat} (h : i < s.size) (hp : p (bt s i) = true) : runN p s i = runN p s (i + 1) + 1 := by
  rw [runN, if_pos h, if_pos hp]
theorem runN_miss {p : Int → Bool} {s : ByteArray} {i : Nat} (h : i < s.size) (hp : p (bt s i) = false) : runN p s i = 0 := by
  rw [runN, if_pos h, if_neg (by rw [hp]; simp)]
theorem runN_end {p : Int → Bool} {s : ByteArray} {i : Nat} (h : ¬ i < s.size) : runN p s i = 0 := by
  rw [runN, if_neg h]

theorem bt_nat {s : ByteArray} {j : Nat} (h : j < s.size) : bt s (j : Int) = (s[j].toNat : Int) := by
  unfold bt
  rw [dif_pos (by simpa using h)]
  simp

def isSp (c : Int) : Bool := c == 32 || (c == 9 || c == 10)
def isDg (c : Int) : Bool := decide (48 ≤ c) && decide (c ≤ 57)

theorem isSpace_any (c : Int) (w : World) : Calls Tryd.prog 107 #[.int .u8 c] w fun e w' => e = .returned (.bool (isSp c)) ∧ w' = w := by
  by_cases h1 : c = 32
  · subst h1; go_enter Tryd.func107, Tryd.ntmps107; go_wp2; go_ret; exact ⟨rfl, rfl⟩
  · by_cases h2 : c = 9
    · subst h2; go_enter Tryd.func107, Tryd.ntmps107; go_wp2; go_ret; exact ⟨rfl, rfl⟩
    · have b1 : (c == 32) = false := beq_eq_false_iff_ne.mpr h1
      have b2 : (c == 9) = false := beq_eq_false_iff_ne.mpr h2
      have HF : Aside0 (isSp c = (c == 10)) := ⟨by simp [isSp, b1, b2]⟩
      clear h1 h2
      go_enter Tryd.func107, Tryd.ntmps107
      go_wp2
      go_ret
      exact ⟨by rw [HF.out] <;> rfl, rfl⟩

theorem isDigit_any (c : Int) (w : World) : Calls Tryd.prog 108 #[.int .u8 c] w fun e w' => e = .returned (.bool (isDg c)) ∧ w' = w := by
  by_cases h1 : 48 ≤ c
  · have b1 : decide (48 ≤ c) = true := decide_eq_true h1
    have HF : Aside0 (isDg c = decide (c ≤ 57)) := ⟨by simp [isDg, h1]⟩
    clear h1
    go_enter Tryd.func108, Tryd.ntmps108
    go_wp2
    go_ret
    exact ⟨by rw [HF.out] <;> rfl, rfl⟩
  · have b1 : decide (48 ≤ c) = false := decide_eq_false h1
    have HF : Aside0 (isDg c = false) := ⟨by simp [isDg, h1]⟩
    clear h1
    go_enter Tryd.func108, Tryd.ntmps108
    go_wp2
    go_ret
    exact ⟨by rw [HF.out] <;> rfl, rfl⟩

set_option maxHeartbeats 1000000 in
theorem run_any (fn : Nat) (p : Int → Bool) (hp : ∀ c w, Calls Tryd.prog fn #[.int .u8 c] w fun e w' => e = .returned (.bool (p c)) ∧ w' = w) (eg : ∀ args w, (callFunc fn args).run Tryd.prog w = .ok (.enter fn args) w)
    (s : ByteArray) (hs : s.size ≤ 9223372036854775807) (i : Nat) (hi : i ≤ s.size) (w : World) :
    Calls Tryd.prog 106 #[.string s, .int .i64 i, .func (.func fn) #[] #[]] w fun e w' => e = .returned (.int .i64 (runN p s i)) ∧ w = w' := by
  have HP := Aside0.mk hp
  clear hp
  go_enter Tryd.func106, Tryd.ntmps106
  go_wp2
  go_loopg [7] (s.size - i) (fun gg v7 wr => ∃ k : Nat, v7 = .int .i64 k ∧ i + k ≤ s.size ∧ s.size - i - k ≤ gg ∧ Aside0 (runN p s i = k + runN p s (i + k)) ∧ wr = w)
  case atStart => exact ⟨0, rfl, by omega, by omega, ⟨by simp⟩, rfl⟩
  case round =>
    obtain ⟨k, rfl, hk, hg, HR, rfl⟩ := hrel
    by_cases hlt : i + k < s.size
    · have hlt0 : (i : Int) + (k : Int) < (s.size : Int) := by omega
      have hcall := HP.out (bt s ((i + k : Nat) : Int)) wr
      have hb : Aside0 (bt s ((i + k : Nat) : Int) = (s[i + k].toNat : Int)) := ⟨bt_nat hlt⟩
      cases hq : p (bt s ((i + k : Nat) : Int)) with
      | true =>
        have HN : Aside0 (runN p s (i + k) = runN p s (i + k + 1) + 1) := ⟨runN_hit hlt hq⟩
        rw [hq, hb.out] at hcall
        clear hq
        go_wp2_with fail
        refine hcall.mono ?_
        rintro e w' ⟨rfl, rfl⟩
        go_wp2_with fail
        go_roundg (s.size - i - (k + 1))
        case measure => omega
        case rel => exact ⟨k + 1, by go_num, by omega, by omega, ⟨by have h1 := HR.out; have h2 := HN.out; rw [← Nat.add_assoc]; omega⟩, rfl⟩
      | false =>
        have HN : Aside0 (runN p s (i + k) = 0) := ⟨runN_miss hlt hq⟩
        rw [hq, hb.out] at hcall
        clear hq
        go_wp2_with fail
        refine hcall.mono ?_
        rintro e w' ⟨rfl, rfl⟩
        go_wp2_with fail
        go_ret
        exact ⟨by rw [HR.out, HN.out] <;> rfl, rfl⟩
    · have hlt0 : ¬ (i : Int) + (k : Int) < (s.size : Int) := by omega
      have HN : Aside0 (runN p s (i + k) = 0) := ⟨runN_end hlt⟩
      go_wp2
      go_ret
      exact ⟨by rw [HR.out, HN.out] <;> rfl, rfl⟩
end Go.Proofs.YtdmganhmgbkliaaDoor.Q
