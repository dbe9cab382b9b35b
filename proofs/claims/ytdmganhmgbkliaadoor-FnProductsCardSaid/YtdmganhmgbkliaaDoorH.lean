/- The contracts of this seat that are not printed: impl.run, strconv.Itoa, bits.Len64, by the texts that prove them; conditions: numbers of their kinds, and that the library's table of powers holds what its initialiser lays. -/
import Derived.Test.YtdmganhmgbkliaaDoorQx0
import Derived.Test.YtdmganhmgbkliaaDoorRead
import Derived.Test.YtdmganhmgbkliaaDoorTabs
import Derived.Test.YtdmganhmgbkliaaDoorShelf
namespace Go.Proofs.YtdmganhmgbkliaaDoor.Q
open Go.Shelf Go.RowKit Go.Proofs.YtdmganhmgbkliaaDoorW.PrintWords Go.Proofs.YtdmganhmgbkliaaDoorW.PrintLast Go.Proofs.YtdmganhmgbkliaaDoorW.PrintMore

def impl_run.f (s : ByteArray) (i : Int) (fn : Nat) : Option Int :=
  if s.size ≤ 9223372036854775807 ∧ 0 ≤ i ∧ i ≤ s.size then (if fn = 107 then some (runN isSp s i.toNat) else if fn = 108 then some (runN isDg s i.toNat) else none) else none

theorem impl_run.calls (a0 : ByteArray) (a1 : Int) (a2 : Nat) (r : Int) (w : World) (h : impl_run.f a0 a1 a2 = some r) :
    Calls Tryd.prog 106 #[.string a0, .int .i64 a1, .func (.func a2) #[] #[]] w fun e w' => e = .returned (.int .i64 r) ∧ Drawn0 w w' := by
  unfold impl_run.f at h
  by_cases hb : a0.size ≤ 9223372036854775807 ∧ 0 ≤ a1 ∧ a1 ≤ a0.size
  case neg => rw [if_neg hb] at h; cases h
  rw [if_pos hb] at h
  obtain ⟨hs, h0, h1⟩ := hb
  obtain ⟨i, rfl⟩ := Int.eq_ofNat_of_zero_le h0
  rw [Int.toNat_natCast] at h
  by_cases h2 : a2 = 107
  · rw [if_pos h2] at h
    subst h2
    obtain rfl := Option.some.inj h
    exact (run_any _ isSp isSpace_any (enters_of Tryd.func107 (by kernel_rfl) rfl) a0 hs i (by omega) w).mono fun e w' ⟨he, hw⟩ => ⟨he, hw ▸ Drawn0.refl _⟩
  · rw [if_neg h2] at h
    by_cases h3 : a2 = 108
    · rw [if_pos h3] at h
      subst h3
      obtain rfl := Option.some.inj h
      exact (run_any _ isDg isDigit_any (enters_of Tryd.func108 (by kernel_rfl) rfl) a0 hs i (by omega) w).mono fun e w' ⟨he, hw⟩ => ⟨he, hw ▸ Drawn0.refl _⟩
    · rw [if_neg h3] at h; cases h

def strconv_Itoa_109.f (n : Int) : Option ByteArray := if -9223372036854775808 ≤ n ∧ n ≤ 9223372036854775807 then some ⟨(Lib.itoa n).toArray⟩ else none

theorem below_grow0 (w : World) (k : Nat) (os : Array Obj) : Below w.heap.size w (Go.Sort.grow (w.drewN k) os) :=
  ⟨rfl, rfl, rfl, by show w.heap.size ≤ (w.heap ++ os).size; rw [Array.size_append]; omega, fun j hj => by
    show (w.heap ++ os)[j]? = w.heap[j]?
    rw [Array.getElem?_append_left hj]⟩

theorem strconv_Itoa_109.calls (a0 : Int) (r : ByteArray) (w : World) (h : strconv_Itoa_109.f a0 = some r) (hT : Tabs w := by first | assumption | (refine Aside0.out (p := Tabs _) ?_; assumption) | (refine Tabs.below (w := ?ww) (Aside0.out ?ha) ?hb; (case ha => assumption); (case hb => repeat (first | (with_reducible first | exact Below.refl _ _ | (refine Aside0.out ?_; assumption) | apply below_alloc | apply pw_below_drewN | apply below_drew1 | (refine below_set ?_ (Aside0.out ?_); (rotate_left; assumption))) | (refine Aside0.out ?_; assumption)))) | (refine Tabs.drewN (w := ?ww) (Aside0.out ?ha) _; (case ha => assumption))) :
    Calls Tryd.prog 109 #[.int .i64 a0] w fun e w' => e = .returned (.string r) ∧ Below w.heap.size w w' := by
  unfold strconv_Itoa_109.f at h
  by_cases hb : -9223372036854775808 ≤ a0 ∧ a0 ≤ 9223372036854775807
  · rw [if_pos hb] at h
    obtain rfl := Option.some.inj h
    exact (Tryd.strconv_Itoa a0 hb.1 hb.2 w hT.pow10).mono fun e w' ⟨he, k, os, hw⟩ => ⟨he, hw ▸ below_grow0 w k os⟩
  · rw [if_neg hb] at h; cases h

def bits_Len64.f (n : Int) : Option Int := if 0 ≤ n ∧ n ≤ 18446744073709551615 then some (Lib.bitLen n.toNat) else none

theorem bits_Len64.calls (a0 : Int) (r : Int) (w : World) (h : bits_Len64.f a0 = some r) :
    Calls Tryd.prog 131 #[.int .u64 a0] w fun e w' => e = .returned (.int .i64 r) ∧ Drawn0 w w' := by
  unfold bits_Len64.f at h
  by_cases hb : 0 ≤ a0 ∧ a0 ≤ 18446744073709551615
  · rw [if_pos hb] at h
    obtain rfl := Option.some.inj h
    exact (Tryd.bits_Len64 a0 w hb.1 hb.2).mono fun e w' ⟨he, hw⟩ => ⟨he, hw ▸ Drawn0.refl _⟩
  · rw [if_neg hb] at h; cases h
end Go.Proofs.YtdmganhmgbkliaaDoor.Q
