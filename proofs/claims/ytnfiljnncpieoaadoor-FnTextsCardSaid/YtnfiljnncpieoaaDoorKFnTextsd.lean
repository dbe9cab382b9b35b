/- What the row of FnTexts rests on, and the row: for every input that can be read the call returns true and the input reads as it did; condition: what the row lists of the library reads as the program lays it. -/
import Derived.Test.YtnfiljnncpieoaaDoorKFnTextsc
import Derived.Test.YtnfiljnncpieoaaDoorCards
import Derived.Test.YtnfiljnncpieoaaDoorRows
import Derived.Test.YtnfiljnncpieoaaDoorTie
set_option linter.unusedVariables false
set_option linter.unusedSimpArgs false
namespace Go.Proofs.YtnfiljnncpieoaaDoor.Q
open Go.RowKit Go.Proofs.YtnfiljnncpieoaaDoorW.PrintWords Go.Proofs.YtnfiljnncpieoaaDoorW.PrintLast Go.Proofs.YtnfiljnncpieoaaDoorW.PrintMore
attribute [local go_sem] max2_int min2_int max_two min_two max_three min_three max_four min_four   -- for this text's walks alone
set_option linter.unusedVariables false
set_option linter.unusedSimpArgs false
set_option maxHeartbeats 8000000 in
set_option maxRecDepth 100000 in
theorem spec_DrawIndexOf.calls (k : Nat) (A0 : Option Addr) (c0 : Nat) (l0 : List Int) (r1 : ByteArray) (r2 : ByteArray) (w : World) (hr0 : Kd.C (Kd.int .u8) w A0 l0.length l0) (hc0 : l0.length ≤ c0) (h : spec_DrawIndexOf.f k l0 = some (r1, r2)) :
    Calls Tryd.prog 27 #[.slice A0 l0.length c0] w fun e w' => e = .returned (.tuple #[.string r1, .string r2]) ∧ Below w.heap.size w w' := by
  have HR0 := Aside0.mk hr0
  have HC0 := Aside0.mk hc0
  clear hr0 hc0
  have HB := Aside0.mk (Below.refl w.heap.size w)
  have H : ((spec_l1New.f k l0).bind fun bt511 => ((spec_l1Below.f bt511.1 bt511.2.1 bt511.2.2 12).bind fun bt515 => ((spec_l1of.f k bt511.1 bt515.2.1 bt515.2.2 bt515.1 (⟨#[97, 98]⟩ : ByteArray)).bind fun bt518 => ((spec_l1Below.f bt511.1 bt518.2.1 bt518.2.2 4).bind fun bt521 => ((spec_l1of.f k bt511.1 bt521.2.1 bt521.2.2 bt521.1 (⟨#[97, 98]⟩ : ByteArray)).bind fun bt524 => (some (bt518.1, bt524.1))))))) = some (r1, r2) := h
  clear h
  replace H := Option.bind_eq_some_iff.mp H
  obtain ⟨⟨t511, t512, t513⟩, A20, H⟩ := H
  replace H : ((spec_l1Below.f t511 t512 t513 12).bind fun bt515 => ((spec_l1of.f k t511 bt515.2.1 bt515.2.2 bt515.1 (⟨#[97, 98]⟩ : ByteArray)).bind fun bt518 => ((spec_l1Below.f t511 bt518.2.1 bt518.2.2 4).bind fun bt521 => ((spec_l1of.f k t511 bt521.2.1 bt521.2.2 bt521.1 (⟨#[97, 98]⟩ : ByteArray)).bind fun bt524 => (some (bt518.1, bt524.1)))))) = some (r1, r2) := H
  have A2 := Aside0.mk A20
  clear A20
  replace H := Option.bind_eq_some_iff.mp H
  obtain ⟨⟨t515, t516, t517⟩, A30, H⟩ := H
  replace H : ((spec_l1of.f k t511 t516 t517 t515 (⟨#[97, 98]⟩ : ByteArray)).bind fun bt518 => ((spec_l1Below.f t511 bt518.2.1 bt518.2.2 4).bind fun bt521 => ((spec_l1of.f k t511 bt521.2.1 bt521.2.2 bt521.1 (⟨#[97, 98]⟩ : ByteArray)).bind fun bt524 => (some (bt518.1, bt524.1))))) = some (r1, r2) := H
  have A3 := Aside0.mk A30
  clear A30
  replace H := Option.bind_eq_some_iff.mp H
  obtain ⟨⟨t518, t519, t520⟩, A40, H⟩ := H
  replace H : ((spec_l1Below.f t511 t519 t520 4).bind fun bt521 => ((spec_l1of.f k t511 bt521.2.1 bt521.2.2 bt521.1 (⟨#[97, 98]⟩ : ByteArray)).bind fun bt524 => (some (t518, bt524.1)))) = some (r1, r2) := H
  have A4 := Aside0.mk A40
  clear A40
  replace H := Option.bind_eq_some_iff.mp H
  obtain ⟨⟨t521, t522, t523⟩, A50, H⟩ := H
  replace H : ((spec_l1of.f k t511 t522 t523 t521 (⟨#[97, 98]⟩ : ByteArray)).bind fun bt524 => (some (t518, bt524.1))) = some (r1, r2) := H
  have A5 := Aside0.mk A50
  clear A50
  replace H := Option.bind_eq_some_iff.mp H
  obtain ⟨⟨t524, t525, t526⟩, A60, H⟩ := H
  replace H : (some (t518, t524)) = some (r1, r2) := H
  have A6 := Aside0.mk A60
  clear A60
  simp only [Option.some.injEq, Prod.mk.injEq] at H
  obtain ⟨rfl, rfl⟩ := H
  go_enter Tryd.func27, Tryd.ntmps27
  go_wp2_with (first | ((with_reducible refine gate_callee (f := 45) rfl ?_); refine goesL_ (some 7) rfl rfl Tryd.func45 (by kernel_rfl) rfl #[.slice A0 l0.length c0] rfl (by (try simp only [List.map_toArray, List.map_cons, List.map_nil]); first | done | rfl | (simp only [List.length_drop, List.length_take]; rfl)) ?_; (with_reducible refine (spec_l1New.calls k _ _ l0 t511 t512 t513 w _ ?side1 ?side2 ?side3 A2.out).mono ?_); (case side1 => repeat (first | (with_reducible first | exact HB.out | apply below_alloc | apply pw_below_drewN | apply below_drew1) | exact HB.out)); (case side2 => exact HR0.out); (case side3 => exact HC0.out); rintro e w7 ⟨g514, rfl, hi, hb, hb2⟩; refine ⟨_, rfl, ?_⟩; have n0_ := Aside0.mk (hb); have n1_ := Aside0.mk (hi); clear HB; have HB := n0_; have HI514 := n1_; clear n0_ n1_; (try clear hb); (try clear hb2); (try clear hk); (try clear hi)) | ((with_reducible refine gate_callee (f := 48) rfl ?_); refine goesL_ (some 10) rfl rfl Tryd.func48 (by kernel_rfl) rfl #[.pointer (some ⟨g514, 0, none⟩), .int .i64 12] rfl (by (try simp only [List.map_toArray, List.map_cons, List.map_nil]); first | done | rfl | (simp only [List.length_drop, List.length_take]; rfl)) ?_; (with_reducible refine (spec_l1Below.calls g514 t511 t512 t513 12 t515 t516 t517 w _ ?side1 ?side2 A3.out).mono ?_); (case side1 => repeat (first | (with_reducible first | exact HI514.out | apply IsS90.alloc | apply IsS90.drewN | apply IsS90.drew | apply IsS90.set_1 | apply IsS90.set_2) | exact HI514.out)); (case side2 => repeat (first | (with_reducible first | exact HB.out | apply below_alloc | apply pw_below_drewN | apply below_drew1 | refine below_set ?_ (IsS90.ge HI514.out)) | exact HB.out)); rintro e w8 ⟨rfl, hi, hb, hk⟩; refine ⟨_, rfl, ?_⟩; have n0_ := Aside0.mk (hb); have n1_ := Aside0.mk (hi); clear HB; clear HI514; have HB := n0_; have HI514 := n1_; clear n0_ n1_; (try clear hb); (try clear hb2); (try clear hk); (try clear hi)) | ((with_reducible refine gate_callee (f := 47) rfl ?_); refine goesL_ (some 11) rfl rfl Tryd.func47 (by kernel_rfl) rfl #[.pointer (some ⟨g514, 0, none⟩), .int .i64 t515, .string (⟨#[97, 98]⟩ : ByteArray)] rfl (by (try simp only [List.map_toArray, List.map_cons, List.map_nil]); first | done | rfl | (simp only [List.length_drop, List.length_take]; rfl)) ?_; (with_reducible refine (spec_l1of.calls k g514 t511 t516 t517 t515 (⟨#[97, 98]⟩ : ByteArray) t518 t519 t520 w _ ?side1 ?side2 A4.out).mono ?_); (case side1 => repeat (first | (with_reducible first | exact HI514.out | apply IsS90.alloc | apply IsS90.drewN | apply IsS90.drew | apply IsS90.set_1 | apply IsS90.set_2) | exact HI514.out)); (case side2 => repeat (first | (with_reducible first | exact HB.out | apply below_alloc | apply pw_below_drewN | apply below_drew1 | refine below_set ?_ (IsS90.ge HI514.out)) | exact HB.out)); rintro e w9 ⟨rfl, hi, hb, hk⟩; refine ⟨_, rfl, ?_⟩; have n0_ := Aside0.mk (hb); have n1_ := Aside0.mk (hi); clear HB; clear HI514; have HB := n0_; have HI514 := n1_; clear n0_ n1_; (try clear hb); (try clear hb2); (try clear hk); (try clear hi)) | ((with_reducible refine gate_callee (f := 48) rfl ?_); refine goesL_ (some 15) rfl rfl Tryd.func48 (by kernel_rfl) rfl #[.pointer (some ⟨g514, 0, none⟩), .int .i64 4] rfl (by (try simp only [List.map_toArray, List.map_cons, List.map_nil]); first | done | rfl | (simp only [List.length_drop, List.length_take]; rfl)) ?_; (with_reducible refine (spec_l1Below.calls g514 t511 t519 t520 4 t521 t522 t523 w _ ?side1 ?side2 A5.out).mono ?_); (case side1 => repeat (first | (with_reducible first | exact HI514.out | apply IsS90.alloc | apply IsS90.drewN | apply IsS90.drew | apply IsS90.set_1 | apply IsS90.set_2) | exact HI514.out)); (case side2 => repeat (first | (with_reducible first | exact HB.out | apply below_alloc | apply pw_below_drewN | apply below_drew1 | refine below_set ?_ (IsS90.ge HI514.out)) | exact HB.out)); rintro e w10 ⟨rfl, hi, hb, hk⟩; refine ⟨_, rfl, ?_⟩; have n0_ := Aside0.mk (hb); have n1_ := Aside0.mk (hi); clear HB; clear HI514; have HB := n0_; have HI514 := n1_; clear n0_ n1_; (try clear hb); (try clear hb2); (try clear hk); (try clear hi)) | ((with_reducible refine gate_callee (f := 47) rfl ?_); refine goesL_ (some 16) rfl rfl Tryd.func47 (by kernel_rfl) rfl #[.pointer (some ⟨g514, 0, none⟩), .int .i64 t521, .string (⟨#[97, 98]⟩ : ByteArray)] rfl (by (try simp only [List.map_toArray, List.map_cons, List.map_nil]); first | done | rfl | (simp only [List.length_drop, List.length_take]; rfl)) ?_; (with_reducible refine (spec_l1of.calls k g514 t511 t522 t523 t521 (⟨#[97, 98]⟩ : ByteArray) t524 t525 t526 w _ ?side1 ?side2 A6.out).mono ?_); (case side1 => repeat (first | (with_reducible first | exact HI514.out | apply IsS90.alloc | apply IsS90.drewN | apply IsS90.drew | apply IsS90.set_1 | apply IsS90.set_2) | exact HI514.out)); (case side2 => repeat (first | (with_reducible first | exact HB.out | apply below_alloc | apply pw_below_drewN | apply below_drew1 | refine below_set ?_ (IsS90.ge HI514.out)) | exact HB.out)); rintro e w11 ⟨rfl, hi, hb, hk⟩; refine ⟨_, rfl, ?_⟩; have n0_ := Aside0.mk (hb); have n1_ := Aside0.mk (hi); clear HB; clear HI514; have HB := n0_; have HI514 := n1_; clear n0_ n1_; (try clear hb); (try clear hb2); (try clear hk); (try clear hi)))
  go_ret2
  exact ⟨by first | rfl | (simp [errW_none, errW_some] <;> rfl) | (simp [*, errW_none, errW_some] <;> rfl), by repeat (first | (with_reducible first | exact HB.out | apply below_alloc | apply pw_below_drewN | apply below_drew1 | refine below_set ?_ (IsS90.ge HI514.out)) | exact HB.out)⟩
mutual
def spec_IndexOf.l0 : Nat → ByteArray → ByteArray → Int → Option (Int)
  | 0, _, _, _ => none
  | k + 1, x0, x1, x5 => if x1.toList = ([] : List UInt8) then (spec_IndexOf.j1 k x0 x1 x5 false) else (spec_IndexOf.j1 k x0 x1 x5 (decide ((x1.size : Int) ≤ (wrap64 ((x0.size : Int) - x5)))))
def spec_IndexOf.j1 : Nat → ByteArray → ByteArray → Int → Bool → Option (Int)
  | 0, _, _, _, _ => none
  | k + 1, x0, x1, x5, x16 => if x16 = true then (if 0 ≤ x5 then (if x5 ≤ (wrap64 (x5 + (x1.size : Int))) then (if (wrap64 (x5 + (x1.size : Int))) ≤ (x0.size : Int) then (if (x0.extract (x5 : Int).toNat ((wrap64 (x5 + (x1.size : Int))) : Int).toNat).toList = x1.toList then (some (wrap64 (x5 + 1))) else (spec_IndexOf.l0 k x0 x1 (wrap64 (x5 + 1)))) else (none)) else (none)) else (none)) else (some 0)
end
def spec_IndexOf.f (k : Nat) (a0 : ByteArray) (a1 : ByteArray) : Option (Int) := spec_IndexOf.l0 k a0 a1 0
set_option maxHeartbeats 8000000 in
set_option maxRecDepth 100000 in
theorem spec_IndexOf.calls (k : Nat) (a0 : ByteArray) (a1 : ByteArray) (r : Int) (w : World) (h : spec_IndexOf.f k a0 a1 = some r) :
    Calls Tryd.prog 29 #[.string a0, .string a1] w fun e w' => e = .returned (.int .i64 r) ∧ Drawn0 w w' := by
  have H : (spec_IndexOf.l0 k a0 a1 0) = some r := h
  clear h
  have H' := Aside0.mk H
  clear H
  go_enter Tryd.func29, Tryd.ntmps29
  go_wp2
  go_loopg [5] k (fun kq v5 w' => ∃ (x5_1 : Int), v5 = .int .i64 x5_1 ∧ Aside0 (spec_IndexOf.l0 kq a0 a1 x5_1 = some r) ∧ Aside0 (kq ≤ k) ∧ Drawn0 w w')
  case atStart => exact ⟨(0), (by first | rfl | (simp; done) | (simp [*]; done)), H', ⟨Nat.le_refl _⟩, by repeat (first | exact Drawn0.refl _ | apply Drawn0.step)⟩
  case round =>
    clear H'
    try clear c2
    try clear p2
    obtain ⟨x5_1, rfl, HA, HK1, ⟨m1, rfl⟩⟩ := hrel
    cases gk with
    | zero => exact absurd HA.out (by simp [spec_IndexOf.l0])
    | succ k1 =>
      have H := HA.out
      clear HA
      simp only [spec_IndexOf.l0] at H
      have HC3 := Aside0.mk H
      clear H
      go_upto_region 2 with (fail)
      go_cut [16] (fun v16 wc => ∃ (kq : Nat) (x16_2 : Bool), v16 = .bool x16_2 ∧ Aside0 (spec_IndexOf.j1 kq a0 a1 x5_1 x16_2 = some r) ∧ Aside0 (kq ≤ k1) ∧ Drawn0 w wc)
      case first =>
        have H := HC3.out
        clear HC3
        by_cases c4 : a1.toList = ([] : List UInt8)
        · rw [if_pos c4] at H
          have c4b0 : (a1.toList == ([] : List UInt8)) = true := beq_iff_eq.mpr c4
          have c4b1 : (a1.toList != ([] : List UInt8)) = false := bne_eq_false_iff_eq.mpr c4
          clear c4
          (first | rw [c4b0] | (simp only [i64_w, i32_w]; rw [c4b0]) | skip)
          have H' := Aside0.mk H
          clear H
          go_wp2
          go_meet
          case rel => exact ⟨_, (false), (by first | rfl | (simp; done) | (simp [*]; done)), H', ⟨by have := HK1.out; first | omega | exact Nat.le_refl _⟩, by repeat (first | exact Drawn0.refl _ | apply Drawn0.step)⟩
        · rw [if_neg c4] at H
          have c4b0 : (a1.toList == ([] : List UInt8)) = false := beq_eq_false_iff_ne.mpr c4
          have c4b1 : (a1.toList != ([] : List UInt8)) = true := bne_iff_ne.mpr c4
          (first | rw [c4b0] | (simp only [i64_w, i32_w]; rw [c4b0]) | skip)
          have H' := Aside0.mk H
          clear H
          go_wp2
          go_meet
          case rel => exact ⟨_, (decide ((a1.size : Int) ≤ (wrap64 ((a0.size : Int) - x5_1)))), (by first | rfl | (simp; done) | (simp [*]; done)), H', ⟨by have := HK1.out; first | omega | exact Nat.le_refl _⟩, by repeat (first | exact Drawn0.refl _ | apply Drawn0.step)⟩
      case rest =>
        clear HC3
        try clear c2
        try clear p2
        try clear c4
        try clear c4b0
        try clear c4b1
        try clear p2
        obtain ⟨kq, x16_2, rfl, HA, HJ2, ⟨mc2, rfl⟩⟩ := hcut
        cases kq with
        | zero => exact absurd HA.out (by simp [spec_IndexOf.j1])
        | succ kj2 =>
          have H := HA.out
          clear HA
          simp only [spec_IndexOf.j1] at H
          by_cases c5 : x16_2 = true
          · subst c5
            have H1 : (if 0 ≤ x5_1 then (if x5_1 ≤ (wrap64 (x5_1 + (a1.size : Int))) then (if (wrap64 (x5_1 + (a1.size : Int))) ≤ (a0.size : Int) then (if (a0.extract (x5_1 : Int).toNat ((wrap64 (x5_1 + (a1.size : Int))) : Int).toNat).toList = a1.toList then (some (wrap64 (x5_1 + 1))) else (spec_IndexOf.l0 kj2 a0 a1 (wrap64 (x5_1 + 1)))) else (none)) else (none)) else (none)) = some r := by rw [if_pos rfl] at H; exact H
            clear H
            have H := H1
            clear H1
            by_cases c6 : 0 ≤ x5_1
            · rw [if_pos c6] at H
              have c6b0 := eq_true c6
              have c6b1 : decide (0 ≤ x5_1) = true := decide_eq_true c6
              clear c6
              by_cases c7 : x5_1 ≤ (wrap64 (x5_1 + (a1.size : Int)))
              · rw [if_pos c7] at H
                have c7b0 := eq_true c7
                have c7b1 : decide (x5_1 ≤ (wrap64 (x5_1 + (a1.size : Int)))) = true := decide_eq_true c7
                by_cases c8 : (wrap64 (x5_1 + (a1.size : Int))) ≤ (a0.size : Int)
                · rw [if_pos c8] at H
                  have c8b0 := eq_true c8
                  have c8b1 : decide ((wrap64 (x5_1 + (a1.size : Int))) ≤ (a0.size : Int)) = true := decide_eq_true c8
                  by_cases c9 : (a0.extract (x5_1 : Int).toNat ((wrap64 (x5_1 + (a1.size : Int))) : Int).toNat).toList = a1.toList
                  · rw [if_pos c9] at H
                    have c9b0 : ((a0.extract (x5_1 : Int).toNat ((wrap64 (x5_1 + (a1.size : Int))) : Int).toNat).toList == a1.toList) = true := beq_iff_eq.mpr c9
                    have c9b1 : ((a0.extract (x5_1 : Int).toNat ((wrap64 (x5_1 + (a1.size : Int))) : Int).toNat).toList != a1.toList) = false := bne_eq_false_iff_eq.mpr c9
                    clear c9
                    obtain rfl := Option.some.inj H
                    go_wp2
                    go_ret
                    exact ⟨by first | rfl | (simp; done) | (simp [*]; done), by repeat (first | exact Drawn0.refl _ | apply Drawn0.step)⟩
                  · rw [if_neg c9] at H
                    have c9b0 : ((a0.extract (x5_1 : Int).toNat ((wrap64 (x5_1 + (a1.size : Int))) : Int).toNat).toList == a1.toList) = false := beq_eq_false_iff_ne.mpr c9
                    have c9b1 : ((a0.extract (x5_1 : Int).toNat ((wrap64 (x5_1 + (a1.size : Int))) : Int).toNat).toList != a1.toList) = true := bne_iff_ne.mpr c9
                    have H' := Aside0.mk H
                    clear H
                    go_wp2
                    go_roundg kj2
                    case measure => have := HK1.out; have := HJ2.out; omega
                    case rel => exact ⟨(wrap64 (x5_1 + 1)), (by first | rfl | (simp; done) | (simp [*]; done)), H', ⟨by have := HK1.out; have := HJ2.out; omega⟩, by repeat (first | exact Drawn0.refl _ | apply Drawn0.step)⟩
                · rw [if_neg c8] at H
                  exact absurd H (by simp)
              · rw [if_neg c7] at H
                exact absurd H (by simp)
            · rw [if_neg c6] at H
              exact absurd H (by simp)
          · replace c5 := Bool.eq_false_iff.mpr c5
            subst c5
            have H1 : (some 0) = some r := by rw [if_neg (show ¬ (false = true) by decide)] at H; exact H
            clear H
            have H := H1
            clear H1
            obtain rfl := Option.some.inj H
            go_wp2
            go_ret
            exact ⟨by first | rfl | (simp; done) | (simp [*]; done), by repeat (first | exact Drawn0.refl _ | apply Drawn0.step)⟩
mutual
def impl_SubText.j0 : Nat → ByteArray → Int → Int → Int → Int → Bool → Option (ByteArray)
  | 0, _, _, _, _, _, _ => none
  | k + 1, x0, x1, x2, x7, x8, x17 => if x17 = true then (some (⟨#[]⟩ : ByteArray)) else (if x1 < 0 then (impl_SubText.j1 k x0 x1 x2 x7 x8 true) else (impl_SubText.j1 k x0 x1 x2 x7 x8 (decide (x2 ≤ (wrap64 (x7 - x1))))))
def impl_SubText.j1 : Nat → ByteArray → Int → Int → Int → Int → Bool → Option (ByteArray)
  | 0, _, _, _, _, _, _ => none
  | k + 1, x0, x1, x2, x7, x8, x25 => if x25 = true then (if (mx x1 1) ≥ (mn (wrap64 (x7 + 1)) (wrap64 (x1 + x2))) then (some (⟨#[]⟩ : ByteArray)) else (if 0 ≤ (wrap64 ((mx x1 1) - 1)) then (if (wrap64 ((mx x1 1) - 1)) ≤ (wrap64 ((mn (wrap64 (x7 + 1)) (wrap64 (x1 + x2))) - 1)) then (if (wrap64 ((mn (wrap64 (x7 + 1)) (wrap64 (x1 + x2))) - 1)) ≤ (x0.size : Int) then (some (x0.extract ((wrap64 ((mx x1 1) - 1)) : Int).toNat ((wrap64 ((mn (wrap64 (x7 + 1)) (wrap64 (x1 + x2))) - 1)) : Int).toNat)) else (none)) else (none)) else (none))) else (if (mx x1 1) ≥ x8 then (some (⟨#[]⟩ : ByteArray)) else (if 0 ≤ (wrap64 ((mx x1 1) - 1)) then (if (wrap64 ((mx x1 1) - 1)) ≤ (wrap64 (x8 - 1)) then (if (wrap64 (x8 - 1)) ≤ (x0.size : Int) then (some (x0.extract ((wrap64 ((mx x1 1) - 1)) : Int).toNat ((wrap64 (x8 - 1)) : Int).toNat)) else (none)) else (none)) else (none)))
end
def impl_SubText.f (k : Nat) (a0 : ByteArray) (a1 : Int) (a2 : Int) : Option (ByteArray) := if a2 = 9000000000000 then (if (mx a1 1) ≥ (wrap64 ((a0.size : Int) + 1)) then (some (⟨#[]⟩ : ByteArray)) else (if 0 ≤ (wrap64 ((mx a1 1) - 1)) then (if (wrap64 ((mx a1 1) - 1)) ≤ (wrap64 ((wrap64 ((a0.size : Int) + 1)) - 1)) then (if (wrap64 ((wrap64 ((a0.size : Int) + 1)) - 1)) ≤ (a0.size : Int) then (some (a0.extract ((wrap64 ((mx a1 1) - 1)) : Int).toNat ((wrap64 ((wrap64 ((a0.size : Int) + 1)) - 1)) : Int).toNat)) else (none)) else (none)) else (none))) else (if a2 ≤ 0 then (impl_SubText.j0 k a0 a1 a2 (a0.size : Int) (wrap64 ((a0.size : Int) + 1)) true) else (impl_SubText.j0 k a0 a1 a2 (a0.size : Int) (wrap64 ((a0.size : Int) + 1)) (decide (a1 > (a0.size : Int)))))
set_option maxHeartbeats 8000000 in
set_option maxRecDepth 100000 in
theorem impl_SubText.calls (k : Nat) (a0 : ByteArray) (a1 : Int) (a2 : Int) (r : ByteArray) (w : World) (h : impl_SubText.f k a0 a1 a2 = some r) :
    Calls Tryd.prog 30 #[.string a0, .int .i64 a1, .int .i64 a2] w fun e w' => e = .returned (.string r) ∧ Below w.heap.size w w' := by
  have HB := Aside0.mk (Below.refl w.heap.size w)
  have H : (if a2 = 9000000000000 then (if (mx a1 1) ≥ (wrap64 ((a0.size : Int) + 1)) then (some (⟨#[]⟩ : ByteArray)) else (if 0 ≤ (wrap64 ((mx a1 1) - 1)) then (if (wrap64 ((mx a1 1) - 1)) ≤ (wrap64 ((wrap64 ((a0.size : Int) + 1)) - 1)) then (if (wrap64 ((wrap64 ((a0.size : Int) + 1)) - 1)) ≤ (a0.size : Int) then (some (a0.extract ((wrap64 ((mx a1 1) - 1)) : Int).toNat ((wrap64 ((wrap64 ((a0.size : Int) + 1)) - 1)) : Int).toNat)) else (none)) else (none)) else (none))) else (if a2 ≤ 0 then (impl_SubText.j0 k a0 a1 a2 (a0.size : Int) (wrap64 ((a0.size : Int) + 1)) true) else (impl_SubText.j0 k a0 a1 a2 (a0.size : Int) (wrap64 ((a0.size : Int) + 1)) (decide (a1 > (a0.size : Int)))))) = some r := h
  clear h
  by_cases c4 : a2 = 9000000000000
  · rw [if_pos c4] at H
    have c4b0 : (a2 == 9000000000000) = true := beq_iff_eq.mpr c4
    have c4b1 : (a2 != 9000000000000) = false := bne_eq_false_iff_eq.mpr c4
    clear c4
    obtain ⟨ji5, hji5⟩ : ∃ j_ : Int, (mx a1 1) = j_ := ⟨_, rfl⟩
    replace H : (if (ji5) ≥ (wrap64 ((a0.size : Int) + 1)) then (some (⟨#[]⟩ : ByteArray)) else (if 0 ≤ (wrap64 ((ji5) - 1)) then (if (wrap64 ((ji5) - 1)) ≤ (wrap64 ((wrap64 ((a0.size : Int) + 1)) - 1)) then (if (wrap64 ((wrap64 ((a0.size : Int) + 1)) - 1)) ≤ (a0.size : Int) then (some (a0.extract ((wrap64 ((ji5) - 1)) : Int).toNat ((wrap64 ((wrap64 ((a0.size : Int) + 1)) - 1)) : Int).toNat)) else (none)) else (none)) else (none))) = some r := by first | (rw [hji5] at H; exact H) | (simp only [hji5] at H ⊢; exact H)
    (try (have hji5l : 1 ≤ ji5 := by (rw [← hji5]; unfold mx; (repeat' split) <;> omega)))
    (try (have hji5m : 0 ≤ ji5 := by omega))
    have hji5_ : (if a1 < 1 then 1 else a1) = ji5 := hji5
    by_cases c6 : (ji5) ≥ (wrap64 ((a0.size : Int) + 1))
    · rw [if_pos c6] at H
      have c6b0 : decide ((wrap64 ((a0.size : Int) + 1)) ≤ (ji5)) = true := decide_eq_true c6
      clear c6
      obtain rfl := Option.some.inj H
      go_enter Tryd.func30, Tryd.ntmps30
      go_wp2
      go_ret
      exact ⟨by first | rfl | (simp [errW_none, errW_some] <;> rfl) | (simp only [← hji5]; first | rfl | (simp [errW_none, errW_some] <;> rfl)) | (simp [*, errW_none, errW_some] <;> rfl), by repeat (first | (with_reducible first | exact HB.out | apply below_alloc | apply pw_below_drewN | apply below_drew1) | exact HB.out)⟩
    · rw [if_neg c6] at H
      have c6b0 : decide ((wrap64 ((a0.size : Int) + 1)) ≤ (ji5)) = false := decide_eq_false c6
      clear c6
      obtain ⟨ji7, hji7⟩ : ∃ j_ : Int, (wrap64 ((ji5) - 1)) = j_ := ⟨_, rfl⟩
      replace H : (if 0 ≤ (ji7) then (if (ji7) ≤ (wrap64 ((wrap64 ((a0.size : Int) + 1)) - 1)) then (if (wrap64 ((wrap64 ((a0.size : Int) + 1)) - 1)) ≤ (a0.size : Int) then (some (a0.extract ((ji7) : Int).toNat ((wrap64 ((wrap64 ((a0.size : Int) + 1)) - 1)) : Int).toNat)) else (none)) else (none)) else (none)) = some r := by first | (rw [hji7] at H; exact H) | (simp only [hji7] at H ⊢; exact H)
      have hji7w : (IntKind.i64.wrap ((ji5) - 1)) = ji7 := (i64_w _).trans hji7
      by_cases c8 : 0 ≤ (ji7)
      · rw [if_pos c8] at H
        have c8b0 := eq_true c8
        have c8b1 : decide (0 ≤ (ji7)) = true := decide_eq_true c8
        clear c8
        by_cases c9 : (ji7) ≤ (wrap64 ((wrap64 ((a0.size : Int) + 1)) - 1))
        · rw [if_pos c9] at H
          have c9b0 := eq_true c9
          have c9b1 : decide ((ji7) ≤ (wrap64 ((wrap64 ((a0.size : Int) + 1)) - 1))) = true := decide_eq_true c9
          by_cases c10 : (wrap64 ((wrap64 ((a0.size : Int) + 1)) - 1)) ≤ (a0.size : Int)
          · rw [if_pos c10] at H
            have c10b0 := eq_true c10
            have c10b1 : decide ((wrap64 ((wrap64 ((a0.size : Int) + 1)) - 1)) ≤ (a0.size : Int)) = true := decide_eq_true c10
            obtain rfl := Option.some.inj H
            go_enter Tryd.func30, Tryd.ntmps30
            go_wp2
            go_ret
            exact ⟨by first | rfl | (simp [errW_none, errW_some] <;> rfl) | (simp only [← hji5, ← hji7]; first | rfl | (simp [errW_none, errW_some] <;> rfl)) | (simp [*, errW_none, errW_some] <;> rfl), by repeat (first | (with_reducible first | exact HB.out | apply below_alloc | apply pw_below_drewN | apply below_drew1) | exact HB.out)⟩
          · rw [if_neg c10] at H
            exact absurd H (by simp)
        · rw [if_neg c9] at H
          exact absurd H (by simp)
      · rw [if_neg c8] at H
        exact absurd H (by simp)
  · rw [if_neg c4] at H
    have c4b0 : (a2 == 9000000000000) = false := beq_eq_false_iff_ne.mpr c4
    have c4b1 : (a2 != 9000000000000) = true := bne_iff_ne.mpr c4
    have HC11 := Aside0.mk H
    clear H
    go_enter Tryd.func30, Tryd.ntmps30
    go_upto_region 4 with (fail)
    go_cut [17] (fun v17 wc => ∃ (kq : Nat) (x17_10 : Bool), v17 = .bool x17_10 ∧ Aside0 (impl_SubText.j0 kq a0 a1 a2 (a0.size : Int) (wrap64 ((a0.size : Int) + 1)) x17_10 = some r) ∧ Aside0 (kq ≤ k) ∧ Aside0 (Below w.heap.size w wc))
    case first =>
      have H := HC11.out
      clear HC11
      by_cases c12 : a2 ≤ 0
      · rw [if_pos c12] at H
        have c12b0 : decide (a2 ≤ 0) = true := decide_eq_true c12
        clear c12
        (first | rw [c12b0] | (simp only [i64_w, i32_w]; rw [c12b0]) | skip)
        have H' := Aside0.mk H
        clear H
        go_wp2
        go_meet
        case rel => exact ⟨_, (true), (by first | rfl | (simp; done) | (simp [*]; done)), H', ⟨by first | omega | exact Nat.le_refl _⟩, ⟨by repeat (first | (with_reducible first | exact HB.out | apply below_alloc | apply pw_below_drewN | apply below_drew1) | exact HB.out)⟩⟩
      · rw [if_neg c12] at H
        have c12b0 : decide (a2 ≤ 0) = false := decide_eq_false c12
        clear c12
        (first | rw [c12b0] | (simp only [i64_w, i32_w]; rw [c12b0]) | skip)
        have H' := Aside0.mk H
        clear H
        go_wp2
        go_meet
        case rel => exact ⟨_, (decide (a1 > (a0.size : Int))), (by first | rfl | (simp; done) | (simp [*]; done)), H', ⟨by first | omega | exact Nat.le_refl _⟩, ⟨by repeat (first | (with_reducible first | exact HB.out | apply below_alloc | apply pw_below_drewN | apply below_drew1) | exact HB.out)⟩⟩
    case rest =>
      clear HC11
      try clear c1
      try clear p2
      try clear c3
      try clear c4
      try clear c4b0
      try clear c4b1
      try clear c6
      try clear c6b0
      try clear p6
      try clear c8
      try clear c8b0
      try clear c8b1
      try clear c9
      try clear c9b0
      try clear c9b1
      try clear c10
      try clear c10b0
      try clear c10b1
      try clear c12
      try clear c12b0
      obtain ⟨kq, x17_10, rfl, HA, HJ10, HB⟩ := hcut
      cases kq with
      | zero => exact absurd HA.out (by simp [impl_SubText.j0])
      | succ kj10 =>
        have H := HA.out
        clear HA
        simp only [impl_SubText.j0] at H
        by_cases c13 : x17_10 = true
        · subst c13
          have H1 : (some (⟨#[]⟩ : ByteArray)) = some r := by rw [if_pos rfl] at H; exact H
          clear H
          have H := H1
          clear H1
          obtain rfl := Option.some.inj H
          go_wp2
          go_ret
          exact ⟨by first | rfl | (simp [errW_none, errW_some] <;> rfl) | (simp [*, errW_none, errW_some] <;> rfl), by repeat (first | (with_reducible first | exact HB.out | apply below_alloc | apply pw_below_drewN | apply below_drew1) | exact HB.out)⟩
        · replace c13 := Bool.eq_false_iff.mpr c13
          subst c13
          have H1 : (if a1 < 0 then (impl_SubText.j1 kj10 a0 a1 a2 (a0.size : Int) (wrap64 ((a0.size : Int) + 1)) true) else (impl_SubText.j1 kj10 a0 a1 a2 (a0.size : Int) (wrap64 ((a0.size : Int) + 1)) (decide (a2 ≤ (wrap64 ((a0.size : Int) - a1)))))) = some r := by rw [if_neg (show ¬ (false = true) by decide)] at H; exact H
          clear H
          have H := H1
          clear H1
          have HC14 := Aside0.mk H
          clear H
          go_upto_region 6 with (fail)
          go_cut [25] (fun v25 wc => ∃ (kq : Nat) (x25_13 : Bool), v25 = .bool x25_13 ∧ Aside0 (impl_SubText.j1 kq a0 a1 a2 (a0.size : Int) (wrap64 ((a0.size : Int) + 1)) x25_13 = some r) ∧ Aside0 (kq ≤ kj10) ∧ Aside0 (Below w.heap.size w wc))
          case first =>
            have H := HC14.out
            clear HC14
            by_cases c15 : a1 < 0
            · rw [if_pos c15] at H
              have c15b0 : decide (a1 < 0) = true := decide_eq_true c15
              clear c15
              (first | rw [c15b0] | (simp only [i64_w, i32_w]; rw [c15b0]) | skip)
              have H' := Aside0.mk H
              clear H
              go_wp2
              go_meet
              case rel => exact ⟨_, (true), (by first | rfl | (simp; done) | (simp [*]; done)), H', ⟨by have := HJ10.out; first | omega | exact Nat.le_refl _⟩, ⟨by repeat (first | (with_reducible first | exact HB.out | apply below_alloc | apply pw_below_drewN | apply below_drew1) | exact HB.out)⟩⟩
            · rw [if_neg c15] at H
              have c15b0 : decide (a1 < 0) = false := decide_eq_false c15
              clear c15
              (first | rw [c15b0] | (simp only [i64_w, i32_w]; rw [c15b0]) | skip)
              have H' := Aside0.mk H
              clear H
              go_wp2
              go_meet
              case rel => exact ⟨_, (decide (a2 ≤ (wrap64 ((a0.size : Int) - a1)))), (by first | rfl | (simp; done) | (simp [*]; done)), H', ⟨by have := HJ10.out; first | omega | exact Nat.le_refl _⟩, ⟨by repeat (first | (with_reducible first | exact HB.out | apply below_alloc | apply pw_below_drewN | apply below_drew1) | exact HB.out)⟩⟩
          case rest =>
            clear HC14
            try clear c1
            try clear p2
            try clear c3
            try clear c4
            try clear c4b0
            try clear c4b1
            try clear c6
            try clear c6b0
            try clear p6
            try clear c8
            try clear c8b0
            try clear c8b1
            try clear c9
            try clear c9b0
            try clear c9b1
            try clear c10
            try clear c10b0
            try clear c10b1
            try clear c12
            try clear c12b0
            try clear c13
            try clear c15
            try clear c15b0
            try clear p2
            try clear p6
            obtain ⟨kq, x25_13, rfl, HA, HJ13, HB⟩ := hcut
            cases kq with
            | zero => exact absurd HA.out (by simp [impl_SubText.j1])
            | succ kj13 =>
              have H := HA.out
              clear HA
              simp only [impl_SubText.j1] at H
              by_cases c16 : x25_13 = true
              · subst c16
                have H1 : (if (mx a1 1) ≥ (mn (wrap64 ((a0.size : Int) + 1)) (wrap64 (a1 + a2))) then (some (⟨#[]⟩ : ByteArray)) else (if 0 ≤ (wrap64 ((mx a1 1) - 1)) then (if (wrap64 ((mx a1 1) - 1)) ≤ (wrap64 ((mn (wrap64 ((a0.size : Int) + 1)) (wrap64 (a1 + a2))) - 1)) then (if (wrap64 ((mn (wrap64 ((a0.size : Int) + 1)) (wrap64 (a1 + a2))) - 1)) ≤ (a0.size : Int) then (some (a0.extract ((wrap64 ((mx a1 1) - 1)) : Int).toNat ((wrap64 ((mn (wrap64 ((a0.size : Int) + 1)) (wrap64 (a1 + a2))) - 1)) : Int).toNat)) else (none)) else (none)) else (none))) = some r := by rw [if_pos rfl] at H; exact H
                clear H
                have H := H1
                clear H1
                obtain ⟨ji17, hji17⟩ : ∃ j_ : Int, (mn (wrap64 ((a0.size : Int) + 1)) (wrap64 (a1 + a2))) = j_ := ⟨_, rfl⟩
                replace H : (if (mx a1 1) ≥ (ji17) then (some (⟨#[]⟩ : ByteArray)) else (if 0 ≤ (wrap64 ((mx a1 1) - 1)) then (if (wrap64 ((mx a1 1) - 1)) ≤ (wrap64 ((ji17) - 1)) then (if (wrap64 ((ji17) - 1)) ≤ (a0.size : Int) then (some (a0.extract ((wrap64 ((mx a1 1) - 1)) : Int).toNat ((wrap64 ((ji17) - 1)) : Int).toNat)) else (none)) else (none)) else (none))) = some r := by first | (rw [hji17] at H; exact H) | (simp only [hji17] at H ⊢; exact H)
                have hji17_ : (if (wrap64 (a1 + a2)) < (wrap64 ((a0.size : Int) + 1)) then (wrap64 (a1 + a2)) else (wrap64 ((a0.size : Int) + 1))) = ji17 := hji17
                obtain ⟨ji18, hji18⟩ : ∃ j_ : Int, (mx a1 1) = j_ := ⟨_, rfl⟩
                replace H : (if (ji18) ≥ (ji17) then (some (⟨#[]⟩ : ByteArray)) else (if 0 ≤ (wrap64 ((ji18) - 1)) then (if (wrap64 ((ji18) - 1)) ≤ (wrap64 ((ji17) - 1)) then (if (wrap64 ((ji17) - 1)) ≤ (a0.size : Int) then (some (a0.extract ((wrap64 ((ji18) - 1)) : Int).toNat ((wrap64 ((ji17) - 1)) : Int).toNat)) else (none)) else (none)) else (none))) = some r := by first | (rw [hji18] at H; exact H) | (simp only [hji18] at H ⊢; exact H)
                (try (have hji18l : 1 ≤ ji18 := by (rw [← hji18]; unfold mx; (repeat' split) <;> omega)))
                (try (have hji18m : 0 ≤ ji18 := by omega))
                have hji18_ : (if a1 < 1 then 1 else a1) = ji18 := hji18
                by_cases c19 : (ji18) ≥ (ji17)
                · rw [if_pos c19] at H
                  have c19b0 : decide ((ji17) ≤ (ji18)) = true := decide_eq_true c19
                  clear c19
                  obtain rfl := Option.some.inj H
                  go_wp2
                  go_ret
                  exact ⟨by first | rfl | (simp [errW_none, errW_some] <;> rfl) | (simp only [← hji17, ← hji18]; first | rfl | (simp [errW_none, errW_some] <;> rfl)) | (simp [*, errW_none, errW_some] <;> rfl), by repeat (first | (with_reducible first | exact HB.out | apply below_alloc | apply pw_below_drewN | apply below_drew1) | exact HB.out)⟩
                · rw [if_neg c19] at H
                  have c19b0 : decide ((ji17) ≤ (ji18)) = false := decide_eq_false c19
                  clear c19
                  obtain ⟨ji20, hji20⟩ : ∃ j_ : Int, (wrap64 ((ji18) - 1)) = j_ := ⟨_, rfl⟩
                  replace H : (if 0 ≤ (ji20) then (if (ji20) ≤ (wrap64 ((ji17) - 1)) then (if (wrap64 ((ji17) - 1)) ≤ (a0.size : Int) then (some (a0.extract ((ji20) : Int).toNat ((wrap64 ((ji17) - 1)) : Int).toNat)) else (none)) else (none)) else (none)) = some r := by first | (rw [hji20] at H; exact H) | (simp only [hji20] at H ⊢; exact H)
                  have hji20w : (IntKind.i64.wrap ((ji18) - 1)) = ji20 := (i64_w _).trans hji20
                  by_cases c21 : 0 ≤ (ji20)
                  · rw [if_pos c21] at H
                    have c21b0 := eq_true c21
                    have c21b1 : decide (0 ≤ (ji20)) = true := decide_eq_true c21
                    clear c21
                    by_cases c22 : (ji20) ≤ (wrap64 ((ji17) - 1))
                    · rw [if_pos c22] at H
                      have c22b0 := eq_true c22
                      have c22b1 : decide ((ji20) ≤ (wrap64 ((ji17) - 1))) = true := decide_eq_true c22
                      clear c22
                      by_cases c23 : (wrap64 ((ji17) - 1)) ≤ (a0.size : Int)
                      · rw [if_pos c23] at H
                        have c23b0 := eq_true c23
                        have c23b1 : decide ((wrap64 ((ji17) - 1)) ≤ (a0.size : Int)) = true := decide_eq_true c23
                        clear c23
                        obtain rfl := Option.some.inj H
                        go_wp2
                        go_ret
                        exact ⟨by first | rfl | (simp [errW_none, errW_some] <;> rfl) | (simp only [← hji17, ← hji18, ← hji20]; first | rfl | (simp [errW_none, errW_some] <;> rfl)) | (simp [*, errW_none, errW_some] <;> rfl), by repeat (first | (with_reducible first | exact HB.out | apply below_alloc | apply pw_below_drewN | apply below_drew1) | exact HB.out)⟩
                      · rw [if_neg c23] at H
                        exact absurd H (by simp)
                    · rw [if_neg c22] at H
                      exact absurd H (by simp)
                  · rw [if_neg c21] at H
                    exact absurd H (by simp)
              · replace c16 := Bool.eq_false_iff.mpr c16
                subst c16
                have H1 : (if (mx a1 1) ≥ (wrap64 ((a0.size : Int) + 1)) then (some (⟨#[]⟩ : ByteArray)) else (if 0 ≤ (wrap64 ((mx a1 1) - 1)) then (if (wrap64 ((mx a1 1) - 1)) ≤ (wrap64 ((wrap64 ((a0.size : Int) + 1)) - 1)) then (if (wrap64 ((wrap64 ((a0.size : Int) + 1)) - 1)) ≤ (a0.size : Int) then (some (a0.extract ((wrap64 ((mx a1 1) - 1)) : Int).toNat ((wrap64 ((wrap64 ((a0.size : Int) + 1)) - 1)) : Int).toNat)) else (none)) else (none)) else (none))) = some r := by rw [if_neg (show ¬ (false = true) by decide)] at H; exact H
                clear H
                have H := H1
                clear H1
                obtain ⟨ji24, hji24⟩ : ∃ j_ : Int, (mx a1 1) = j_ := ⟨_, rfl⟩
                replace H : (if (ji24) ≥ (wrap64 ((a0.size : Int) + 1)) then (some (⟨#[]⟩ : ByteArray)) else (if 0 ≤ (wrap64 ((ji24) - 1)) then (if (wrap64 ((ji24) - 1)) ≤ (wrap64 ((wrap64 ((a0.size : Int) + 1)) - 1)) then (if (wrap64 ((wrap64 ((a0.size : Int) + 1)) - 1)) ≤ (a0.size : Int) then (some (a0.extract ((wrap64 ((ji24) - 1)) : Int).toNat ((wrap64 ((wrap64 ((a0.size : Int) + 1)) - 1)) : Int).toNat)) else (none)) else (none)) else (none))) = some r := by first | (rw [hji24] at H; exact H) | (simp only [hji24] at H ⊢; exact H)
                (try (have hji24l : 1 ≤ ji24 := by (rw [← hji24]; unfold mx; (repeat' split) <;> omega)))
                (try (have hji24m : 0 ≤ ji24 := by omega))
                have hji24_ : (if a1 < 1 then 1 else a1) = ji24 := hji24
                by_cases c25 : (ji24) ≥ (wrap64 ((a0.size : Int) + 1))
                · rw [if_pos c25] at H
                  have c25b0 : decide ((wrap64 ((a0.size : Int) + 1)) ≤ (ji24)) = true := decide_eq_true c25
                  clear c25
                  obtain rfl := Option.some.inj H
                  go_wp2
                  go_ret
                  exact ⟨by first | rfl | (simp [errW_none, errW_some] <;> rfl) | (simp only [← hji24]; first | rfl | (simp [errW_none, errW_some] <;> rfl)) | (simp [*, errW_none, errW_some] <;> rfl), by repeat (first | (with_reducible first | exact HB.out | apply below_alloc | apply pw_below_drewN | apply below_drew1) | exact HB.out)⟩
                · rw [if_neg c25] at H
                  have c25b0 : decide ((wrap64 ((a0.size : Int) + 1)) ≤ (ji24)) = false := decide_eq_false c25
                  clear c25
                  obtain ⟨ji26, hji26⟩ : ∃ j_ : Int, (wrap64 ((ji24) - 1)) = j_ := ⟨_, rfl⟩
                  replace H : (if 0 ≤ (ji26) then (if (ji26) ≤ (wrap64 ((wrap64 ((a0.size : Int) + 1)) - 1)) then (if (wrap64 ((wrap64 ((a0.size : Int) + 1)) - 1)) ≤ (a0.size : Int) then (some (a0.extract ((ji26) : Int).toNat ((wrap64 ((wrap64 ((a0.size : Int) + 1)) - 1)) : Int).toNat)) else (none)) else (none)) else (none)) = some r := by first | (rw [hji26] at H; exact H) | (simp only [hji26] at H ⊢; exact H)
                  have hji26w : (IntKind.i64.wrap ((ji24) - 1)) = ji26 := (i64_w _).trans hji26
                  by_cases c27 : 0 ≤ (ji26)
                  · rw [if_pos c27] at H
                    have c27b0 := eq_true c27
                    have c27b1 : decide (0 ≤ (ji26)) = true := decide_eq_true c27
                    clear c27
                    by_cases c28 : (ji26) ≤ (wrap64 ((wrap64 ((a0.size : Int) + 1)) - 1))
                    · rw [if_pos c28] at H
                      have c28b0 := eq_true c28
                      have c28b1 : decide ((ji26) ≤ (wrap64 ((wrap64 ((a0.size : Int) + 1)) - 1))) = true := decide_eq_true c28
                      by_cases c29 : (wrap64 ((wrap64 ((a0.size : Int) + 1)) - 1)) ≤ (a0.size : Int)
                      · rw [if_pos c29] at H
                        have c29b0 := eq_true c29
                        have c29b1 : decide ((wrap64 ((wrap64 ((a0.size : Int) + 1)) - 1)) ≤ (a0.size : Int)) = true := decide_eq_true c29
                        obtain rfl := Option.some.inj H
                        go_wp2
                        go_ret
                        exact ⟨by first | rfl | (simp [errW_none, errW_some] <;> rfl) | (simp only [← hji24, ← hji26]; first | rfl | (simp [errW_none, errW_some] <;> rfl)) | (simp [*, errW_none, errW_some] <;> rfl), by repeat (first | (with_reducible first | exact HB.out | apply below_alloc | apply pw_below_drewN | apply below_drew1) | exact HB.out)⟩
                      · rw [if_neg c29] at H
                        exact absurd H (by simp)
                    · rw [if_neg c28] at H
                      exact absurd H (by simp)
                  · rw [if_neg c27] at H
                    exact absurd H (by simp)
def spec_DrawUpper.f (k : Nat) (l0 : List Int) : Option (ByteArray) := (spec_l1New.f k l0).bind fun bt527 => ((spec_l1Below.f bt527.1 bt527.2.1 bt527.2.2 12).bind fun bt531 => ((spec_l1of.f k bt527.1 bt531.2.1 bt531.2.2 bt531.1 (⟨#[97, 98, 121, 122, 65, 90, 64, 91, 123, 128, 32]⟩ : ByteArray)).bind fun bt534 => (some bt534.1)))
set_option maxHeartbeats 8000000 in
set_option maxRecDepth 100000 in
theorem spec_DrawUpper.calls (k : Nat) (A0 : Option Addr) (c0 : Nat) (l0 : List Int) (r : ByteArray) (w : World) (hr0 : Kd.C (Kd.int .u8) w A0 l0.length l0) (hc0 : l0.length ≤ c0) (h : spec_DrawUpper.f k l0 = some r) :
    Calls Tryd.prog 31 #[.slice A0 l0.length c0] w fun e w' => e = .returned (.string r) ∧ Below w.heap.size w w' := by
  have HR0 := Aside0.mk hr0
  have HC0 := Aside0.mk hc0
  clear hr0 hc0
  have HB := Aside0.mk (Below.refl w.heap.size w)
  have H : ((spec_l1New.f k l0).bind fun bt527 => ((spec_l1Below.f bt527.1 bt527.2.1 bt527.2.2 12).bind fun bt531 => ((spec_l1of.f k bt527.1 bt531.2.1 bt531.2.2 bt531.1 (⟨#[97, 98, 121, 122, 65, 90, 64, 91, 123, 128, 32]⟩ : ByteArray)).bind fun bt534 => (some bt534.1)))) = some r := h
  clear h
  replace H := Option.bind_eq_some_iff.mp H
  obtain ⟨⟨t527, t528, t529⟩, A20, H⟩ := H
  replace H : ((spec_l1Below.f t527 t528 t529 12).bind fun bt531 => ((spec_l1of.f k t527 bt531.2.1 bt531.2.2 bt531.1 (⟨#[97, 98, 121, 122, 65, 90, 64, 91, 123, 128, 32]⟩ : ByteArray)).bind fun bt534 => (some bt534.1))) = some r := H
  have A2 := Aside0.mk A20
  clear A20
  replace H := Option.bind_eq_some_iff.mp H
  obtain ⟨⟨t531, t532, t533⟩, A30, H⟩ := H
  replace H : ((spec_l1of.f k t527 t532 t533 t531 (⟨#[97, 98, 121, 122, 65, 90, 64, 91, 123, 128, 32]⟩ : ByteArray)).bind fun bt534 => (some bt534.1)) = some r := H
  have A3 := Aside0.mk A30
  clear A30
  replace H := Option.bind_eq_some_iff.mp H
  obtain ⟨⟨t534, t535, t536⟩, A40, H⟩ := H
  replace H : (some t534) = some r := H
  have A4 := Aside0.mk A40
  clear A40
  obtain rfl := Option.some.inj H
  go_enter Tryd.func31, Tryd.ntmps31
  go_wp2_with (first | ((with_reducible refine gate_callee (f := 45) rfl ?_); refine goesL_ (some 5) rfl rfl Tryd.func45 (by kernel_rfl) rfl #[.slice A0 l0.length c0] rfl (by (try simp only [List.map_toArray, List.map_cons, List.map_nil]); first | done | rfl | (simp only [List.length_drop, List.length_take]; rfl)) ?_; (with_reducible refine (spec_l1New.calls k _ _ l0 t527 t528 t529 w _ ?side1 ?side2 ?side3 A2.out).mono ?_); (case side1 => repeat (first | (with_reducible first | exact HB.out | apply below_alloc | apply pw_below_drewN | apply below_drew1) | exact HB.out)); (case side2 => exact HR0.out); (case side3 => exact HC0.out); rintro e w5 ⟨g530, rfl, hi, hb, hb2⟩; refine ⟨_, rfl, ?_⟩; have n0_ := Aside0.mk (hb); have n1_ := Aside0.mk (hi); clear HB; have HB := n0_; have HI530 := n1_; clear n0_ n1_; (try clear hb); (try clear hb2); (try clear hk); (try clear hi)) | ((with_reducible refine gate_callee (f := 48) rfl ?_); refine goesL_ (some 8) rfl rfl Tryd.func48 (by kernel_rfl) rfl #[.pointer (some ⟨g530, 0, none⟩), .int .i64 12] rfl (by (try simp only [List.map_toArray, List.map_cons, List.map_nil]); first | done | rfl | (simp only [List.length_drop, List.length_take]; rfl)) ?_; (with_reducible refine (spec_l1Below.calls g530 t527 t528 t529 12 t531 t532 t533 w _ ?side1 ?side2 A3.out).mono ?_); (case side1 => repeat (first | (with_reducible first | exact HI530.out | apply IsS90.alloc | apply IsS90.drewN | apply IsS90.drew | apply IsS90.set_1 | apply IsS90.set_2) | exact HI530.out)); (case side2 => repeat (first | (with_reducible first | exact HB.out | apply below_alloc | apply pw_below_drewN | apply below_drew1 | refine below_set ?_ (IsS90.ge HI530.out)) | exact HB.out)); rintro e w6 ⟨rfl, hi, hb, hk⟩; refine ⟨_, rfl, ?_⟩; have n0_ := Aside0.mk (hb); have n1_ := Aside0.mk (hi); clear HB; clear HI530; have HB := n0_; have HI530 := n1_; clear n0_ n1_; (try clear hb); (try clear hb2); (try clear hk); (try clear hi)) | ((with_reducible refine gate_callee (f := 47) rfl ?_); refine goesL_ (some 9) rfl rfl Tryd.func47 (by kernel_rfl) rfl #[.pointer (some ⟨g530, 0, none⟩), .int .i64 t531, .string (⟨#[97, 98, 121, 122, 65, 90, 64, 91, 123, 128, 32]⟩ : ByteArray)] rfl (by (try simp only [List.map_toArray, List.map_cons, List.map_nil]); first | done | rfl | (simp only [List.length_drop, List.length_take]; rfl)) ?_; (with_reducible refine (spec_l1of.calls k g530 t527 t532 t533 t531 (⟨#[97, 98, 121, 122, 65, 90, 64, 91, 123, 128, 32]⟩ : ByteArray) t534 t535 t536 w _ ?side1 ?side2 A4.out).mono ?_); (case side1 => repeat (first | (with_reducible first | exact HI530.out | apply IsS90.alloc | apply IsS90.drewN | apply IsS90.drew | apply IsS90.set_1 | apply IsS90.set_2) | exact HI530.out)); (case side2 => repeat (first | (with_reducible first | exact HB.out | apply below_alloc | apply pw_below_drewN | apply below_drew1 | refine below_set ?_ (IsS90.ge HI530.out)) | exact HB.out)); rintro e w7 ⟨rfl, hi, hb, hk⟩; refine ⟨_, rfl, ?_⟩; have n0_ := Aside0.mk (hb); have n1_ := Aside0.mk (hi); clear HB; clear HI530; have HB := n0_; have HI530 := n1_; clear n0_ n1_; (try clear hb); (try clear hb2); (try clear hk); (try clear hi)))
  go_ret
  exact ⟨by first | rfl | (simp [errW_none, errW_some] <;> rfl) | (simp [*, errW_none, errW_some] <;> rfl), by repeat (first | (with_reducible first | exact HB.out | apply below_alloc | apply pw_below_drewN | apply below_drew1 | refine below_set ?_ (IsS90.ge HI530.out)) | exact HB.out)⟩
def spec_DrawSubText.f (k : Nat) (l0 : List Int) : Option (ByteArray × Int × Int) := (spec_l1New.f k l0).bind fun bt537 => ((spec_l1Below.f bt537.1 bt537.2.1 bt537.2.2 9).bind fun bt541 => ((spec_l1of.f k bt537.1 bt541.2.1 bt541.2.2 bt541.1 (⟨#[97, 98, 99]⟩ : ByteArray)).bind fun bt544 => ((spec_l1Below.f bt537.1 bt544.2.1 bt544.2.2 14).bind fun bt547 => ((spec_l1PickInt.f bt537.1 bt547.2.1 bt547.2.2 (([0, 1, 2, 3, 20, (-1), 9000000000000] : List Int))).bind fun bt553 => (some (bt544.1, wrap64 (bt547.1 - 3), bt553.1))))))
set_option maxHeartbeats 8000000 in
set_option maxRecDepth 100000 in
theorem spec_DrawSubText.calls (k : Nat) (A0 : Option Addr) (c0 : Nat) (l0 : List Int) (r1 : ByteArray) (r2 : Int) (r3 : Int) (w : World) (hr0 : Kd.C (Kd.int .u8) w A0 l0.length l0) (hc0 : l0.length ≤ c0) (h : spec_DrawSubText.f k l0 = some (r1, r2, r3)) :
    Calls Tryd.prog 32 #[.slice A0 l0.length c0] w fun e w' => e = .returned (.tuple #[.string r1, .int .i64 r2, .int .i64 r3]) ∧ Below w.heap.size w w' := by
  have HR0 := Aside0.mk hr0
  have HC0 := Aside0.mk hc0
  clear hr0 hc0
  have HB := Aside0.mk (Below.refl w.heap.size w)
  have H : ((spec_l1New.f k l0).bind fun bt537 => ((spec_l1Below.f bt537.1 bt537.2.1 bt537.2.2 9).bind fun bt541 => ((spec_l1of.f k bt537.1 bt541.2.1 bt541.2.2 bt541.1 (⟨#[97, 98, 99]⟩ : ByteArray)).bind fun bt544 => ((spec_l1Below.f bt537.1 bt544.2.1 bt544.2.2 14).bind fun bt547 => ((spec_l1PickInt.f bt537.1 bt547.2.1 bt547.2.2 (([0, 1, 2, 3, 20, (-1), 9000000000000] : List Int))).bind fun bt553 => (some (bt544.1, wrap64 (bt547.1 - 3), bt553.1))))))) = some (r1, r2, r3) := h
  clear h
  replace H := Option.bind_eq_some_iff.mp H
  obtain ⟨⟨t537, t538, t539⟩, A20, H⟩ := H
  replace H : ((spec_l1Below.f t537 t538 t539 9).bind fun bt541 => ((spec_l1of.f k t537 bt541.2.1 bt541.2.2 bt541.1 (⟨#[97, 98, 99]⟩ : ByteArray)).bind fun bt544 => ((spec_l1Below.f t537 bt544.2.1 bt544.2.2 14).bind fun bt547 => ((spec_l1PickInt.f t537 bt547.2.1 bt547.2.2 (([0, 1, 2, 3, 20, (-1), 9000000000000] : List Int))).bind fun bt553 => (some (bt544.1, wrap64 (bt547.1 - 3), bt553.1)))))) = some (r1, r2, r3) := H
  have A2 := Aside0.mk A20
  clear A20
  replace H := Option.bind_eq_some_iff.mp H
  obtain ⟨⟨t541, t542, t543⟩, A30, H⟩ := H
  replace H : ((spec_l1of.f k t537 t542 t543 t541 (⟨#[97, 98, 99]⟩ : ByteArray)).bind fun bt544 => ((spec_l1Below.f t537 bt544.2.1 bt544.2.2 14).bind fun bt547 => ((spec_l1PickInt.f t537 bt547.2.1 bt547.2.2 (([0, 1, 2, 3, 20, (-1), 9000000000000] : List Int))).bind fun bt553 => (some (bt544.1, wrap64 (bt547.1 - 3), bt553.1))))) = some (r1, r2, r3) := H
  have A3 := Aside0.mk A30
  clear A30
  replace H := Option.bind_eq_some_iff.mp H
  obtain ⟨⟨t544, t545, t546⟩, A40, H⟩ := H
  replace H : ((spec_l1Below.f t537 t545 t546 14).bind fun bt547 => ((spec_l1PickInt.f t537 bt547.2.1 bt547.2.2 (([0, 1, 2, 3, 20, (-1), 9000000000000] : List Int))).bind fun bt553 => (some (t544, wrap64 (bt547.1 - 3), bt553.1)))) = some (r1, r2, r3) := H
  have A4 := Aside0.mk A40
  clear A40
  replace H := Option.bind_eq_some_iff.mp H
  obtain ⟨⟨t547, t548, t549⟩, A50, H⟩ := H
  replace H : ((spec_l1PickInt.f t537 t548 t549 (([0, 1, 2, 3, 20, (-1), 9000000000000] : List Int))).bind fun bt553 => (some (t544, wrap64 (t547 - 3), bt553.1))) = some (r1, r2, r3) := H
  have A5 := Aside0.mk A50
  clear A50
  obtain ⟨y550, hy550⟩ : ∃ y_ : List Int, y_ = (([0, 1, 2, 3, 20, (-1), 9000000000000] : List Int)) := ⟨_, rfl⟩
  replace H : ((spec_l1PickInt.f t537 t548 t549 y550).bind fun bt553 => (some (t544, wrap64 (t547 - 3), bt553.1))) = some (r1, r2, r3) := by first | (rw [hy550]; with_reducible exact H) | (have H2_ := (Option.bind_some _ _).symm.trans H; rw [hy550]; with_reducible exact H2_) | (have H2_ := (Option.bind_some _ _).symm.trans H; with_reducible exact H2_) | with_reducible exact H | (rw [hy550]; exact H) | exact H
  have Ny550 := Aside0.mk hy550
  clear hy550
  replace H := Option.bind_eq_some_iff.mp H
  obtain ⟨⟨t553, t554, t555⟩, A60, H⟩ := H
  replace H : (some (t544, wrap64 (t547 - 3), t553)) = some (r1, r2, r3) := H
  have A6 := Aside0.mk A60
  clear A60
  simp only [Option.some.injEq, Prod.mk.injEq] at H
  obtain ⟨rfl, rfl, rfl⟩ := H
  go_enter Tryd.func32, Tryd.ntmps32
  go_wp2_with (first | ((with_reducible refine gate_callee (f := 45) rfl ?_); refine goesL_ (some 8) rfl rfl Tryd.func45 (by kernel_rfl) rfl #[.slice A0 l0.length c0] rfl (by (try simp only [List.map_toArray, List.map_cons, List.map_nil]); first | done | rfl | (simp only [List.length_drop, List.length_take]; rfl)) ?_; (with_reducible refine (spec_l1New.calls k _ _ l0 t537 t538 t539 w _ ?side1 ?side2 ?side3 A2.out).mono ?_); (case side1 => repeat (first | (with_reducible first | exact HB.out | apply below_alloc | apply pw_below_drewN | apply below_drew1) | exact HB.out)); (case side2 => exact HR0.out); (case side3 => exact HC0.out); rintro e w7 ⟨g540, rfl, hi, hb, hb2⟩; refine ⟨_, rfl, ?_⟩; have n0_ := Aside0.mk (hb); have n1_ := Aside0.mk (hi); clear HB; have HB := n0_; have HI540 := n1_; clear n0_ n1_; (try clear hb); (try clear hb2); (try clear hk); (try clear hi)) | ((with_reducible refine gate_callee (f := 48) rfl ?_); refine goesL_ (some 11) rfl rfl Tryd.func48 (by kernel_rfl) rfl #[.pointer (some ⟨g540, 0, none⟩), .int .i64 9] rfl (by (try simp only [List.map_toArray, List.map_cons, List.map_nil]); first | done | rfl | (simp only [List.length_drop, List.length_take]; rfl)) ?_; (with_reducible refine (spec_l1Below.calls g540 t537 t538 t539 9 t541 t542 t543 w _ ?side1 ?side2 A3.out).mono ?_); (case side1 => repeat (first | (with_reducible first | exact HI540.out | apply IsS90.alloc | apply IsS90.drewN | apply IsS90.drew | apply IsS90.set_1 | apply IsS90.set_2) | exact HI540.out)); (case side2 => repeat (first | (with_reducible first | exact HB.out | apply below_alloc | apply pw_below_drewN | apply below_drew1 | refine below_set ?_ (IsS90.ge HI540.out)) | exact HB.out)); rintro e w8 ⟨rfl, hi, hb, hk⟩; refine ⟨_, rfl, ?_⟩; have n0_ := Aside0.mk (hb); have n1_ := Aside0.mk (hi); clear HB; clear HI540; have HB := n0_; have HI540 := n1_; clear n0_ n1_; (try clear hb); (try clear hb2); (try clear hk); (try clear hi)) | ((with_reducible refine gate_callee (f := 47) rfl ?_); refine goesL_ (some 12) rfl rfl Tryd.func47 (by kernel_rfl) rfl #[.pointer (some ⟨g540, 0, none⟩), .int .i64 t541, .string (⟨#[97, 98, 99]⟩ : ByteArray)] rfl (by (try simp only [List.map_toArray, List.map_cons, List.map_nil]); first | done | rfl | (simp only [List.length_drop, List.length_take]; rfl)) ?_; (with_reducible refine (spec_l1of.calls k g540 t537 t542 t543 t541 (⟨#[97, 98, 99]⟩ : ByteArray) t544 t545 t546 w _ ?side1 ?side2 A4.out).mono ?_); (case side1 => repeat (first | (with_reducible first | exact HI540.out | apply IsS90.alloc | apply IsS90.drewN | apply IsS90.drew | apply IsS90.set_1 | apply IsS90.set_2) | exact HI540.out)); (case side2 => repeat (first | (with_reducible first | exact HB.out | apply below_alloc | apply pw_below_drewN | apply below_drew1 | refine below_set ?_ (IsS90.ge HI540.out)) | exact HB.out)); rintro e w9 ⟨rfl, hi, hb, hk⟩; refine ⟨_, rfl, ?_⟩; have n0_ := Aside0.mk (hb); have n1_ := Aside0.mk (hi); clear HB; clear HI540; have HB := n0_; have HI540 := n1_; clear n0_ n1_; (try clear hb); (try clear hb2); (try clear hk); (try clear hi)) | ((with_reducible refine gate_callee (f := 48) rfl ?_); refine goesL_ (some 15) rfl rfl Tryd.func48 (by kernel_rfl) rfl #[.pointer (some ⟨g540, 0, none⟩), .int .i64 14] rfl (by (try simp only [List.map_toArray, List.map_cons, List.map_nil]); first | done | rfl | (simp only [List.length_drop, List.length_take]; rfl)) ?_; (with_reducible refine (spec_l1Below.calls g540 t537 t545 t546 14 t547 t548 t549 w _ ?side1 ?side2 A5.out).mono ?_); (case side1 => repeat (first | (with_reducible first | exact HI540.out | apply IsS90.alloc | apply IsS90.drewN | apply IsS90.drew | apply IsS90.set_1 | apply IsS90.set_2) | exact HI540.out)); (case side2 => repeat (first | (with_reducible first | exact HB.out | apply below_alloc | apply pw_below_drewN | apply below_drew1 | refine below_set ?_ (IsS90.ge HI540.out)) | exact HB.out)); rintro e w10 ⟨rfl, hi, hb, hk⟩; refine ⟨_, rfl, ?_⟩; have n0_ := Aside0.mk (hb); have n1_ := Aside0.mk (hi); clear HB; clear HI540; have HB := n0_; have HI540 := n1_; clear n0_ n1_; (try clear hb); (try clear hb2); (try clear hk); (try clear hi)) | ((with_reducible refine gate_dst (N := 18) rfl ?_); refine Kd.R_lit (Kd.int .i64) _ 3 ?hg (N := 18) ?hd (xs := ([0, 1, 2, 3, 20, (-1), 9000000000000] : List Int)) (inner := [.int .i64 0, .int .i64 1, .int .i64 2, .int .i64 3, .int .i64 20, .int .i64 (-1), .int .i64 9000000000000]) (ok := fun _ => True) (okp := fun _ => True) ?hr ?hp (fun _ hk => hk) trivial (Below.refl _ _) (Nat.le_refl _) (by simp) ?_; (case hd => rfl); (case hg => rfl); (case hr => first | (go_simp; done) | (go_simp; rfl)); (case hp => exact (Reps.one (show Kd.M (Kd.int .i64) _ _ _ 0 [.int .i64 0] from rfl) (Reps.one (show Kd.M (Kd.int .i64) _ _ _ 1 [.int .i64 1] from rfl) (Reps.one (show Kd.M (Kd.int .i64) _ _ _ 2 [.int .i64 2] from rfl) (Reps.one (show Kd.M (Kd.int .i64) _ _ _ 3 [.int .i64 3] from rfl) (Reps.one (show Kd.M (Kd.int .i64) _ _ _ 20 [.int .i64 20] from rfl) (Reps.one (show Kd.M (Kd.int .i64) _ _ _ (-1) [.int .i64 (-1)] from rfl) (Reps.one (show Kd.M (Kd.int .i64) _ _ _ 9000000000000 [.int .i64 9000000000000] from rfl) (Reps.none _ _))))))))); intro v551 w11 ho12 hb hg_ hnew_; clear hg_ hnew_; (first | rw [← Ny550.out] at ho12 | (simp only [Int.reduceToNat] at ho12; rw [← Ny550.out] at ho12)); have n0_ := Aside0.mk (Kd.R_lower ho12 (below_size (by repeat (first | (with_reducible first | exact HB.out | apply below_alloc | apply pw_below_drewN | apply below_drew1 | refine below_set ?_ (IsS90.ge HI540.out)) | exact HB.out)))); have n1_ := Aside0.mk (IsS90.below (by repeat (first | (with_reducible first | exact HI540.out | apply IsS90.alloc | apply IsS90.drewN | apply IsS90.drew | apply IsS90.set_1 | apply IsS90.set_2) | exact HI540.out)) hb); have n2_ := Aside0.mk (below_step (by repeat (first | (with_reducible first | exact HB.out | apply below_alloc | apply pw_below_drewN | apply below_drew1 | refine below_set ?_ (IsS90.ge HI540.out)) | exact HB.out)) hb); clear HI540; clear HB; have HO552 := n0_; have HI540 := n1_; have HB := n2_; clear n0_ n1_ n2_; clear hb ho12; obtain ⟨Ao13, co13, eo13⟩ := Kd.R_slice HO552.out; subst eo13) | ((with_reducible refine gate_callee (f := 65) rfl ?_); refine goesL_ (some 19) rfl rfl Tryd.func65 (by kernel_rfl) rfl #[.pointer (some ⟨g540, 0, none⟩), .slice Ao13 y550.length co13] rfl (by (try simp only [List.map_toArray, List.map_cons, List.map_nil]); first | done | rfl | (simp only [List.length_drop, List.length_take]; rfl)) ?_; (with_reducible refine (spec_l1PickInt.calls g540 t537 t548 t549 _ _ y550 t553 t554 t555 w _ ?side1 ?side2 ?side3 ?side4 ?side5 A6.out).mono ?_); (case side1 => repeat (first | (with_reducible first | exact HI540.out | apply IsS90.alloc | apply IsS90.drewN | apply IsS90.drew | apply IsS90.set_1 | apply IsS90.set_2) | exact HI540.out)); (case side2 => repeat (first | (with_reducible first | exact HB.out | apply below_alloc | apply pw_below_drewN | apply below_drew1 | refine below_set ?_ (IsS90.ge HI540.out)) | exact HB.out)); (case side3 => repeat (first | exact (Kd.R_reads' HO552.out).2.2 | (with_reducible refine Kd.C_alloc ?_ _) | (with_reducible refine Kd.C_drewN ?_ _) | (with_reducible refine Kd.C_drew ?_))); (case side4 => exact (Kd.R_reads' HO552.out).2.1); (case side5 => exact far_slice (IsS90.own_ne HI540.out HO552.out (by decide))); rintro e w14 ⟨rfl, hi, hb, hk⟩; refine ⟨_, rfl, ?_⟩; have n0_ := Aside0.mk (Kd.R_mono (Kd.R_keep (IsS90.apart (show IsS90 w _ g540 t537 t548 t549 from by repeat (first | (with_reducible first | exact HI540.out | apply IsS90.alloc | apply IsS90.drewN | apply IsS90.drew | apply IsS90.set_1 | apply IsS90.set_2) | exact HI540.out)) (by (with_reducible repeat (first | apply Kd.R_alloc | apply Kd.R_drewN | apply Kd.R_drew)); exact HO552.out) (by decide)) hk (fun _ h => h.2)) (fun _ h => h.1)); have n1_ := Aside0.mk (hb); have n2_ := Aside0.mk (hi); clear HO552; clear HB; clear HI540; have HO552 := n0_; have HB := n1_; have HI540 := n2_; clear n0_ n1_ n2_; (try clear hb); (try clear hb2); (try clear hk); (try clear hi)))
  go_ret3
  exact ⟨by first | rfl | (simp [errW_none, errW_some] <;> rfl) | (simp [*, errW_none, errW_some] <;> rfl), by repeat (first | (with_reducible first | exact HB.out | apply below_alloc | apply pw_below_drewN | apply below_drew1 | refine below_set ?_ (IsS90.ge HI540.out)) | exact HB.out)⟩
def spec_SubText.l0 : Nat → ByteArray → Int → Int → List Int → Int → Option (ByteArray)
  | 0, _, _, _, _, _ => none
  | k + 1, x0, x1, x2, x7, x8 => if x8 ≤ (x0.size : Int) then (if x8 ≥ x1 then (if x2 = 9000000000000 then (if 0 ≤ (wrap64 (x8 - 1)) then (if (wrap64 (x8 - 1)) < (x0.size : Int) then (if x7.length < 140737488355328 then (spec_SubText.l0 k x0 x1 x2 (x7 ++ [bt x0 (wrap64 (x8 - 1))]) (wrap64 (x8 + 1))) else (none)) else (none)) else (none)) else (if x2 > 0 then (if (wrap64 (x8 - x2)) < x1 then (if 0 ≤ (wrap64 (x8 - 1)) then (if (wrap64 (x8 - 1)) < (x0.size : Int) then (if x7.length < 140737488355328 then (spec_SubText.l0 k x0 x1 x2 (x7 ++ [bt x0 (wrap64 (x8 - 1))]) (wrap64 (x8 + 1))) else (none)) else (none)) else (none)) else (spec_SubText.l0 k x0 x1 x2 x7 (wrap64 (x8 + 1)))) else (spec_SubText.l0 k x0 x1 x2 x7 (wrap64 (x8 + 1))))) else (spec_SubText.l0 k x0 x1 x2 x7 (wrap64 (x8 + 1)))) else (some (strOfNums x7))
def spec_SubText.f (k : Nat) (a0 : ByteArray) (a1 : Int) (a2 : Int) : Option (ByteArray) := spec_SubText.l0 k a0 a1 a2 ([] : List Int) 1
set_option maxHeartbeats 8000000 in
set_option maxRecDepth 100000 in
theorem spec_SubText.calls (k : Nat) (a0 : ByteArray) (a1 : Int) (a2 : Int) (r : ByteArray) (w : World) (h : spec_SubText.f k a0 a1 a2 = some r) :
    Calls Tryd.prog 33 #[.string a0, .int .i64 a1, .int .i64 a2] w fun e w' => e = .returned (.string r) ∧ Below w.heap.size w w' := by
  have HB := Aside0.mk (Below.refl w.heap.size w)
  have H : (spec_SubText.l0 k a0 a1 a2 ([] : List Int) 1) = some r := h
  clear h
  have H' := Aside0.mk H
  clear H
  go_enter Tryd.func33, Tryd.ntmps33
  go_wp2
  go_loopg [7, 8] k (fun kq v7 v8 w' => ∃ (x7_1 : List Int) (x8_1 : Int), v8 = .int .i64 x8_1 ∧ Aside0 (spec_SubText.l0 kq a0 a1 a2 x7_1 x8_1 = some r) ∧ Aside0 (kq ≤ k) ∧ Aside0 (Kd.R (Kd.int .u8) 5 w' w.heap.size (fun _ => True) v7 x7_1) ∧ Aside0 (Below w.heap.size w w'))
  case atStart => exact ⟨(([] : List Int)), (1), (by first | rfl | (simp; done) | (simp [*]; done)), H', ⟨Nat.le_refl _⟩, ⟨by first | exact Kd.R_nil _ _ _ _ _ | exact Kd.N_nil _ _ _ _ _ | exact Kd.V_nil _ _ _ _ _ | exact Kd.Q_nil _ _ _ _ _ | exact Kd.S_nil _ _ _ _ _⟩, ⟨by repeat (first | (with_reducible first | exact HB.out | apply below_alloc | apply pw_below_drewN | apply below_drew1) | exact HB.out)⟩⟩
  case round =>
    clear H'
    try clear p2
    try clear c3
    obtain ⟨x7_1, x8_1, rfl, HA, HK1, HO_7, HB⟩ := hrel
    cases gk with
    | zero => exact absurd HA.out (by simp [spec_SubText.l0])
    | succ k1 =>
      have H := HA.out
      clear HA
      simp only [spec_SubText.l0] at H
      by_cases c4 : x8_1 ≤ (a0.size : Int)
      · rw [if_pos c4] at H
        have c4b0 : decide (x8_1 ≤ (a0.size : Int)) = true := decide_eq_true c4
        clear c4
        by_cases c5 : x8_1 ≥ a1
        · rw [if_pos c5] at H
          have c5b0 : decide (a1 ≤ x8_1) = true := decide_eq_true c5
          clear c5
          by_cases c6 : a2 = 9000000000000
          · rw [if_pos c6] at H
            have c6b0 : (a2 == 9000000000000) = true := beq_iff_eq.mpr c6
            have c6b1 : (a2 != 9000000000000) = false := bne_eq_false_iff_eq.mpr c6
            clear c6
            obtain ⟨ji7, hji7⟩ : ∃ j_ : Int, (wrap64 (x8_1 - 1)) = j_ := ⟨_, rfl⟩
            replace H : (if 0 ≤ (ji7) then (if (ji7) < (a0.size : Int) then (if x7_1.length < 140737488355328 then (spec_SubText.l0 k1 a0 a1 a2 (x7_1 ++ [bt a0 (ji7)]) (wrap64 (x8_1 + 1))) else (none)) else (none)) else (none)) = some r := by first | (rw [hji7] at H; exact H) | (simp only [hji7] at H ⊢; exact H)
            have hji7w : (IntKind.i64.wrap (x8_1 - 1)) = ji7 := (i64_w _).trans hji7
            by_cases c8 : 0 ≤ (ji7)
            · rw [if_pos c8] at H
              have c8b0 : decide (0 ≤ (ji7)) = true := decide_eq_true c8
              clear c8
              by_cases c9 : (ji7) < (a0.size : Int)
              · rw [if_pos c9] at H
                have c9b0 : decide ((ji7) < (a0.size : Int)) = true := decide_eq_true c9
                clear c9
                by_cases c11 : x7_1.length < 140737488355328
                · rw [if_pos c11] at H
                  have LMc11 := Aside0.mk c11
                  clear c11
                  obtain ⟨y556, hy556⟩ : ∃ y_ : List Int, y_ = (x7_1 ++ [bt a0 (ji7)]) := ⟨_, rfl⟩
                  replace H : (spec_SubText.l0 k1 a0 a1 a2 y556 (wrap64 (x8_1 + 1))) = some r := by first | (rw [hy556]; with_reducible exact H) | (have H2_ := (Option.bind_some _ _).symm.trans H; rw [hy556]; with_reducible exact H2_) | (have H2_ := (Option.bind_some _ _).symm.trans H; with_reducible exact H2_) | with_reducible exact H | (rw [hy556]; exact H) | exact H
                  have Ny556 := Aside0.mk hy556
                  clear hy556
                  have H' := Aside0.mk H
                  clear H
                  have p10 : 0 ≤ ((ji7) : Int) := of_decide_eq_true (by first | (with_reducible assumption) | assumption)
                  have q10 : (ji7) < (a0.size : Int) := of_decide_eq_true (by first | (with_reducible assumption) | assumption)
                  have hx10 := bt_at a0 (ji7)
                  replace p10 := eq_true p10
                  replace q10 := eq_true q10
                  go_wp2_with (first | ((with_reducible refine gate_builtin (b := .append) (xs := #[.tmp 33, .tmp 38]) rfl ?_); at_builtin; refine Kd.R_append (Kd.int .u8) (w0 := w) w.heap.size rfl (.tmp 33) (.tmp 38) 31 5 (.int .u8 0) 1 rfl Tryd.underlying31 info5 rfl (by decide) (by omega) u7 x7_1 (bt a0 (ji7)) [.int .u8 (bt a0 (ji7))] (fun _ => True) (fun _ => False) rfl rfl ?aP (fun _ hk => hk.elim) ?aF ?aO ?aB ?aS ?aL ?_; (case aP => exact rfl); (case aB => exact (by repeat (first | (with_reducible first | exact HB.out | apply below_alloc | apply pw_below_drewN | apply below_drew1) | exact HB.out))); (case aF => exact (fun _ _ => trivial)); (case aO => exact (by (with_reducible repeat (first | apply Kd.R_alloc | apply Kd.R_drewN | apply Kd.R_drew)); exact HO_7.out)); (case aS => exact (below_size (by repeat (first | (with_reducible first | exact HB.out | apply below_alloc | apply pw_below_drewN | apply below_drew1) | exact HB.out)))); (case aL => have := LMc11.out; omega); intro v557 w12 ho hb hg hat; rw [← Ny556.out] at ho; have n0_ := Aside0.mk (hb); have n1_ := Aside0.mk (ho); clear HB; clear HO_7; have HB := n0_; have HO558 := n1_; clear n0_ n1_; clear ho hb hg hat))
                  go_roundg k1
                  case measure => have := HK1.out; omega
                  case rel => exact ⟨(y556), (wrap64 (x8_1 + 1)), (by first | rfl | (simp; done) | (simp [*]; done)), H', ⟨by have := HK1.out; omega⟩, ⟨by (with_reducible repeat (first | apply Kd.R_alloc | apply Kd.R_drewN | apply Kd.R_drew)); exact HO558.out⟩, ⟨by repeat (first | (with_reducible first | exact HB.out | apply below_alloc | apply pw_below_drewN | apply below_drew1) | exact HB.out)⟩⟩
                · rw [if_neg c11] at H
                  exact absurd H (by simp)
              · rw [if_neg c9] at H
                exact absurd H (by simp)
            · rw [if_neg c8] at H
              exact absurd H (by simp)
          · rw [if_neg c6] at H
            have c6b0 : (a2 == 9000000000000) = false := beq_eq_false_iff_ne.mpr c6
            have c6b1 : (a2 != 9000000000000) = true := bne_iff_ne.mpr c6
            by_cases c13 : a2 > 0
            · rw [if_pos c13] at H
              have c13b0 : decide (0 < a2) = true := decide_eq_true c13
              clear c13
              by_cases c14 : (wrap64 (x8_1 - a2)) < a1
              · rw [if_pos c14] at H
                have c14b0 : decide ((wrap64 (x8_1 - a2)) < a1) = true := decide_eq_true c14
                clear c14
                obtain ⟨ji15, hji15⟩ : ∃ j_ : Int, (wrap64 (x8_1 - 1)) = j_ := ⟨_, rfl⟩
                replace H : (if 0 ≤ (ji15) then (if (ji15) < (a0.size : Int) then (if x7_1.length < 140737488355328 then (spec_SubText.l0 k1 a0 a1 a2 (x7_1 ++ [bt a0 (ji15)]) (wrap64 (x8_1 + 1))) else (none)) else (none)) else (none)) = some r := by first | (rw [hji15] at H; exact H) | (simp only [hji15] at H ⊢; exact H)
                have hji15w : (IntKind.i64.wrap (x8_1 - 1)) = ji15 := (i64_w _).trans hji15
                by_cases c16 : 0 ≤ (ji15)
                · rw [if_pos c16] at H
                  have c16b0 : decide (0 ≤ (ji15)) = true := decide_eq_true c16
                  clear c16
                  by_cases c17 : (ji15) < (a0.size : Int)
                  · rw [if_pos c17] at H
                    have c17b0 : decide ((ji15) < (a0.size : Int)) = true := decide_eq_true c17
                    clear c17
                    by_cases c19 : x7_1.length < 140737488355328
                    · rw [if_pos c19] at H
                      have LMc19 := Aside0.mk c19
                      clear c19
                      obtain ⟨y559, hy559⟩ : ∃ y_ : List Int, y_ = (x7_1 ++ [bt a0 (ji15)]) := ⟨_, rfl⟩
                      replace H : (spec_SubText.l0 k1 a0 a1 a2 y559 (wrap64 (x8_1 + 1))) = some r := by first | (rw [hy559]; with_reducible exact H) | (have H2_ := (Option.bind_some _ _).symm.trans H; rw [hy559]; with_reducible exact H2_) | (have H2_ := (Option.bind_some _ _).symm.trans H; with_reducible exact H2_) | with_reducible exact H | (rw [hy559]; exact H) | exact H
                      have Ny559 := Aside0.mk hy559
                      clear hy559
                      have H' := Aside0.mk H
                      clear H
                      have p18 : 0 ≤ ((ji15) : Int) := of_decide_eq_true (by first | (with_reducible assumption) | assumption)
                      have q18 : (ji15) < (a0.size : Int) := of_decide_eq_true (by first | (with_reducible assumption) | assumption)
                      have hx18 := bt_at a0 (ji15)
                      replace p18 := eq_true p18
                      replace q18 := eq_true q18
                      go_wp2_with (first | ((with_reducible refine gate_builtin (b := .append) (xs := #[.tmp 33, .tmp 38]) rfl ?_); at_builtin; refine Kd.R_append (Kd.int .u8) (w0 := w) w.heap.size rfl (.tmp 33) (.tmp 38) 31 5 (.int .u8 0) 1 rfl Tryd.underlying31 info5 rfl (by decide) (by omega) u7 x7_1 (bt a0 (ji15)) [.int .u8 (bt a0 (ji15))] (fun _ => True) (fun _ => False) rfl rfl ?aP (fun _ hk => hk.elim) ?aF ?aO ?aB ?aS ?aL ?_; (case aP => exact rfl); (case aB => exact (by repeat (first | (with_reducible first | exact HB.out | apply below_alloc | apply pw_below_drewN | apply below_drew1) | exact HB.out))); (case aF => exact (fun _ _ => trivial)); (case aO => exact (by (with_reducible repeat (first | apply Kd.R_alloc | apply Kd.R_drewN | apply Kd.R_drew)); exact HO_7.out)); (case aS => exact (below_size (by repeat (first | (with_reducible first | exact HB.out | apply below_alloc | apply pw_below_drewN | apply below_drew1) | exact HB.out)))); (case aL => have := LMc19.out; omega); intro v560 w20 ho hb hg hat; rw [← Ny559.out] at ho; have n0_ := Aside0.mk (hb); have n1_ := Aside0.mk (ho); clear HB; clear HO_7; have HB := n0_; have HO561 := n1_; clear n0_ n1_; clear ho hb hg hat))
                      go_roundg k1
                      case measure => have := HK1.out; omega
                      case rel => exact ⟨(y559), (wrap64 (x8_1 + 1)), (by first | rfl | (simp; done) | (simp [*]; done)), H', ⟨by have := HK1.out; omega⟩, ⟨by (with_reducible repeat (first | apply Kd.R_alloc | apply Kd.R_drewN | apply Kd.R_drew)); exact HO561.out⟩, ⟨by repeat (first | (with_reducible first | exact HB.out | apply below_alloc | apply pw_below_drewN | apply below_drew1) | exact HB.out)⟩⟩
                    · rw [if_neg c19] at H
                      exact absurd H (by simp)
                  · rw [if_neg c17] at H
                    exact absurd H (by simp)
                · rw [if_neg c16] at H
                  exact absurd H (by simp)
              · rw [if_neg c14] at H
                have c14b0 : decide ((wrap64 (x8_1 - a2)) < a1) = false := decide_eq_false c14
                clear c14
                have H' := Aside0.mk H
                clear H
                go_wp2
                go_roundg k1
                case measure => have := HK1.out; omega
                case rel => exact ⟨(x7_1), (wrap64 (x8_1 + 1)), (by first | rfl | (simp; done) | (simp [*]; done)), H', ⟨by have := HK1.out; omega⟩, ⟨by (with_reducible repeat (first | apply Kd.R_alloc | apply Kd.R_drewN | apply Kd.R_drew)); exact HO_7.out⟩, ⟨by repeat (first | (with_reducible first | exact HB.out | apply below_alloc | apply pw_below_drewN | apply below_drew1) | exact HB.out)⟩⟩
            · rw [if_neg c13] at H
              have c13b0 : decide (0 < a2) = false := decide_eq_false c13
              clear c13
              have H' := Aside0.mk H
              clear H
              go_wp2
              go_roundg k1
              case measure => have := HK1.out; omega
              case rel => exact ⟨(x7_1), (wrap64 (x8_1 + 1)), (by first | rfl | (simp; done) | (simp [*]; done)), H', ⟨by have := HK1.out; omega⟩, ⟨by (with_reducible repeat (first | apply Kd.R_alloc | apply Kd.R_drewN | apply Kd.R_drew)); exact HO_7.out⟩, ⟨by repeat (first | (with_reducible first | exact HB.out | apply below_alloc | apply pw_below_drewN | apply below_drew1) | exact HB.out)⟩⟩
        · rw [if_neg c5] at H
          have c5b0 : decide (a1 ≤ x8_1) = false := decide_eq_false c5
          clear c5
          have H' := Aside0.mk H
          clear H
          go_wp2
          go_roundg k1
          case measure => have := HK1.out; omega
          case rel => exact ⟨(x7_1), (wrap64 (x8_1 + 1)), (by first | rfl | (simp; done) | (simp [*]; done)), H', ⟨by have := HK1.out; omega⟩, ⟨by (with_reducible repeat (first | apply Kd.R_alloc | apply Kd.R_drewN | apply Kd.R_drew)); exact HO_7.out⟩, ⟨by repeat (first | (with_reducible first | exact HB.out | apply below_alloc | apply pw_below_drewN | apply below_drew1) | exact HB.out)⟩⟩
      · rw [if_neg c4] at H
        have c4b0 : decide (x8_1 ≤ (a0.size : Int)) = false := decide_eq_false c4
        clear c4
        obtain rfl := Option.some.inj H
        have hcv21 := own_string (P := Tryd.prog) Tryd.underlying31 Tryd.underlying5 Tryd.underlying9 (Kd.own_of_R HO_7.out)
        go_wp2
        go_ret
        exact ⟨by first | rfl | (simp [errW_none, errW_some] <;> rfl) | (simp [*, errW_none, errW_some] <;> rfl), by repeat (first | (with_reducible first | exact HB.out | apply below_alloc | apply pw_below_drewN | apply below_drew1) | exact HB.out)⟩
def laws_FnTexts.j0 : Nat → List Int → Bool → Option (Bool)
  | 0, _, _ => none
  | k + 1, x0, x34 => if x34 = true then (some false) else ((spec_DrawUpper.f k x0).bind fun t567 => ((spec_DrawSubText.f k x0).bind fun bt568 => ((impl_SubText.f k bt568.1 bt568.2.1 bt568.2.2).bind fun t571 => (if (t571.size : Int) ≤ (bt568.1.size : Int) then ((impl_SubText.f k bt568.1 1 (bt568.1.size : Int)).bind fun t572 => (if t572.toList = bt568.1.toList then ((impl_SubText.f k bt568.1 1 9000000000000).bind fun t573 => (if t573.toList = bt568.1.toList then ((spec_SubText.f k bt568.1 bt568.2.1 bt568.2.2).bind fun t574 => (if t571.toList = t574.toList then ((impl_Upper.f t567).bind fun t575 => ((impl_Upper.f t575).bind fun t576 => ((impl_Upper.f t567).bind fun t577 => (if t576.toList = t577.toList then ((impl_Upper.f t567).bind fun t578 => (if (t578.size : Int) = (t567.size : Int) then ((laws_cells.f k).bind fun t579 => (some t579)) else (some false))) else (some false))))) else (some false))) else (some false))) else (some false))) else (some false)))))
def laws_FnTexts.f (k : Nat) (l0 : List Int) : Option (Bool) := (spec_DrawIndexOf.f k l0).bind fun bt562 => ((impl_IndexOf.f bt562.1 bt562.2).bind fun t564 => ((spec_IndexOf.f k bt562.1 bt562.2).bind fun t565 => (if t564 = t565 then (if t564 > 0 then ((impl_SubText.f k bt562.1 t564 (bt562.2.size : Int)).bind fun t566 => (laws_FnTexts.j0 k l0 (t566.toList != bt562.2.toList))) else (laws_FnTexts.j0 k l0 false)) else (some false))))
set_option maxHeartbeats 8000000 in
set_option maxRecDepth 100000 in
theorem laws_FnTexts.calls (k : Nat) (A0 : Option Addr) (c0 : Nat) (l0 : List Int) (r : Bool) (w : World) (hr0 : Kd.C (Kd.int .u8) w A0 l0.length l0) (hc0 : l0.length ≤ c0) (h : laws_FnTexts.f k l0 = some r) (hT : Tabs w := by first | assumption | (refine Aside0.out (p := Tabs _) ?_; assumption) | (refine Tabs.below (w := ?ww) (Aside0.out ?ha) ?hb; (case ha => assumption); (case hb => repeat (first | (with_reducible first | exact Below.refl _ _ | (refine Aside0.out ?_; assumption) | apply below_alloc | apply pw_below_drewN | apply below_drew1 | (refine below_set ?_ (Aside0.out ?_); (rotate_left; assumption))) | (refine Aside0.out ?_; assumption)))) | (refine Tabs.drewN (w := ?ww) (Aside0.out ?ha) _; (case ha => assumption))) (hr : r = true := by first | assumption | rfl | (refine Aside0.out ?_; assumption)) :
    Calls Tryd.prog 7 #[.slice A0 l0.length c0] w fun e w' => e = .returned (.bool r) ∧ Below w.heap.size w w' := by
  have HT_ := Aside0.mk hT
  clear hT
  subst hr
  have HR0 := Aside0.mk hr0
  have HC0 := Aside0.mk hc0
  clear hr0 hc0
  have HB := Aside0.mk (Below.refl w.heap.size w)
  have H : ((spec_DrawIndexOf.f k l0).bind fun bt562 => ((impl_IndexOf.f bt562.1 bt562.2).bind fun t564 => ((spec_IndexOf.f k bt562.1 bt562.2).bind fun t565 => (if t564 = t565 then (if t564 > 0 then ((impl_SubText.f k bt562.1 t564 (bt562.2.size : Int)).bind fun t566 => (laws_FnTexts.j0 k l0 (t566.toList != bt562.2.toList))) else (laws_FnTexts.j0 k l0 false)) else (some false))))) = some true := h
  clear h
  replace H := Option.bind_eq_some_iff.mp H
  obtain ⟨⟨t562, t563⟩, A20, H⟩ := H
  replace H : ((impl_IndexOf.f t562 t563).bind fun t564 => ((spec_IndexOf.f k t562 t563).bind fun t565 => (if t564 = t565 then (if t564 > 0 then ((impl_SubText.f k t562 t564 (t563.size : Int)).bind fun t566 => (laws_FnTexts.j0 k l0 (t566.toList != t563.toList))) else (laws_FnTexts.j0 k l0 false)) else (some false)))) = some true := H
  have A2 := Aside0.mk A20
  clear A20
  replace H := Option.bind_eq_some_iff.mp H
  obtain ⟨t564, A30, H⟩ := H
  replace H : ((spec_IndexOf.f k t562 t563).bind fun t565 => (if t564 = t565 then (if t564 > 0 then ((impl_SubText.f k t562 t564 (t563.size : Int)).bind fun t566 => (laws_FnTexts.j0 k l0 (t566.toList != t563.toList))) else (laws_FnTexts.j0 k l0 false)) else (some false))) = some true := H
  have A3 := Aside0.mk A30
  clear A30
  replace H := Option.bind_eq_some_iff.mp H
  obtain ⟨t565, A40, H⟩ := H
  replace H : (if t564 = t565 then (if t564 > 0 then ((impl_SubText.f k t562 t564 (t563.size : Int)).bind fun t566 => (laws_FnTexts.j0 k l0 (t566.toList != t563.toList))) else (laws_FnTexts.j0 k l0 false)) else (some false)) = some true := H
  have A4 := Aside0.mk A40
  clear A40
  by_cases c5 : t564 = t565
  · rw [if_pos c5] at H
    have c5b0 : (t564 == t565) = true := beq_iff_eq.mpr c5
    have c5b1 : (t564 != t565) = false := bne_eq_false_iff_eq.mpr c5
    clear c5
    have HC6 := Aside0.mk H
    clear H
    go_enter Tryd.func7, Tryd.ntmps7
    go_upto_region 5 with (first | ((with_reducible refine gate_callee (f := 27) rfl ?_); refine goesL_ (some 13) rfl rfl Tryd.func27 (by kernel_rfl) rfl #[.slice A0 l0.length c0] rfl (by (try simp only [List.map_toArray, List.map_cons, List.map_nil]); first | done | rfl | (simp only [List.length_drop, List.length_take]; rfl)) ?_; (with_reducible refine (spec_DrawIndexOf.calls k _ _ l0 t562 t563 _ ?side1 ?side2 A2.out).mono ?_); (case side1 => repeat (first | exact HR0.out | (with_reducible refine Kd.C_alloc ?_ _) | (with_reducible refine Kd.C_drewN ?_ _) | (with_reducible refine Kd.C_drew ?_))); (case side2 => exact HC0.out); rintro e w7 ⟨rfl, hb⟩; refine ⟨_, rfl, ?_⟩; have n0_ := Aside0.mk (below_step (by repeat (first | (with_reducible first | exact HB.out | apply below_alloc | apply pw_below_drewN | apply below_drew1) | exact HB.out)) hb); clear HB; have HB := n0_; clear n0_; (try clear hb); (try clear hb2); (try clear hk); (try clear hi)) | ((with_reducible refine gate_callee (f := 28) rfl ?_); refine goesL_ (some 18) rfl rfl Tryd.func28 (by kernel_rfl) rfl #[.string t562, .string t563] rfl (by (try simp only [List.map_toArray, List.map_cons, List.map_nil]); first | done | rfl | (simp only [List.length_drop, List.length_take]; rfl)) ?_; (with_reducible refine (impl_IndexOf.calls t562 t563 t564 _ A3.out).mono ?_); rintro e w' ⟨rfl, ⟨nd, rfl⟩⟩; refine ⟨_, rfl, ?_⟩) | ((with_reducible refine gate_callee (f := 29) rfl ?_); refine goesL_ (some 22) rfl rfl Tryd.func29 (by kernel_rfl) rfl #[.string t562, .string t563] rfl (by (try simp only [List.map_toArray, List.map_cons, List.map_nil]); first | done | rfl | (simp only [List.length_drop, List.length_take]; rfl)) ?_; (with_reducible refine (spec_IndexOf.calls k t562 t563 t565 _ A4.out).mono ?_); rintro e w' ⟨rfl, ⟨nd, rfl⟩⟩; refine ⟨_, rfl, ?_⟩))
    (try simp only [Act.put, List.setIfInBounds_toArray, List.set_cons_zero, List.set_cons_succ])
    go_cut [34] (fun v34 wc => ∃ (kq : Nat) (x34_5 : Bool), v34 = .bool x34_5 ∧ Aside0 (laws_FnTexts.j0 kq l0 x34_5 = some true) ∧ Aside0 (kq ≤ k) ∧ Aside0 (Below w.heap.size w wc))
    case first =>
      have H := HC6.out
      clear HC6
      by_cases c8 : t564 > 0
      · rw [if_pos c8] at H
        have c8b0 : decide (0 < t564) = true := decide_eq_true c8
        clear c8
        (first | rw [c8b0] | (simp only [i64_w, i32_w]; rw [c8b0]) | skip)
        replace H := Option.bind_eq_some_iff.mp H
        obtain ⟨t566, A90, H⟩ := H
        replace H : (laws_FnTexts.j0 k l0 (t566.toList != t563.toList)) = some true := H
        have A9 := Aside0.mk A90
        clear A90
        have H' := Aside0.mk H
        clear H
        go_wp2_with (first | (go_at_call 30; (with_reducible refine (impl_SubText.calls k t562 t564 (t563.size : Int) t566 _ A9.out).mono ?_); rintro e w10 ⟨rfl, hb⟩; have n0_ := Aside0.mk (below_step (by repeat (first | (with_reducible first | exact HB.out | apply below_alloc | apply pw_below_drewN | apply below_drew1) | exact HB.out)) hb); clear HB; have HB := n0_; clear n0_; (try clear hb); (try clear hb2); (try clear hk); (try clear hi)))
        go_meet
        case rel => exact ⟨_, ((t566.toList != t563.toList)), (by first | rfl | (simp; done) | (simp [*]; done)), H', ⟨by first | omega | exact Nat.le_refl _⟩, ⟨by repeat (first | (with_reducible first | exact HB.out | apply below_alloc | apply pw_below_drewN | apply below_drew1) | exact HB.out)⟩⟩
      · rw [if_neg c8] at H
        have c8b0 : decide (0 < t564) = false := decide_eq_false c8
        clear c8
        (first | rw [c8b0] | (simp only [i64_w, i32_w]; rw [c8b0]) | skip)
        have H' := Aside0.mk H
        clear H
        go_wp2
        go_meet
        case rel => exact ⟨_, (false), (by first | rfl | (simp; done) | (simp [*]; done)), H', ⟨by first | omega | exact Nat.le_refl _⟩, ⟨by repeat (first | (with_reducible first | exact HB.out | apply below_alloc | apply pw_below_drewN | apply below_drew1) | exact HB.out)⟩⟩
    case rest =>
      clear HC6
      try clear c2
      try clear p2
      try clear c5
      try clear c5b0
      try clear c5b1
      try clear c7
      try clear c8
      try clear c8b0
      obtain ⟨kq, x34_5, rfl, HA, HJ5, HB⟩ := hcut
      cases kq with
      | zero => exact absurd HA.out (by simp [laws_FnTexts.j0])
      | succ kj5 =>
        have H := HA.out
        clear HA
        simp only [laws_FnTexts.j0] at H
        by_cases c11 : x34_5 = true
        · subst c11
          have H1 : (some false) = some true := by rw [if_pos rfl] at H; exact H
          clear H
          have H := H1
          clear H1
          exact absurd H (by simp)
        · replace c11 := Bool.eq_false_iff.mpr c11
          subst c11
          have H1 : ((spec_DrawUpper.f kj5 l0).bind fun t567 => ((spec_DrawSubText.f kj5 l0).bind fun bt568 => ((impl_SubText.f kj5 bt568.1 bt568.2.1 bt568.2.2).bind fun t571 => (if (t571.size : Int) ≤ (bt568.1.size : Int) then ((impl_SubText.f kj5 bt568.1 1 (bt568.1.size : Int)).bind fun t572 => (if t572.toList = bt568.1.toList then ((impl_SubText.f kj5 bt568.1 1 9000000000000).bind fun t573 => (if t573.toList = bt568.1.toList then ((spec_SubText.f kj5 bt568.1 bt568.2.1 bt568.2.2).bind fun t574 => (if t571.toList = t574.toList then ((impl_Upper.f t567).bind fun t575 => ((impl_Upper.f t575).bind fun t576 => ((impl_Upper.f t567).bind fun t577 => (if t576.toList = t577.toList then ((impl_Upper.f t567).bind fun t578 => (if (t578.size : Int) = (t567.size : Int) then ((laws_cells.f kj5).bind fun t579 => (some t579)) else (some false))) else (some false))))) else (some false))) else (some false))) else (some false))) else (some false))))) = some true := by rw [if_neg (show ¬ (false = true) by decide)] at H; exact H
          clear H
          have H := H1
          clear H1
          replace H := Option.bind_eq_some_iff.mp H
          obtain ⟨t567, A120, H⟩ := H
          replace H : ((spec_DrawSubText.f kj5 l0).bind fun bt568 => ((impl_SubText.f kj5 bt568.1 bt568.2.1 bt568.2.2).bind fun t571 => (if (t571.size : Int) ≤ (bt568.1.size : Int) then ((impl_SubText.f kj5 bt568.1 1 (bt568.1.size : Int)).bind fun t572 => (if t572.toList = bt568.1.toList then ((impl_SubText.f kj5 bt568.1 1 9000000000000).bind fun t573 => (if t573.toList = bt568.1.toList then ((spec_SubText.f kj5 bt568.1 bt568.2.1 bt568.2.2).bind fun t574 => (if t571.toList = t574.toList then ((impl_Upper.f t567).bind fun t575 => ((impl_Upper.f t575).bind fun t576 => ((impl_Upper.f t567).bind fun t577 => (if t576.toList = t577.toList then ((impl_Upper.f t567).bind fun t578 => (if (t578.size : Int) = (t567.size : Int) then ((laws_cells.f kj5).bind fun t579 => (some t579)) else (some false))) else (some false))))) else (some false))) else (some false))) else (some false))) else (some false)))) = some true := H
          have A12 := Aside0.mk A120
          clear A120
          replace H := Option.bind_eq_some_iff.mp H
          obtain ⟨⟨t568, t569, t570⟩, A130, H⟩ := H
          replace H : ((impl_SubText.f kj5 t568 t569 t570).bind fun t571 => (if (t571.size : Int) ≤ (t568.size : Int) then ((impl_SubText.f kj5 t568 1 (t568.size : Int)).bind fun t572 => (if t572.toList = t568.toList then ((impl_SubText.f kj5 t568 1 9000000000000).bind fun t573 => (if t573.toList = t568.toList then ((spec_SubText.f kj5 t568 t569 t570).bind fun t574 => (if t571.toList = t574.toList then ((impl_Upper.f t567).bind fun t575 => ((impl_Upper.f t575).bind fun t576 => ((impl_Upper.f t567).bind fun t577 => (if t576.toList = t577.toList then ((impl_Upper.f t567).bind fun t578 => (if (t578.size : Int) = (t567.size : Int) then ((laws_cells.f kj5).bind fun t579 => (some t579)) else (some false))) else (some false))))) else (some false))) else (some false))) else (some false))) else (some false))) = some true := H
          have A13 := Aside0.mk A130
          clear A130
          replace H := Option.bind_eq_some_iff.mp H
          obtain ⟨t571, A140, H⟩ := H
          replace H : (if (t571.size : Int) ≤ (t568.size : Int) then ((impl_SubText.f kj5 t568 1 (t568.size : Int)).bind fun t572 => (if t572.toList = t568.toList then ((impl_SubText.f kj5 t568 1 9000000000000).bind fun t573 => (if t573.toList = t568.toList then ((spec_SubText.f kj5 t568 t569 t570).bind fun t574 => (if t571.toList = t574.toList then ((impl_Upper.f t567).bind fun t575 => ((impl_Upper.f t575).bind fun t576 => ((impl_Upper.f t567).bind fun t577 => (if t576.toList = t577.toList then ((impl_Upper.f t567).bind fun t578 => (if (t578.size : Int) = (t567.size : Int) then ((laws_cells.f kj5).bind fun t579 => (some t579)) else (some false))) else (some false))))) else (some false))) else (some false))) else (some false))) else (some false)) = some true := H
          have A14 := Aside0.mk A140
          clear A140
          by_cases c15 : (t571.size : Int) ≤ (t568.size : Int)
          · rw [if_pos c15] at H
            have c15b0 : decide ((t571.size : Int) ≤ (t568.size : Int)) = true := decide_eq_true c15
            have c15b1 : decide (t571.size ≤ t568.size) = true := decide_eq_true (Int.ofNat_le.mp c15)
            clear c15
            replace H := Option.bind_eq_some_iff.mp H
            obtain ⟨t572, A160, H⟩ := H
            replace H : (if t572.toList = t568.toList then ((impl_SubText.f kj5 t568 1 9000000000000).bind fun t573 => (if t573.toList = t568.toList then ((spec_SubText.f kj5 t568 t569 t570).bind fun t574 => (if t571.toList = t574.toList then ((impl_Upper.f t567).bind fun t575 => ((impl_Upper.f t575).bind fun t576 => ((impl_Upper.f t567).bind fun t577 => (if t576.toList = t577.toList then ((impl_Upper.f t567).bind fun t578 => (if (t578.size : Int) = (t567.size : Int) then ((laws_cells.f kj5).bind fun t579 => (some t579)) else (some false))) else (some false))))) else (some false))) else (some false))) else (some false)) = some true := H
            have A16 := Aside0.mk A160
            clear A160
            by_cases c17 : t572.toList = t568.toList
            · rw [if_pos c17] at H
              have c17b0 : (t572.toList == t568.toList) = true := beq_iff_eq.mpr c17
              have c17b1 : (t572.toList != t568.toList) = false := bne_eq_false_iff_eq.mpr c17
              clear c17
              replace H := Option.bind_eq_some_iff.mp H
              obtain ⟨t573, A180, H⟩ := H
              replace H : (if t573.toList = t568.toList then ((spec_SubText.f kj5 t568 t569 t570).bind fun t574 => (if t571.toList = t574.toList then ((impl_Upper.f t567).bind fun t575 => ((impl_Upper.f t575).bind fun t576 => ((impl_Upper.f t567).bind fun t577 => (if t576.toList = t577.toList then ((impl_Upper.f t567).bind fun t578 => (if (t578.size : Int) = (t567.size : Int) then ((laws_cells.f kj5).bind fun t579 => (some t579)) else (some false))) else (some false))))) else (some false))) else (some false)) = some true := H
              have A18 := Aside0.mk A180
              clear A180
              by_cases c19 : t573.toList = t568.toList
              · rw [if_pos c19] at H
                have c19b0 : (t573.toList == t568.toList) = true := beq_iff_eq.mpr c19
                have c19b1 : (t573.toList != t568.toList) = false := bne_eq_false_iff_eq.mpr c19
                clear c19
                replace H := Option.bind_eq_some_iff.mp H
                obtain ⟨t574, A200, H⟩ := H
                replace H : (if t571.toList = t574.toList then ((impl_Upper.f t567).bind fun t575 => ((impl_Upper.f t575).bind fun t576 => ((impl_Upper.f t567).bind fun t577 => (if t576.toList = t577.toList then ((impl_Upper.f t567).bind fun t578 => (if (t578.size : Int) = (t567.size : Int) then ((laws_cells.f kj5).bind fun t579 => (some t579)) else (some false))) else (some false))))) else (some false)) = some true := H
                have A20 := Aside0.mk A200
                clear A200
                by_cases c21 : t571.toList = t574.toList
                · rw [if_pos c21] at H
                  have c21b0 : (t571.toList == t574.toList) = true := beq_iff_eq.mpr c21
                  have c21b1 : (t571.toList != t574.toList) = false := bne_eq_false_iff_eq.mpr c21
                  clear c21
                  replace H := Option.bind_eq_some_iff.mp H
                  obtain ⟨t575, A220, H⟩ := H
                  replace H : ((impl_Upper.f t575).bind fun t576 => ((impl_Upper.f t567).bind fun t577 => (if t576.toList = t577.toList then ((impl_Upper.f t567).bind fun t578 => (if (t578.size : Int) = (t567.size : Int) then ((laws_cells.f kj5).bind fun t579 => (some t579)) else (some false))) else (some false)))) = some true := H
                  have A22 := Aside0.mk A220
                  clear A220
                  replace H := Option.bind_eq_some_iff.mp H
                  obtain ⟨t576, A230, H⟩ := H
                  replace H : ((impl_Upper.f t567).bind fun t577 => (if t576.toList = t577.toList then ((impl_Upper.f t567).bind fun t578 => (if (t578.size : Int) = (t567.size : Int) then ((laws_cells.f kj5).bind fun t579 => (some t579)) else (some false))) else (some false))) = some true := H
                  have A23 := Aside0.mk A230
                  clear A230
                  replace H := Option.bind_eq_some_iff.mp H
                  obtain ⟨t577, A240, H⟩ := H
                  replace H : (if t576.toList = t577.toList then ((impl_Upper.f t567).bind fun t578 => (if (t578.size : Int) = (t567.size : Int) then ((laws_cells.f kj5).bind fun t579 => (some t579)) else (some false))) else (some false)) = some true := H
                  have A24 := Aside0.mk A240
                  clear A240
                  obtain rfl : t575 = t577 := Option.some.inj (A22.out.symm.trans A24.out)
                  by_cases c25 : t576.toList = t575.toList
                  · rw [if_pos c25] at H
                    have c25b0 : (t576.toList == t575.toList) = true := beq_iff_eq.mpr c25
                    have c25b1 : (t576.toList != t575.toList) = false := bne_eq_false_iff_eq.mpr c25
                    clear c25
                    replace H := Option.bind_eq_some_iff.mp H
                    obtain ⟨t578, A260, H⟩ := H
                    replace H : (if (t578.size : Int) = (t567.size : Int) then ((laws_cells.f kj5).bind fun t579 => (some t579)) else (some false)) = some true := H
                    have A26 := Aside0.mk A260
                    clear A260
                    obtain rfl : t575 = t578 := Option.some.inj (A22.out.symm.trans A26.out)
                    by_cases c27 : (t575.size : Int) = (t567.size : Int)
                    · rw [if_pos c27] at H
                      have c27b0 : ((t575.size : Int) == (t567.size : Int)) = true := beq_iff_eq.mpr c27
                      have c27b1 : ((t575.size : Int) != (t567.size : Int)) = false := bne_eq_false_iff_eq.mpr c27
                      have c27b2 : (t575.size == t567.size) = true := by first | simpa using c27 | (simp at c27 ⊢; omega)
                      clear c27
                      replace H := Option.bind_eq_some_iff.mp H
                      obtain ⟨t579, A280, H⟩ := H
                      replace H : (some t579) = some true := H
                      have A28 := Aside0.mk A280
                      clear A280
                      have HOR_ := Aside0.mk (Option.some.inj H)
                      clear H
                      go_wp2_with (first | ((with_reducible refine gate_callee (f := 31) rfl ?_); refine goesL_ (some 36) rfl rfl Tryd.func31 (by kernel_rfl) rfl #[.slice A0 l0.length c0] rfl (by (try simp only [List.map_toArray, List.map_cons, List.map_nil]); first | done | rfl | (simp only [List.length_drop, List.length_take]; rfl)) ?_; (with_reducible refine (spec_DrawUpper.calls kj5 _ _ l0 t567 _ ?side1 ?side2 A12.out).mono ?_); (case side1 => repeat (first | exact (Kd.C_below HR0.out HB.out) | (with_reducible refine Kd.C_alloc ?_ _) | (with_reducible refine Kd.C_drewN ?_ _) | (with_reducible refine Kd.C_drew ?_))); (case side2 => exact HC0.out); rintro e w29 ⟨rfl, hb⟩; refine ⟨_, rfl, ?_⟩; have n0_ := Aside0.mk (below_step (by repeat (first | (with_reducible first | exact HB.out | apply below_alloc | apply pw_below_drewN | apply below_drew1) | exact HB.out)) hb); clear HB; have HB := n0_; clear n0_; (try clear hb); (try clear hb2); (try clear hk); (try clear hi)) | ((with_reducible refine gate_callee (f := 32) rfl ?_); refine goesL_ (some 39) rfl rfl Tryd.func32 (by kernel_rfl) rfl #[.slice A0 l0.length c0] rfl (by (try simp only [List.map_toArray, List.map_cons, List.map_nil]); first | done | rfl | (simp only [List.length_drop, List.length_take]; rfl)) ?_; (with_reducible refine (spec_DrawSubText.calls kj5 _ _ l0 t568 t569 t570 _ ?side1 ?side2 A13.out).mono ?_); (case side1 => repeat (first | exact (Kd.C_below HR0.out HB.out) | (with_reducible refine Kd.C_alloc ?_ _) | (with_reducible refine Kd.C_drewN ?_ _) | (with_reducible refine Kd.C_drew ?_))); (case side2 => exact HC0.out); rintro e w30 ⟨rfl, hb⟩; refine ⟨_, rfl, ?_⟩; have n0_ := Aside0.mk (below_step (by repeat (first | (with_reducible first | exact HB.out | apply below_alloc | apply pw_below_drewN | apply below_drew1) | exact HB.out)) hb); clear HB; have HB := n0_; clear n0_; (try clear hb); (try clear hb2); (try clear hk); (try clear hi)) | ((with_reducible refine gate_callee (f := 30) rfl ?_); refine goesL_ (some 46) rfl rfl Tryd.func30 (by kernel_rfl) rfl #[.string t568, .int .i64 t569, .int .i64 t570] rfl (by (try simp only [List.map_toArray, List.map_cons, List.map_nil]); first | done | rfl | (simp only [List.length_drop, List.length_take]; rfl)) ?_; (with_reducible refine (impl_SubText.calls kj5 t568 t569 t570 t571 _ A14.out).mono ?_); rintro e w31 ⟨rfl, hb⟩; refine ⟨_, rfl, ?_⟩; have n0_ := Aside0.mk (below_step (by repeat (first | (with_reducible first | exact HB.out | apply below_alloc | apply pw_below_drewN | apply below_drew1) | exact HB.out)) hb); clear HB; have HB := n0_; clear n0_; (try clear hb); (try clear hb2); (try clear hk); (try clear hi)) | (go_at_call 30; (with_reducible refine (impl_SubText.calls kj5 t568 1 (t568.size : Int) t572 _ A16.out).mono ?_); rintro e w32 ⟨rfl, hb⟩; have n0_ := Aside0.mk (below_step (by repeat (first | (with_reducible first | exact HB.out | apply below_alloc | apply pw_below_drewN | apply below_drew1) | exact HB.out)) hb); clear HB; have HB := n0_; clear n0_; (try clear hb); (try clear hb2); (try clear hk); (try clear hi)) | (go_at_call 30; (with_reducible refine (impl_SubText.calls kj5 t568 1 9000000000000 t573 _ A18.out).mono ?_); rintro e w33 ⟨rfl, hb⟩; have n0_ := Aside0.mk (below_step (by repeat (first | (with_reducible first | exact HB.out | apply below_alloc | apply pw_below_drewN | apply below_drew1) | exact HB.out)) hb); clear HB; have HB := n0_; clear n0_; (try clear hb); (try clear hb2); (try clear hk); (try clear hi)) | (go_at_call 33; (with_reducible refine (spec_SubText.calls kj5 t568 t569 t570 t574 _ A20.out).mono ?_); rintro e w34 ⟨rfl, hb⟩; have n0_ := Aside0.mk (below_step (by repeat (first | (with_reducible first | exact HB.out | apply below_alloc | apply pw_below_drewN | apply below_drew1) | exact HB.out)) hb); clear HB; have HB := n0_; clear n0_; (try clear hb); (try clear hb2); (try clear hk); (try clear hi)) | (go_at_call 34; (with_reducible refine (impl_Upper.calls t567 t575 _ A22.out).mono ?_); rintro e w35 ⟨rfl, hb⟩; have n0_ := Aside0.mk (below_step (by repeat (first | (with_reducible first | exact HB.out | apply below_alloc | apply pw_below_drewN | apply below_drew1) | exact HB.out)) hb); clear HB; have HB := n0_; clear n0_; (try clear hb); (try clear hb2); (try clear hk); (try clear hi)) | (go_at_call 34; (with_reducible refine (impl_Upper.calls t575 t576 _ A23.out).mono ?_); rintro e w36 ⟨rfl, hb⟩; have n0_ := Aside0.mk (below_step (by repeat (first | (with_reducible first | exact HB.out | apply below_alloc | apply pw_below_drewN | apply below_drew1) | exact HB.out)) hb); clear HB; have HB := n0_; clear n0_; (try clear hb); (try clear hb2); (try clear hk); (try clear hi)) | (go_at_call 34; (with_reducible refine (impl_Upper.calls t567 t575 _ A24.out).mono ?_); rintro e w37 ⟨rfl, hb⟩; have n0_ := Aside0.mk (below_step (by repeat (first | (with_reducible first | exact HB.out | apply below_alloc | apply pw_below_drewN | apply below_drew1) | exact HB.out)) hb); clear HB; have HB := n0_; clear n0_; (try clear hb); (try clear hb2); (try clear hk); (try clear hi)) | (go_at_call 34; (with_reducible refine (impl_Upper.calls t567 t575 _ A26.out).mono ?_); rintro e w38 ⟨rfl, hb⟩; have n0_ := Aside0.mk (below_step (by repeat (first | (with_reducible first | exact HB.out | apply below_alloc | apply pw_below_drewN | apply below_drew1) | exact HB.out)) hb); clear HB; have HB := n0_; clear n0_; (try clear hb); (try clear hb2); (try clear hk); (try clear hi)) | (go_at_call 18; (with_reducible refine (laws_cells.calls kj5  t579 _ A28.out).mono ?_); rintro e w39 ⟨rfl, hb⟩; have n0_ := Aside0.mk (below_step (by repeat (first | (with_reducible first | exact HB.out | apply below_alloc | apply pw_below_drewN | apply below_drew1) | exact HB.out)) hb); clear HB; have HB := n0_; clear n0_; (try clear hb); (try clear hb2); (try clear hk); (try clear hi)))
                      go_ret
                      exact ⟨by first | rfl | (rw [HOR_.out]; done) | (rw [HOR_.out]; rfl) | (simp [HOR_.out]; done) | (have h_ := HOR_.out; simp at h_; subst h_; first | rfl | (simp; done)) | (have h_ := HOR_.out; simp at h_ ⊢; exact h_) | (simp [errW_none, errW_some] <;> rfl) | (simp [*, errW_none, errW_some] <;> rfl), by repeat (first | (with_reducible first | exact HB.out | apply below_alloc | apply pw_below_drewN | apply below_drew1) | exact HB.out)⟩
                    · rw [if_neg c27] at H
                      have c27b0 : ((t575.size : Int) == (t567.size : Int)) = false := beq_eq_false_iff_ne.mpr c27
                      have c27b1 : ((t575.size : Int) != (t567.size : Int)) = true := bne_iff_ne.mpr c27
                      have c27b2 : (t575.size == t567.size) = false := by first | simpa using c27 | (simp at c27 ⊢; omega)
                      exact absurd H (by simp)
                  · rw [if_neg c25] at H
                    have c25b0 : (t576.toList == t575.toList) = false := beq_eq_false_iff_ne.mpr c25
                    have c25b1 : (t576.toList != t575.toList) = true := bne_iff_ne.mpr c25
                    exact absurd H (by simp)
                · rw [if_neg c21] at H
                  have c21b0 : (t571.toList == t574.toList) = false := beq_eq_false_iff_ne.mpr c21
                  have c21b1 : (t571.toList != t574.toList) = true := bne_iff_ne.mpr c21
                  exact absurd H (by simp)
              · rw [if_neg c19] at H
                have c19b0 : (t573.toList == t568.toList) = false := beq_eq_false_iff_ne.mpr c19
                have c19b1 : (t573.toList != t568.toList) = true := bne_iff_ne.mpr c19
                exact absurd H (by simp)
            · rw [if_neg c17] at H
              have c17b0 : (t572.toList == t568.toList) = false := beq_eq_false_iff_ne.mpr c17
              have c17b1 : (t572.toList != t568.toList) = true := bne_iff_ne.mpr c17
              exact absurd H (by simp)
          · rw [if_neg c15] at H
            have c15b0 : decide ((t571.size : Int) ≤ (t568.size : Int)) = false := decide_eq_false c15
            have c15b1 : decide (t571.size ≤ t568.size) = false := decide_eq_false (fun h => c15 (Int.ofNat_le.mpr h))
            clear c15
            exact absurd H (by simp)
  · rw [if_neg c5] at H
    have c5b0 : (t564 == t565) = false := beq_eq_false_iff_ne.mpr c5
    have c5b1 : (t564 != t565) = true := bne_iff_ne.mpr c5
    exact absurd H (by simp)
/-- THE ONE PURE STATEMENT of laws_FnTexts: yours. -/
def laws_FnTexts.Pure : Prop := ∀ (l0 : List Int), l0.length ≤ maxLen → l0.length * 1 ≤ 140737488351232 → (∀ x ∈ l0, (Lit.int .u8 x).wf = true) → ∃ k, laws_FnTexts.f k l0 = some true
end Go.Proofs.YtnfiljnncpieoaaDoor.Q
namespace Go.Proofs.YtnfiljnncpieoaaDoor.Pure
open Go Go.RowKit Go.Proofs.YtnfiljnncpieoaaDoor.Q Go.Proofs.YtnfiljnncpieoaaDoorW.PrintWords Go.Proofs.YtnfiljnncpieoaaDoorW.PrintLast Go.Proofs.YtnfiljnncpieoaaDoorW.PrintMore
theorem and255 (x : Int) : 0 ≤ Go.bits .and .i64 x 255 ∧ Go.bits .and .i64 x 255 ≤ 255 := by
  have h : ((BitVec.ofInt 64 x) &&& (BitVec.ofInt 64 255)).toNat ≤ 255 := by
    rw [BitVec.toNat_and]
    exact Nat.and_le_right
  have e : Go.bits .and .i64 x 255 = IntKind.i64.wrap (((BitVec.ofInt 64 x) &&& (BitVec.ofInt 64 255)).toNat : Int) := rfl
  rw [e, IntKind.wrap_i64]
  omega
/-- One byte of the cursor. -/
theorem l1Byte_some (b : List Int) (i h : Int) (hi : 0 ≤ i) (hb : b.length ≤ 9223372036854775807) : ∃ r i' h', spec_l1Byte.f b i h = some (r, i', h') ∧ 0 ≤ i' ∧ 0 ≤ r ∧ r ≤ 255 := by
  unfold spec_l1Byte.f
  by_cases h1 : i < (b.length : Int)
  · rw [if_pos h1, if_pos hi]
    refine ⟨_, _, _, rfl, ?_, and255 _⟩
    unfold wrap64; omega
  · rw [if_neg h1]
    exact ⟨_, _, _, rfl, hi, and255 _⟩
/-- A number below n. -/
theorem l1Below_some (b : List Int) (i h n : Int) (hi : 0 ≤ i) (hb : b.length ≤ 9223372036854775807) : ∃ r i' h', spec_l1Below.f b i h n = some (r, i', h') ∧ 0 ≤ i' ∧ (n ≤ 0 → r = 0) ∧ (0 < n → n ≤ 256 → 0 ≤ r ∧ r < n) := by
  unfold spec_l1Below.f
  by_cases h0 : n ≤ 0
  · rw [if_pos h0]
    exact ⟨_, _, _, rfl, hi, fun _ => rfl, fun h => by omega⟩
  rw [if_neg h0]
  by_cases h1 : n ≤ 256
  · rw [if_pos h1]
    obtain ⟨r, i', h', e, hi', hr⟩ := l1Byte_some b i h hi hb
    rw [e, Option.bind_some, if_neg (by omega)]
    refine ⟨_, _, _, rfl, hi', fun h => by omega, fun _ _ => ?_⟩
    show 0 ≤ Int.tmod r n ∧ Int.tmod r n < n
    exact ⟨Int.tmod_nonneg _ hr.1, Int.tmod_lt_of_pos _ (by omega)⟩
  · rw [if_neg h1]
    obtain ⟨r1, i1, h1', e1, hi1, _⟩ := l1Byte_some b i h hi hb
    obtain ⟨r2, i2, h2', e2, hi2, _⟩ := l1Byte_some b i1 h1' hi1 hb
    obtain ⟨r3, i3, h3', e3, hi3, _⟩ := l1Byte_some b i2 h2' hi2 hb
    obtain ⟨r4, i4, h4', e4, hi4, _⟩ := l1Byte_some b i3 h3' hi3 hb
    rw [e1, Option.bind_some]
    dsimp only
    rw [e2, Option.bind_some]
    dsimp only
    rw [e3, Option.bind_some]
    dsimp only
    rw [e4, Option.bind_some, if_neg (by omega)]
    exact ⟨_, _, _, rfl, hi4, fun h => by omega, fun h h' => by omega⟩
theorem l1PickInt_some (b : List Int) (i h : Int) (l : List Int) (hi : 0 ≤ i) (hb : b.length ≤ 9223372036854775807) (hl : 0 < l.length) (hl2 : l.length ≤ 256) : ∃ r i' h', spec_l1PickInt.f b i h l = some (r, i', h') ∧ 0 ≤ i' ∧ r ∈ l := by
  unfold spec_l1PickInt.f
  obtain ⟨r, i', h', e, hi', _, hr⟩ := l1Below_some b i h (l.length : Int) hi hb
  obtain ⟨h1, h2⟩ := hr (by omega) (by omega)
  rw [e, Option.bind_some]
  dsimp only
  rw [if_pos h1, if_pos h2]
  refine ⟨_, _, _, rfl, hi', ?_⟩
  unfold rd
  rw [List.getD_eq_getElem?_getD, List.getElem?_eq_getElem (by omega)]
  exact List.getElem_mem _
theorem l1New_l0 (l : List Int) (hl : l.length ≤ 9223372036854775807) (d : Nat) : ∀ (i k : Nat) (h : Int), i ≤ l.length → l.length - i = d → d < k → ∃ h', spec_l1New.l0 k l h i = some (l, 0, h') := by
  induction d with
  | zero =>
    intro i k h hi hd hk
    obtain ⟨k, rfl⟩ : ∃ m, k = m + 1 := ⟨k - 1, by omega⟩
    simp only [spec_l1New.l0]; rw [if_neg (by omega)]
    exact ⟨_, rfl⟩
  | succ d ih =>
    intro i k h hi hd hk
    obtain ⟨k, rfl⟩ : ∃ m, k = m + 1 := ⟨k - 1, by omega⟩
    simp only [spec_l1New.l0]
    rw [if_pos (by omega)]
    by_cases c : (i : Int) < 4000
    · rw [if_pos c, if_pos (by omega)]
      have e : wrap64 ((i : Int) + 1) = ((i + 1 : Nat) : Int) := by unfold wrap64; omega
      rw [e]
      exact ih (i + 1) k _ (by omega) (by omega) (by omega)
    · rw [if_neg c]
      exact ⟨_, rfl⟩
theorem l1New_some (l : List Int) (hl : l.length ≤ 9223372036854775807) (k : Nat) (hk : l.length < k) : ∃ h, spec_l1New.f k l = some (l, 0, h) := by
  unfold spec_l1New.f
  exact l1New_l0 l hl l.length 0 k _ (by omega) (by omega) hk
theorem w64 {x : Int} (h0 : -9223372036854775808 ≤ x) (h1 : x ≤ 9223372036854775807) : wrap64 x = x := by unfold wrap64; omega
/-- The bytes of a text from a place on, as numbers. -/
def seg (s : ByteArray) (i : Nat) : Nat → List Int
  | 0 => []
  | m + 1 => bt s (i : Int) :: seg s (i + 1) m
theorem seg_length (s : ByteArray) (m : Nat) : ∀ i, (seg s i m).length = m := by
  induction m with
  | zero => intro i; rfl
  | succ m ih => intro i; simp [seg, ih]
theorem seg_snoc (s : ByteArray) (m : Nat) : ∀ i, seg s i (m + 1) = seg s i m ++ [bt s ((i + m : Nat) : Int)] := by
  induction m with
  | zero => intro i; rfl
  | succ m ih =>
    intro i
    rw [seg, ih (i + 1)]
    show _ = (bt s (i : Int) :: seg s (i + 1) m) ++ _
    rw [List.cons_append, show i + 1 + m = i + (m + 1) by omega]
theorem bytes_extract (s : ByteArray) (i m : Nat) (h : i + m ≤ s.size) : (s.extract i (i + m)).data.toList.map (fun b => (b.toNat : Int)) = seg s i m := by
  apply List.ext_getElem
  · rw [seg_length, List.length_map, Array.length_toList]
    have : (s.extract i (i + m)).size = m := by rw [ByteArray.size_extract]; omega
    exact this
  · intro j h1 h2
    rw [seg_length] at h2
    have e : ∀ (m i j : Nat) (h : j < (seg s i m).length), (seg s i m)[j] = bt s ((i + j : Nat) : Int) := by
      intro m
      induction m with
      | zero => intro i j h; simp [seg] at h
      | succ m ih =>
        intro i j h
        cases j with
        | zero => simp [seg]
        | succ j =>
          have h' : j < (seg s (i + 1) m).length := by simpa [seg] using h
          simp only [seg, List.getElem_cons_succ]
          rw [ih (i + 1) j h']
          congr 2; omega
    rw [e m i j (by rw [seg_length]; exact h2), bt_nat (by omega)]
    simp [ByteArray.data_extract]
    rfl
theorem bytes_seg (s : ByteArray) (i m : Nat) (h : i + m ≤ s.size) : bytesOf (s.extract i (i + m)) = seg s i m := bytes_extract s i m h
/-- It answers, and the answer is such. -/
def Dr {α : Type} (x : Option α) (P : α → Prop) : Prop := ∃ r, x = some r ∧ P r
theorem Dr.bind {α β : Type} {x : Option α} {P : α → Prop} {f : α → Option β} {R : β → Prop} (h : Dr x P) (g : ∀ r, P r → Dr (f r) R) : Dr (x.bind f) R := by
  obtain ⟨r, rfl, hp⟩ := h
  exact g r hp
theorem Dr.some {α : Type} {r : α} {P : α → Prop} (h : P r) : Dr (Option.some r) P := ⟨r, rfl, h⟩
theorem Dr.pos {α : Type} {c : Prop} [Decidable c] {x y : Option α} {P : α → Prop} (hc : c) (h : Dr x P) : Dr (if c then x else y) P := by rw [if_pos hc]; exact h
theorem Dr.ite {α : Type} {c : Prop} [Decidable c] {x y : Option α} {P : α → Prop} (h1 : c → Dr x P) (h2 : ¬ c → Dr y P) : Dr (if c then x else y) P := by
  by_cases hc : c
  · rw [if_pos hc]; exact h1 hc
  · rw [if_neg hc]; exact h2 hc
theorem Dr.mono {α : Type} {x : Option α} {P R : α → Prop} (h : Dr x P) (hr : ∀ r, P r → R r) : Dr x R := by
  obtain ⟨r, e, hp⟩ := h
  exact ⟨r, e, hr r hp⟩
end Go.Proofs.YtnfiljnncpieoaaDoor.Pure
namespace Go.Proofs.YtnfiljnncpieoaaDoor.Pure
open Go Go.RowKit Go.Proofs.YtnfiljnncpieoaaDoor.Q Go.Proofs.YtnfiljnncpieoaaDoorW.PrintWords Go.Proofs.YtnfiljnncpieoaaDoorW.PrintLast Go.Proofs.YtnfiljnncpieoaaDoorW.PrintMore
section
variable (b : List Int) (hb : b.length ≤ 9223372036854775807)
include hb
theorem below_dr (i h n : Int) (hi : 0 ≤ i) (hn : 0 < n) (hn2 : n ≤ 256) : Dr (spec_l1Below.f b i h n) (fun r => 0 ≤ r.2.1 ∧ 0 ≤ r.1 ∧ r.1 < n) := by
  obtain ⟨r, i', h', e, hi', _, hr⟩ := l1Below_some b i h n hi hb
  exact ⟨_, e, hi', hr hn hn2⟩
theorem of_l0 (n : Nat) (set : ByteArray) (h0 : 0 < set.size) (h1 : set.size ≤ 256) (hn : n ≤ 1000) (d : Nat) : ∀ (j k : Nat) (x : List Int) (i h : Int), 0 ≤ i → j + d = n → d < k → x.length = j →
    Dr (spec_l1of.l0 k (n : Int) set x (j : Int) b i h) (fun r => r.1.size = n ∧ 0 ≤ r.2.1 ∧ ∃ y, r.1 = strOfNums (x ++ y) ∧ ∀ c ∈ y, ∃ q : Nat, q < set.size ∧ c = bt set q) := by
  induction d with
  | zero =>
    intro j k x i h hi hj hk hx
    obtain ⟨k, rfl⟩ : ∃ m, k = m + 1 := ⟨k - 1, by omega⟩
    simp only [spec_l1of.l0]
    rw [if_neg (by omega)]
    exact Dr.some ⟨by rw [strOfNums_size]; omega, hi, [], by simp, by simp⟩
  | succ d ih =>
    intro j k x i h hi hj hk hx
    obtain ⟨k, rfl⟩ : ∃ m, k = m + 1 := ⟨k - 1, by omega⟩
    simp only [spec_l1of.l0]
    rw [if_pos (by omega)]
    refine Dr.bind (below_dr b hb i h (set.size : Int) hi (by omega) (by omega)) ?_
    rintro ⟨r, i', h'⟩ ⟨hi', hr0, hr1⟩
    dsimp only at hi' hr0 hr1 ⊢
    refine Dr.pos hr0 (Dr.pos hr1 (Dr.pos (by omega) ?_))
    rw [w64 (by omega) (by omega), show (j : Int) + 1 = ((j + 1 : Nat) : Int) by omega]
    refine (ih (j + 1) k (x ++ [bt set r]) i' h' hi' (by omega) (by omega) (by simp [hx])).mono ?_
    rintro ⟨s, i2, h2⟩ ⟨a1, a2, y, a3, a4⟩
    refine ⟨a1, a2, bt set r :: y, by rw [a3, List.append_assoc]; rfl, fun c hc => ?_⟩
    rcases List.mem_cons.1 hc with rfl | hc
    · obtain ⟨q, rfl⟩ := Int.eq_ofNat_of_zero_le hr0
      exact ⟨q, by omega, rfl⟩
    · exact a4 c hc
theorem of_dr (k n : Nat) (i h : Int) (set : ByteArray) (hi : 0 ≤ i) (h0 : 0 < set.size) (h1 : set.size ≤ 256) (hn : n ≤ 1000) (hk : n < k) :
    Dr (spec_l1of.f k b i h (n : Int) set) (fun r => r.1.size = n ∧ 0 ≤ r.2.1 ∧ ∃ y, r.1 = strOfNums y ∧ ∀ c ∈ y, ∃ q : Nat, q < set.size ∧ c = bt set q) := by
  unfold spec_l1of.f
  refine (of_l0 b hb n set h0 h1 hn n 0 k [] i h hi (by omega) (by omega) rfl).mono ?_
  rintro ⟨s, i2, h2⟩ ⟨a1, a2, y, a3, a4⟩
  exact ⟨a1, a2, y, by simpa using a3, a4⟩
/-- How many of a set: a number drawn below m. -/
theorem of_dr' (k : Nat) (n : Int) (i h : Int) (set : ByteArray) (hi : 0 ≤ i) (h0 : 0 < set.size) (h1 : set.size ≤ 256) (hn0 : 0 ≤ n) (hn : n ≤ 1000) (hk : 1001 ≤ k) :
    Dr (spec_l1of.f k b i h n set) (fun r => (r.1.size : Int) = n ∧ 0 ≤ r.2.1) := by
  obtain ⟨m, rfl⟩ := Int.eq_ofNat_of_zero_le hn0
  refine (of_dr b hb k m i h set hi h0 h1 (by omega) (by omega)).mono ?_
  rintro ⟨s, i2, h2⟩ ⟨a1, a2, _⟩
  exact ⟨by dsimp only at a1 ⊢; omega, a2⟩
theorem new_dr (k : Nat) (hk : b.length < k) : Dr (spec_l1New.f k b) (fun r => r.1 = b ∧ r.2.1 = 0) := by
  obtain ⟨h, e⟩ := l1New_some b hb k hk
  exact ⟨_, e, rfl, rfl⟩
end
end Go.Proofs.YtnfiljnncpieoaaDoor.Pure
namespace Go.Proofs.YtnfiljnncpieoaaDoor.Pure
open Go Go.RowKit Go.Proofs.YtnfiljnncpieoaaDoor.Q Go.Proofs.YtnfiljnncpieoaaDoorW.PrintWords Go.Proofs.YtnfiljnncpieoaaDoorW.PrintLast Go.Proofs.YtnfiljnncpieoaaDoorW.PrintMore
theorem cells_true (k : Nat) (hk : 100 ≤ k) : laws_cells.f k = some true := at_rounds (g := fun k => laws_cells.f k) (fun k => laws_cells.mono k) hk (by decide +kernel)
theorem nums_back (s : ByteArray) : strOfNums (bytesOf s) = s := by
  apply ByteArray.ext
  apply Array.ext'
  rw [strOfNums_data]
  unfold bytesOf
  rw [List.map_map]
  conv => rhs; rw [← List.map_id s.data.toList]
  apply List.map_congr_left
  intro c _
  simp
theorem bytes_nums (l : List Int) (h : ∀ c ∈ l, 0 ≤ c ∧ c ≤ 255) : bytesOf (strOfNums l) = l := by
  unfold bytesOf
  rw [strOfNums_data, List.map_map]
  conv => rhs; rw [← List.map_id l]
  apply List.map_congr_left
  intro c hc
  have := h c hc
  show ((UInt8.ofNat c.toNat).toNat : Int) = c
  rw [UInt8.toNat_ofNat']; omega
theorem bytes_range (s : ByteArray) : ∀ c ∈ bytesOf s, 0 ≤ c ∧ c ≤ 255 := by
  intro c hc
  unfold bytesOf at hc
  obtain ⟨b, _, rfl⟩ := List.mem_map.1 hc
  have := b.toNat_lt
  omega
theorem eq_of_list {a b : ByteArray} (h : a.toList = b.toList) : a = b := by
  rw [ByteArray.toList_eq, ByteArray.toList_eq] at h
  exact ByteArray.ext (Array.ext' h)
/-- Where a text stands in another, and that it stands there. -/
def idxV (s t : ByteArray) : Int := if t.toList = ([] : List UInt8) then 0 else Lib.index s.data.toList t.data.toList + 1
theorem implIndexOf_eq (s t : ByteArray) (hs : s.size ≤ 1000) : impl_IndexOf.f s t = some (idxV s t) := by
  unfold impl_IndexOf.f idxV
  by_cases c : t.toList = ([] : List UInt8)
  · rw [if_pos c, if_pos c]
  · rw [if_neg c, if_neg c]
    unfold strings_Index.f
    have h1 := Lib.index_ge s.data.toList t.data.toList
    have h2 : Lib.index s.data.toList t.data.toList ≤ 1000 := by
      have : ∀ l p : List UInt8, Lib.index l p ≤ l.length := by
        intro l p
        induction l with
        | nil => unfold Lib.index; split <;> simp
        | cons a l ih =>
          unfold Lib.index
          split
          · simp; omega
          · split
            · simp; omega
            · simp; omega
      have := this s.data.toList t.data.toList
      rw [Array.length_toList] at this
      have e : s.data.size = s.size := rfl
      omega
    rw [if_pos (by omega), Option.bind_some, w64 (by omega) (by omega)]
theorem specIndexOf_l0 (s t : ByteArray) (hs : s.size ≤ 1000) (hts : t.size ≤ 1000) (ht : t.toList ≠ ([] : List UInt8)) (d : Nat) : ∀ (i k : Nat), i + d = s.size + 1 → 2 * d + 2 < k → Lib.NoOcc s.data.toList t.data.toList i →
    ∃ r, spec_IndexOf.l0 k s t (i : Int) = some r ∧ r = Lib.index s.data.toList t.data.toList + 1 ∧ (r > 0 → ∃ j : Nat, r = (j : Int) + 1 ∧ j + t.size ≤ s.size ∧ (s.extract j (j + t.size)).toList = t.toList) := by
  have htd : t.data.toList ≠ [] := by rw [← ByteArray.toList_eq]; exact ht
  have hsl : s.data.toList.length = s.size := Array.length_toList ..
  have htl : t.data.toList.length = t.size := Array.length_toList ..
  have htp : 0 < t.size := by
    rw [← htl]; exact List.length_pos_iff.mpr htd
  induction d with
  | zero =>
    intro i k hi hk hN
    obtain ⟨k, rfl⟩ : ∃ m, k = m + 1 + 1 := ⟨k - 2, by omega⟩
    have hx := Lib.index_past htd hN (by omega)
    simp only [spec_IndexOf.l0]
    rw [if_neg ht, w64 (x := (s.size : Int) - i) (by omega) (by omega), decide_eq_false (by omega)]
    simp only [spec_IndexOf.j1]
    rw [if_neg (by decide)]
    exact ⟨0, rfl, by rw [hx]; rfl, fun h => by omega⟩
  | succ d ih =>
    intro i k hi hk hN
    obtain ⟨k, rfl⟩ : ∃ m, k = m + 1 + 1 := ⟨k - 2, by omega⟩
    simp only [spec_IndexOf.l0]
    rw [if_neg ht, w64 (x := (s.size : Int) - i) (by omega) (by omega)]
    by_cases c : i + t.size ≤ s.size
    · rw [decide_eq_true (by omega)]
      simp only [spec_IndexOf.j1]
      have e1 : wrap64 ((i : Int) + (t.size : Int)) = ((i + t.size : Nat) : Int) := by rw [w64 (by omega) (by omega)]; omega
      have e2 : wrap64 ((i : Int) + 1) = ((i + 1 : Nat) : Int) := by rw [w64 (by omega) (by omega)]; omega
      rw [if_pos trivial, if_pos (by omega), e1, if_pos (by omega), if_pos (by omega), Int.toNat_natCast, Int.toNat_natCast, e2]
      have hocc := Lib.occAt_iff_take s.data.toList t.data.toList i (by omega)
      have hex : (s.extract i (i + t.size)).toList = (s.data.toList.drop i).take t.data.toList.length := by
        rw [ByteArray.toList_eq, ByteArray.data_extract, Array.toList_extract, htl]
        simp [List.extract_eq_take_drop]
      by_cases c2 : (s.extract i (i + t.size)).toList = t.toList
      · rw [if_pos c2]
        have ho : Lib.occAt s.data.toList t.data.toList i = true := by
          rw [hocc, ← hex, c2, ByteArray.toList_eq]; simp
        have hx := Lib.index_hit hN (by omega) ho
        exact ⟨_, rfl, by rw [hx]; omega, fun _ => ⟨i, by omega, c, c2⟩⟩
      · rw [if_neg c2]
        have ho : Lib.occAt s.data.toList t.data.toList i = false := by
          rw [hocc, ← hex]
          rw [← ByteArray.toList_eq t]
          simpa using c2
        exact ih (i + 1) k (by omega) (by omega) (hN.succ ho)
    · rw [decide_eq_false (by omega)]
      simp only [spec_IndexOf.j1]
      rw [if_neg (by decide)]
      have hx := Lib.index_past htd hN (by omega)
      exact ⟨0, rfl, by rw [hx]; rfl, fun h => by omega⟩
theorem specIndexOf_eq (s t : ByteArray) (hs : s.size ≤ 1000) (hts : t.size ≤ 1000) (k : Nat) (hk : 2 * s.size + 5 < k) : spec_IndexOf.f k s t = some (idxV s t) ∧ (idxV s t > 0 → ∃ j : Nat, idxV s t = (j : Int) + 1 ∧ j + t.size ≤ s.size ∧ s.extract j (j + t.size) = t) := by
  unfold spec_IndexOf.f
  by_cases ht : t.toList = ([] : List UInt8)
  · have e : idxV s t = 0 := if_pos ht
    obtain ⟨k, rfl⟩ : ∃ m, k = m + 1 + 1 := ⟨k - 2, by omega⟩
    simp only [spec_IndexOf.l0]
    rw [if_pos ht]
    simp only [spec_IndexOf.j1]
    rw [if_neg (by decide), e]
    exact ⟨rfl, fun h => by omega⟩
  · obtain ⟨r, e1, e2, e3⟩ := specIndexOf_l0 s t hs hts ht (s.size + 1) 0 k (by omega) (by omega) (Lib.NoOcc.zero _ _)
    have e : idxV s t = r := by unfold idxV; rw [if_neg ht, e2]
    rw [e]
    refine ⟨e1, fun h => ?_⟩
    obtain ⟨j, h1, h2, h3⟩ := e3 h
    exact ⟨j, h1, h2, eq_of_list h3⟩
/-- The end of a part of a text, and the part. -/
def hiV (s : ByteArray) (from_ n : Int) : Int := if n = 9000000000000 then (s.size : Int) + 1 else if n ≤ 0 ∨ from_ > (s.size : Int) then 0 else mn ((s.size : Int) + 1) (from_ + n)
def loV (from_ : Int) : Int := mx from_ 1
def partV (s : ByteArray) (from_ n : Int) : ByteArray := if loV from_ ≥ hiV s from_ n then ⟨#[]⟩ else s.extract (loV from_ - 1).toNat (hiV s from_ n - 1).toNat
theorem hi_le (s : ByteArray) (f n : Int) : hiV s f n ≤ (s.size : Int) + 1 := by
  unfold hiV
  split
  · omega
  · split
    · omega
    · unfold mn; omega
theorem implSub_end (s : ByteArray) (f n hi : Int) (hs : s.size ≤ 1000) (hf0 : -10000 ≤ f) (hf1 : f ≤ 10000) (hh : hi = hiV s f n) (hh0 : -100000 ≤ hi) :
    (if (mx f 1) ≥ hi then (some (⟨#[]⟩ : ByteArray)) else (if 0 ≤ (wrap64 ((mx f 1) - 1)) then (if (wrap64 ((mx f 1) - 1)) ≤ (wrap64 (hi - 1)) then (if (wrap64 (hi - 1)) ≤ (s.size : Int) then (some (s.extract ((wrap64 ((mx f 1) - 1)) : Int).toNat ((wrap64 (hi - 1)) : Int).toNat)) else (none)) else (none)) else (none))) = some (partV s f n) := by
  have hle := hi_le s f n
  have hm : 1 ≤ mx f 1 ∧ mx f 1 ≤ 10000 := by unfold mx; omega
  unfold partV loV
  rw [← hh] at hle ⊢
  generalize mx f 1 = lo at *
  rw [w64 (x := lo - 1) (by omega) (by omega), w64 (x := hi - 1) (by omega) (by omega)]
  by_cases c : lo ≥ hi
  · rw [if_pos c, if_pos c]
  · rw [if_neg c, if_neg c, if_pos (by omega), if_pos (by omega), if_pos (by omega)]
theorem implSub_eq (s : ByteArray) (f n : Int) (hs : s.size ≤ 1000) (hf0 : -10000 ≤ f) (hf1 : f ≤ 10000) (hn0 : -10000 ≤ n) (hn1 : n ≤ 9000000000000) (k : Nat) (hk : 3 ≤ k) : impl_SubText.f k s f n = some (partV s f n) := by
  obtain ⟨k, rfl⟩ : ∃ m, k = m + 1 + 1 := ⟨k - 2, by omega⟩
  unfold impl_SubText.f
  have w1 : wrap64 ((s.size : Int) + 1) = (s.size : Int) + 1 := w64 (by omega) (by omega)
  rw [w1]
  by_cases c : n = 9000000000000
  · rw [if_pos c]
    exact implSub_end s f n ((s.size : Int) + 1) hs hf0 hf1 (by unfold hiV; rw [if_pos c]) (by omega)
  rw [if_neg c]
  have key : (if n ≤ 0 then (impl_SubText.j0 (k + 1 + 1) s f n (s.size : Int) ((s.size : Int) + 1) true) else (impl_SubText.j0 (k + 1 + 1) s f n (s.size : Int) ((s.size : Int) + 1) (decide (f > (s.size : Int))))) = impl_SubText.j0 (k + 1 + 1) s f n (s.size : Int) ((s.size : Int) + 1) (decide (n ≤ 0 ∨ f > (s.size : Int))) := by
    by_cases d : n ≤ 0
    · rw [if_pos d, decide_eq_true (Or.inl d)]
    · rw [if_neg d]; congr 1; simp [d]
  rw [key]
  simp only [impl_SubText.j0]
  by_cases d : n ≤ 0 ∨ f > (s.size : Int)
  · rw [if_pos (decide_eq_true d)]
    have hh : hiV s f n = 0 := by unfold hiV; rw [if_neg c, if_pos d]
    unfold partV loV
    rw [hh, if_pos (by unfold mx; omega)]
  · rw [if_neg (by simpa using d)]
    have hh : hiV s f n = mn ((s.size : Int) + 1) (f + n) := by unfold hiV; rw [if_neg c, if_neg d]
    rw [w64 (x := (s.size : Int) - f) (by omega) (by omega)]
    have key2 : ∀ b : Bool, (b = false → f + n > (s.size : Int)) → impl_SubText.j1 (k + 1) s f n (s.size : Int) ((s.size : Int) + 1) b = some (partV s f n) := by
      intro b hb
      simp only [impl_SubText.j1]
      cases b with
      | true =>
        rw [if_pos rfl, w1, w64 (x := f + n) (by omega) (by omega)]
        exact implSub_end s f n _ hs hf0 hf1 hh.symm (by unfold mn; omega)
      | false =>
        rw [if_neg (by decide)]
        exact implSub_end s f n ((s.size : Int) + 1) hs hf0 hf1 (by rw [hh]; have := hb rfl; unfold mn; omega) (by omega)
    by_cases g : f < 0
    · rw [if_pos g]; exact key2 true (fun h => by cases h)
    · rw [if_neg g]
      refine key2 _ (fun h => ?_)
      have := of_decide_eq_false h
      omega
theorem specSub_l0 (s : ByteArray) (f n : Int) (hs : s.size ≤ 1000) (hf0 : -10000 ≤ f) (hf1 : f ≤ 10000) (hn0 : -10000 ≤ n) (hn1 : n ≤ 9000000000000) (d : Nat) : ∀ (i k : Nat), 1 ≤ i → i + d = s.size + 1 → d < k →
    spec_SubText.l0 k s f n (seg s (loV f - 1).toNat (mn i (hiV s f n) - loV f).toNat) (i : Int) = some (strOfNums (seg s (loV f - 1).toNat (hiV s f n - loV f).toNat)) := by
  have hlo : 1 ≤ loV f ∧ f ≤ loV f ∧ (loV f = 1 ∨ loV f = f) := by unfold loV mx; omega
  have hle := hi_le s f n
  induction d with
  | zero =>
    intro i k h1 hi hk
    obtain ⟨k, rfl⟩ : ∃ m, k = m + 1 := ⟨k - 1, by omega⟩
    simp only [spec_SubText.l0]
    rw [if_neg (by omega)]
    have : mn i (hiV s f n) = hiV s f n := by unfold mn; omega
    rw [this]
  | succ d ih =>
    intro i k h1 hi hk
    obtain ⟨k, rfl⟩ : ∃ m, k = m + 1 := ⟨k - 1, by omega⟩
    have w1 : wrap64 ((i : Int) + 1) = ((i + 1 : Nat) : Int) := by rw [w64 (by omega) (by omega)]; omega
    have w2 : wrap64 ((i : Int) - 1) = ((i - 1 : Nat) : Int) := by rw [w64 (by omega) (by omega)]; omega
    have hsk : ∀ (h : ¬ (loV f ≤ i ∧ (i : Int) < hiV s f n)), seg s (loV f - 1).toNat (mn i (hiV s f n) - loV f).toNat = seg s (loV f - 1).toNat (mn ((i + 1 : Nat) : Int) (hiV s f n) - loV f).toNat := by
      intro h
      congr 1
      unfold mn; omega
    have hst : ∀ (h : loV f ≤ i ∧ (i : Int) < hiV s f n), seg s (loV f - 1).toNat (mn i (hiV s f n) - loV f).toNat ++ [bt s ((i - 1 : Nat) : Int)] = seg s (loV f - 1).toNat (mn ((i + 1 : Nat) : Int) (hiV s f n) - loV f).toNat := by
      intro h
      have e1 : (mn ((i + 1 : Nat) : Int) (hiV s f n) - loV f).toNat = (mn i (hiV s f n) - loV f).toNat + 1 := by unfold mn; omega
      rw [e1, seg_snoc]
      congr 4
      unfold mn; omega
    have hln : (seg s (loV f - 1).toNat (mn i (hiV s f n) - loV f).toNat).length < 140737488355328 := by
      rw [seg_length]; unfold mn; omega
    have hih := ih (i + 1) k (by omega) (by omega) (by omega)
    simp only [spec_SubText.l0]
    rw [if_pos (by omega), w1, w2]
    have hput : loV f ≤ i ∧ (i : Int) < hiV s f n → (if (0 : Int) ≤ ((i - 1 : Nat) : Int) then (if ((i - 1 : Nat) : Int) < (s.size : Int) then (if (seg s (loV f - 1).toNat (mn i (hiV s f n) - loV f).toNat).length < 140737488355328 then (spec_SubText.l0 k s f n (seg s (loV f - 1).toNat (mn i (hiV s f n) - loV f).toNat ++ [bt s ((i - 1 : Nat) : Int)]) ((i + 1 : Nat) : Int)) else (none)) else (none)) else (none)) = some (strOfNums (seg s (loV f - 1).toNat (hiV s f n - loV f).toNat)) := by
      intro h
      rw [if_pos (by omega), if_pos (by omega), if_pos hln, hst h]
      exact hih
    by_cases c1 : (i : Int) ≥ f
    · rw [if_pos c1]
      by_cases c2 : n = 9000000000000
      · rw [if_pos c2]
        have hh : hiV s f n = (s.size : Int) + 1 := if_pos c2
        exact hput ⟨by omega, by omega⟩
      · rw [if_neg c2]
        by_cases c3 : n > 0
        · rw [if_pos c3, w64 (x := (i : Int) - n) (by omega) (by omega)]
          have hh : hiV s f n = mn ((s.size : Int) + 1) (f + n) := by unfold hiV; rw [if_neg c2, if_neg (by omega)]
          by_cases c4 : (i : Int) - n < f
          · rw [if_pos c4]
            exact hput ⟨by omega, by rw [hh]; unfold mn; omega⟩
          · rw [if_neg c4, hsk (fun h => by have := h.2; rw [hh] at this; unfold mn at this; omega)]
            exact hih
        · rw [if_neg c3]
          have hh : hiV s f n = 0 := by unfold hiV; rw [if_neg c2, if_pos (by omega)]
          rw [hsk (fun h => by have := h.2; rw [hh] at this; omega)]
          exact hih
    · rw [if_neg c1, hsk (fun h => by omega)]
      exact hih
theorem specSub_eq (s : ByteArray) (f n : Int) (hs : s.size ≤ 1000) (hf0 : -10000 ≤ f) (hf1 : f ≤ 10000) (hn0 : -10000 ≤ n) (hn1 : n ≤ 9000000000000) (k : Nat) (hk : s.size + 1 < k) : spec_SubText.f k s f n = some (partV s f n) := by
  have hlo : 1 ≤ loV f ∧ f ≤ loV f := by unfold loV mx; omega
  have hle := hi_le s f n
  unfold spec_SubText.f
  have h := specSub_l0 s f n hs hf0 hf1 hn0 hn1 s.size 1 k (by omega) (by omega) (by omega)
  have e0 : (mn ((1 : Nat) : Int) (hiV s f n) - loV f).toNat = 0 := by unfold mn; omega
  rw [e0] at h
  refine h.trans ?_
  congr 1
  unfold partV
  by_cases c : loV f ≥ hiV s f n
  · rw [if_pos c, show (hiV s f n - loV f).toNat = 0 by omega]; rfl
  · rw [if_neg c]
    have e1 : (hiV s f n - 1).toNat = (loV f - 1).toNat + (hiV s f n - loV f).toNat := by omega
    rw [e1, ← bytes_seg s _ _ (by omega), nums_back]
theorem subV_le (s : ByteArray) (f n : Int) : (partV s f n).size ≤ s.size := by
  unfold partV
  split
  · exact Nat.zero_le _
  · rw [ByteArray.size_extract]; omega
theorem extract_all (s : ByteArray) : s.extract 0 s.size = s := by
  apply ByteArray.ext
  rw [ByteArray.data_extract]
  apply Array.ext'
  rw [Array.toList_extract]
  have h : s.data.toList.length = s.size := Array.length_toList ..
  rw [← h, List.extract_eq_take_drop, List.drop_zero, Nat.sub_zero, List.take_length]
theorem subV_all (s : ByteArray) (n : Int) (hn : n = (s.size : Int) ∨ n = 9000000000000) (hs : s.size ≤ 1000) : partV s 1 n = s := by
  have e1 : loV 1 = 1 := by unfold loV mx; omega
  by_cases c0 : s.size = 0
  · have e : s = ⟨#[]⟩ := ByteArray.ext (Array.eq_empty_of_size_eq_zero c0)
    have hle := hi_le s 1 n
    unfold partV
    rw [if_pos (by rw [e1]; omega), e]
  · have hh : hiV s 1 n = (s.size : Int) + 1 := by
      unfold hiV
      rcases hn with rfl | rfl
      · rw [if_neg (by omega), if_neg (by omega)]; unfold mn; omega
      · rw [if_pos rfl]
    unfold partV
    rw [hh, e1, if_neg (by omega)]
    rw [show ((1 : Int) - 1).toNat = 0 by omega, show ((s.size : Int) + 1 - 1).toNat = s.size by omega]
    exact extract_all s
theorem subV_at (s t : ByteArray) (j : Nat) (hj : j + t.size ≤ s.size) (hs : s.size ≤ 1000) (he : s.extract j (j + t.size) = t) (ht : 0 < t.size) : partV s ((j : Int) + 1) (t.size : Int) = t := by
  have e1 : loV ((j : Int) + 1) = (j : Int) + 1 := by unfold loV mx; omega
  have hh : hiV s ((j : Int) + 1) (t.size : Int) = (j : Int) + 1 + (t.size : Int) := by
    unfold hiV
    rw [if_neg (by omega), if_neg (by omega)]; unfold mn; omega
  unfold partV
  rw [e1, hh, if_neg (by omega), show ((j : Int) + 1 - 1).toNat = j by omega, show ((j : Int) + 1 + (t.size : Int) - 1).toNat = j + t.size by omega]
  exact he
/-- A text in capitals. -/
def upV (s : ByteArray) : ByteArray := strOfNums ((bytesOf s).map upB)
theorem upB_twice (c : Int) : upB (upB c) = upB c := by
  unfold upB
  by_cases h : 97 ≤ c ∧ c ≤ 122
  · rw [if_pos h, if_neg (by omega)]
  · rw [if_neg h, if_neg h]
theorem upV_size (s : ByteArray) : (upV s).size = s.size := by unfold upV; rw [strOfNums_size, List.length_map, bytesOf_length]
theorem upV_twice (s : ByteArray) : upV (upV s) = upV s := by
  have hb : bytesOf (upV s) = (bytesOf s).map upB := by
    unfold upV
    refine bytes_nums _ (fun c hc => ?_)
    obtain ⟨b, hb, rfl⟩ := List.mem_map.1 hc
    have := bytes_range s b hb
    unfold upB; split <;> omega
  have e : upV (upV s) = strOfNums ((bytesOf (upV s)).map upB) := rfl
  rw [e, hb, List.map_map]
  unfold upV
  congr 1
  apply List.map_congr_left
  intro c _
  exact upB_twice c
theorem implUpper_eq (s : ByteArray) (hs : s.size ≤ 1000) : impl_Upper.f s = some (upV s) := if_pos (by omega)
end Go.Proofs.YtnfiljnncpieoaaDoor.Pure
namespace Go.Proofs.YtnfiljnncpieoaaDoor.Pure
open Go Go.RowKit Go.Proofs.YtnfiljnncpieoaaDoor.Q Go.Proofs.YtnfiljnncpieoaaDoorW.PrintWords Go.Proofs.YtnfiljnncpieoaaDoorW.PrintLast Go.Proofs.YtnfiljnncpieoaaDoorW.PrintMore
section
variable (b : List Int) (hb : b.length ≤ 9223372036854775807)
include hb
theorem drawIndex_dr (k : Nat) (hk : b.length + 1001 ≤ k) : Dr (spec_DrawIndexOf.f k b) (fun r => r.1.size ≤ 20 ∧ r.2.size ≤ 20) := by
  unfold spec_DrawIndexOf.f
  refine Dr.bind (new_dr b hb k (by omega)) ?_
  rintro ⟨c, i, h⟩ ⟨rfl, rfl⟩
  have hk2 : c.length + 1001 ≤ k := hk
  clear hk
  dsimp only
  refine Dr.bind (below_dr c hb 0 h 12 (by omega) (by omega) (by omega)) ?_
  rintro ⟨r, i1, h1⟩ ⟨hi1, p, q⟩
  dsimp only at hi1 p q ⊢
  refine Dr.bind (of_dr' c hb k r i1 h1 _ hi1 (by decide) (by decide) p (by omega) (by omega)) ?_
  rintro ⟨s, i2, h2⟩ ⟨hs, hi2⟩
  dsimp only at hs hi2 ⊢
  refine Dr.bind (below_dr c hb i2 h2 4 hi2 (by omega) (by omega)) ?_
  rintro ⟨r3, i3, h3⟩ ⟨hi3, p3, q3⟩
  dsimp only at hi3 p3 q3 ⊢
  refine Dr.bind (of_dr' c hb k r3 i3 h3 _ hi3 (by decide) (by decide) p3 (by omega) (by omega)) ?_
  rintro ⟨s4, i4, h4⟩ ⟨hs4, hi4⟩
  dsimp only at hs4 ⊢
  exact Dr.some ⟨by dsimp only; omega, by dsimp only; omega⟩
theorem drawUpper_dr (k : Nat) (hk : b.length + 1001 ≤ k) : Dr (spec_DrawUpper.f k b) (fun r => r.size ≤ 20) := by
  unfold spec_DrawUpper.f
  refine Dr.bind (new_dr b hb k (by omega)) ?_
  rintro ⟨c, i, h⟩ ⟨rfl, rfl⟩
  have hk2 : c.length + 1001 ≤ k := hk
  clear hk
  dsimp only
  refine Dr.bind (below_dr c hb 0 h 12 (by omega) (by omega) (by omega)) ?_
  rintro ⟨r, i1, h1⟩ ⟨hi1, p, q⟩
  dsimp only at hi1 p q ⊢
  refine Dr.bind (of_dr' c hb k r i1 h1 _ hi1 (by decide) (by decide) p (by omega) (by omega)) ?_
  rintro ⟨s, i2, h2⟩ ⟨hs, hi2⟩
  dsimp only at hs ⊢
  exact Dr.some (by omega)
theorem drawSub_dr (k : Nat) (hk : b.length + 1001 ≤ k) : Dr (spec_DrawSubText.f k b) (fun r => r.1.size ≤ 20 ∧ (-10000 ≤ r.2.1 ∧ r.2.1 ≤ 10000) ∧ -10000 ≤ r.2.2 ∧ r.2.2 ≤ 9000000000000) := by
  unfold spec_DrawSubText.f
  refine Dr.bind (new_dr b hb k (by omega)) ?_
  rintro ⟨c, i, h⟩ ⟨rfl, rfl⟩
  have hk2 : c.length + 1001 ≤ k := hk
  clear hk
  dsimp only
  refine Dr.bind (below_dr c hb 0 h 9 (by omega) (by omega) (by omega)) ?_
  rintro ⟨r, i1, h1⟩ ⟨hi1, p, q⟩
  dsimp only at hi1 p q ⊢
  refine Dr.bind (of_dr' c hb k r i1 h1 _ hi1 (by decide) (by decide) p (by omega) (by omega)) ?_
  rintro ⟨s, i2, h2⟩ ⟨hs, hi2⟩
  dsimp only at hs hi2 ⊢
  refine Dr.bind (below_dr c hb i2 h2 14 hi2 (by omega) (by omega)) ?_
  rintro ⟨r3, i3, h3⟩ ⟨hi3, p3, q3⟩
  dsimp only at hi3 p3 q3 ⊢
  obtain ⟨n, i4, h4, e4, hi4, hm⟩ := l1PickInt_some c i3 h3 [0, 1, 2, 3, 20, (-1), 9000000000000] hi3 hb (by simp) (by simp)
  rw [e4, Option.bind_some, w64 (x := r3 - 3) (by omega) (by omega)]
  simp only [List.mem_cons, List.mem_nil_iff, or_false] at hm
  exact Dr.some ⟨by dsimp only; omega, by dsimp only; omega, by dsimp only; omega, by dsimp only; omega⟩
end
end Go.Proofs.YtnfiljnncpieoaaDoor.Pure
namespace Go.Proofs.YtnfiljnncpieoaaDoor.Pure
open Go Go.RowKit Go.Proofs.YtnfiljnncpieoaaDoor.Q Go.Proofs.YtnfiljnncpieoaaDoorW.PrintWords Go.Proofs.YtnfiljnncpieoaaDoorW.PrintLast Go.Proofs.YtnfiljnncpieoaaDoorW.PrintMore
theorem FnTexts : laws_FnTexts.Pure := by
  intro l0 hm hy hw
  have hl : l0.length ≤ 9223372036854775807 := hm
  obtain ⟨⟨s, t⟩, e, hs, ht⟩ := drawIndex_dr l0 hl (l0.length + 2000 + 1) (by omega)
  obtain ⟨u, e2, hu⟩ := drawUpper_dr l0 hl (l0.length + 2000) (by omega)
  obtain ⟨⟨x, f, n⟩, e3, hx, ⟨hf0, hf1⟩, hn0, hn1⟩ := drawSub_dr l0 hl (l0.length + 2000) (by omega)
  dsimp only at hs ht hx hf0 hf1 hn0 hn1
  refine ⟨l0.length + 2000 + 1, ?_⟩
  unfold laws_FnTexts.f
  rw [e, Option.bind_some]
  dsimp only
  obtain ⟨h1, h2⟩ := specIndexOf_eq s t (by omega) (by omega) (l0.length + 2000 + 1) (by omega)
  rw [implIndexOf_eq s t (by omega), Option.bind_some, h1, Option.bind_some, if_pos rfl]
  have hK := cells_true (l0.length + 2000) (by omega)
  have hbody : laws_FnTexts.j0 (l0.length + 2000 + 1) l0 false = some true := by
    simp only [laws_FnTexts.j0]
    rw [if_neg (by decide), e2, Option.bind_some, e3, Option.bind_some]
    dsimp only
    have hle := subV_le x f n
    rw [implSub_eq x f n (by omega) hf0 hf1 hn0 hn1 _ (by omega), Option.bind_some, if_pos (by omega), implSub_eq x 1 (x.size : Int) (by omega) (by omega) (by omega) (by omega) (by omega) _ (by omega), Option.bind_some, subV_all x _ (.inl rfl) (by omega), if_pos rfl,
      implSub_eq x 1 9000000000000 (by omega) (by omega) (by omega) (by omega) (by omega) _ (by omega), Option.bind_some, subV_all x _ (.inr rfl) (by omega), if_pos rfl, specSub_eq x f n (by omega) hf0 hf1 hn0 hn1 _ (by omega), Option.bind_some, if_pos rfl,
      implUpper_eq u (by omega), Option.bind_some, implUpper_eq (upV u) (by rw [upV_size]; omega), Option.bind_some, Option.bind_some, upV_twice, if_pos rfl, Option.bind_some, upV_size, if_pos rfl, hK, Option.bind_some]
  by_cases c : idxV s t > 0
  · rw [if_pos c]
    obtain ⟨j, g1, g2, g3⟩ := h2 c
    have htp : 0 < t.size := by
      rcases Nat.eq_zero_or_pos t.size with z | z
      · exfalso
        have : idxV s t = 0 := if_pos (by
          have hh : t.toList.length = t.size := by simp [ByteArray.toList_eq, Array.length_toList]
          exact List.eq_nil_of_length_eq_zero (by omega))
        omega
      · exact z
    rw [implSub_eq s (idxV s t) (t.size : Int) (by omega) (by omega) (by omega) (by omega) (by omega) _ (by omega), Option.bind_some, g1, subV_at s t j g2 (by omega) g3 htp]
    have hne : (t.toList != t.toList) = false := by simp
    rw [hne]
    exact hbody
  · rw [if_neg c]
    exact hbody
end Go.Proofs.YtnfiljnncpieoaaDoor.Pure
namespace Go.Proofs.YtnfiljnncpieoaaDoor.fnTexts
open Go.ChangeShapes Go.WideShapes Go.ChangeAt Go.RowKit
open Go.ChangeMaps (open_string shut_string)
open Go.Lib
open Go.Proofs.YtnfiljnncpieoaaDoorW.PrintWords
set_option linter.unusedVariables false
theorem own : ownKnob Tryd.prog.godebug = none := by kernel_rfl
theorem laidOut : laidOutB Tryd.prog = true := by kernel_rfl
def IsRow (k : IntKind) (w : World) (a : Option Addr) (len cap : Nat) (zs : List Int) : Prop :=
  (a = none ∧ len = 0 ∧ cap = 0 ∧ zs = []) ∨
  ∃ x, a = some x ∧ len ≤ cap ∧ cap ≤ maxLen ∧ zs.length = cap ∧ (∀ i, i < zs.length → w.cell? (x.add i) = some (.int k (zs.getD i 0))) ∧ ∀ n ∈ zs, (Lit.int k n).wf = true
set_option maxRecDepth 100000 in
theorem lifted (os : Os) (started : os.Started) (H : Type) (enc : TypeId × Value → H) :
    ReturnsInHanded {} Tryd.checked os 7 .any (fun w args => (Rows.fnTextsSpec.pre enc Tryd.prog Tryd.f7 [] false w args ∧ laidMetH Tryd.prog Rows.fnTextsRow.laid w) ∧ sizedMet enc Tryd.prog Tryd.f7 (OpenSpec.ofChange Rows.fnTextsSpec) false w args)
      (Rows.fnTextsSpec.post enc Tryd.prog Tryd.f7 false true false false) := by
  refine returnsInHanded_of_change_and_shaped_ytnfiljnncpieoaadoor (C := Tryd.checked) (X := fun w _ => laidMetH Tryd.prog Rows.fnTextsRow.laid w) (fun _ _ _ hh h => h.of_heap hh) own started (by kernel_rfl) Tryd.func7
    (ChangeSpec.witness_shaped (enc := enc) (C := Tryd.checked) (os := os) (X := fun w _ => laidMetH Tryd.prog Rows.fnTextsRow.laid w) false (World.laidAll Tryd.prog os Rows.fnTextsRow.laid) #[.slice none 0 0] 8 (World.laidAll_os _ _ _)
      (World.shaped_of_ZipB (by kernel_rfl) (by kernel_rfl)) (by kernel_rfl) (by kernel_rfl) (by kernel_rfl)
      (by rw [MakeChecks.laidMetH_plain _ _ _ (by kernel_rfl)]; exact laidMet_laidAll _ (by kernel_rfl) (by kernel_rfl))) ?_
  intro W base args ds gs before hval0 hW hcnd hsz0 hL hS _
  have hsz : (DataW.weightsEach Tryd.prog (Tryd.f7.params.toList ++ Rows.fnTextsSpec.plain.varTypes Tryd.prog) (ds ++ gs)).all (· ≤ reachBytes) = true := hsz0
  have hval : ∀ (j : Nat) t v, Tryd.f7.params[j]? = some t → args[j]? = some v → Value.okWide Tryd.prog W .any base t v := hval0
  have hW' := hW
  obtain ⟨p, q, hA0, hV, rfl, hfz, hnd⟩ := hW
  have hA : DataW.TrodAll enc Tryd.prog W 0 (fun _ => true) true Tryd.f7.params.toList args.toList ds p := hA0
  rw [Tryd.params7] at hA hval hsz
  obtain ⟨v0, vs0, d0, ds0, p0, q0, hargs, rfl, rfl, h0, r0⟩ := trodAll_cons hA
  obtain ⟨rfl, rfl, rfl⟩ := trodAll_nil r0
  obtain rfl : args = #[v0] := by cases args; simp_all
  obtain ⟨rfl, rfl⟩ := trodVars_none hV
  have k0 := h0
  have lt0 : ∀ x ∈ p0, x.block < W.heap.size := by obtain ⟨m, hm⟩ := k0; exact DataW.trod_lt m _ _ _ hm
  obtain ⟨a0, len0, cap0, rfl⟩ := okWide_slice Tryd.underlying31 (hval 0 31 v0 rfl rfl)
  obtain ⟨z0, w0⟩ : ∃ zs, IsRow .u8 W a0 len0 cap0 zs := by
    obtain ⟨fuel, hf⟩ := h0
    rcases open_ints Tryd.underlying31 Tryd.underlying5 (by kernel_rfl) hf with ⟨hcs, _⟩ | ⟨x, l, c, zs, hcs, _, hl, hm, hz, _, hcell, hwz⟩
    · simp [Value.cells] at hcs
      obtain ⟨rfl, rfl, rfl⟩ := hcs
      exact ⟨[], .inl ⟨rfl, rfl, rfl, rfl⟩⟩
    · simp [Value.cells] at hcs
      obtain ⟨rfl, rfl, rfl⟩ := hcs
      exact ⟨zs, .inr ⟨_, rfl, hl, hm, by simpa using hz, hcell, hwz⟩⟩
  have y0 : len0 * 1 ≤ 140737488351232 := Go.Proofs.YtnfiljnncpieoaaDoorW.PrintWords.sized_ints hsz (j := 0) (t := 31) rfl rfl Tryd.underlying31 Tryd.underlying5 (by kernel_rfl) (by kernel_rfl) h0
  obtain ⟨l0, rfl, hr0, hm0, hw0, hc0⟩ := ReadsInt.ofRowC w0
  clear hA0 hval0 hsz0 hsz
  rw [MakeChecks.laidMetH_plain _ _ _ (by kernel_rfl)] at hL
  have hTabs : Q.Tabs W := Q.tabs_of_laid hL (.tail _ (.tail _ (.head _))) hS
  obtain ⟨k, hk⟩ := Pure.FnTexts l0 hm0 y0 hw0
  refine (Q.laws_FnTexts.calls k _ _ l0 true W (Kd.C_of_reads (d := (0 : Int)) (h1 := fun _ => rfl) hr0) hc0 hk hTabs).mono fun e W' ⟨he, bel⟩ => ?_
  subst he
  exact ⟨_, rfl, _, _, _, [], _, [], hW', trodAll_mk1 (shut_bool Tryd.underlying4 _), (trodAll_cons_mk (Below.trod laidOut (by kernel_rfl) (of_decide_eq_true (by kernel_rfl)) k0 bel lt0) trodAll_mk0), rfl, bel.frame _, fun h => by cases h⟩
theorem over : Rows.fnTextsRow.holds Tryd.pinned (OpenSpec.ofChange Rows.fnTextsSpec) :=
  OpenClaim.holds_of_wide 7 Tryd.f7 rfl rfl rfl rfl rfl rfl rfl ⟨rfl, rfl, rfl, rfl, rfl⟩ rfl rfl rfl rfl rfl (by kernel_rfl) Tryd.func7 (by kernel_rfl)
    (of_decide_eq_true (by kernel_rfl)) (by unfold Func.isWrapper; first | (rw [if_pos (by decide +kernel)]; kernel_rfl) | (rw [if_neg (by decide +kernel)]; exact ⟨rfl, rfl⟩))
    (fun os started H enc _ => lifted os started H enc)
theorem proved : Rows.FnTextsCardSaid :=
  Claim7.holds_tied_plain_at .later [] [.data, .data, .data, .data, .pinned] true (true, "b75b773852959c5247afd18ef90919ec67df20c7244692005a47031de84d4aff") false over (fun _ h => by cases h) (by kernel_rfl) (fun _ h => by cases h) fnTexts_row_tie rfl ⟨rfl, rfl⟩ (by kernel_rfl) rfl
    (fun f fn hf hfn => by
      obtain rfl : f = 7 := Option.some.inj ((show Tryd.prog.funcNamed Rows.fnTextsRow.func = some 7 by kernel_rfl).symm.trans hf) |>.symm
      obtain rfl : fn = Tryd.f7 := (Option.some.inj (Tryd.func7.symm.trans hfn)).symm
      exact ⟨by kernel_rfl, fun j t ht => by
        rw [Tryd.params7] at ht
        have hm : t ∈ [31] := by simpa using Array.mem_of_getElem? ht
        have hall : ([31].all fun u => !Tryd.prog.wantsStandIn u) = true := by kernel_rfl
        exact (show Tryd.prog.wantsStandIn t = false by simpa using List.all_eq_true.1 hall t hm)⟩)
    (by kernel_rfl)
#print axioms proved
end Go.Proofs.YtnfiljnncpieoaaDoor.fnTexts
namespace Go.Proofs.YtnfiljnncpieoaaDoor
/-- The row, under a short name, for the claim. -/
theorem fnTexts_holds : Rows.FnTextsCardSaid := fnTexts.proved
end Go.Proofs.YtnfiljnncpieoaaDoor
