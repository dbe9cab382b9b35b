/- The hand-walked contracts of this seat: what slices.IndexFunc, slices.ContainsFunc, the two closures of MarksIn, MarksIn itself and strings.Join return; conditions: what their slices hold is told by the first hypotheses; Join answers up to 2^47 bytes. -/
import Derived.Test.YtdmganhmgbkliaaQx0
import Derived.Test.YtdmganhmgbkliaaShelf
import Derived.Shelf.Abstract
namespace Go.Proofs.Ytdmganhmgbkliaa.Q
open Go.RowKit Go.Shelf Go.Proofs.YtdmganhmgbkliaaW.PrintWords Go.Proofs.YtdmganhmgbkliaaW.PrintLast Go.Proofs.YtdmganhmgbkliaaW.PrintMore

/-- The value of a mark. -/
def agg33 (x : S33) : Value := .agg #[.string x.f0, .string x.f1, .int .i64 x.f2, .int .i64 x.f3]

/-- What a predicate on marks does. -/
def MarkPred (g : Nat) (lb : Array Value) (p : S33 → Bool) (w : World) : Prop :=
  ∀ (W : World) (x : S33), Below w.heap.size w W → Calls Try.prog g (#[agg33 x] ++ lb) W fun e w' => e = .returned (.bool (p x)) ∧ Below w.heap.size w w'

theorem indexFunc_any (g : Nat) (lb : Array Value) (p : S33 → Bool) (eg : ∀ args w, (callFunc g args).run Try.prog w = .ok (.enter g args) w) (A : Option Addr) (c : Nat) (l : List S33) (w : World)
    (hr : Kd.C k33 w A l.length l) (hp : MarkPred g lb p w) :
    Calls Try.prog 20 #[.slice A l.length c, .func (.func g) #[] lb] w fun e w' => (∃ i : Int, e = .returned (.int .i64 i) ∧ decide (0 ≤ i) = l.any p) ∧ Below w.heap.size w w' := by
  have HR := Aside0.mk hr
  have HP := Aside0.mk hp
  have HL := Aside0.mk hr.2.1
  clear hr hp
  have hu33 := Try.underlying33
  go_enter Try.func20, Try.ntmps20
  go_wp2
  go_loopg [5, 8] l.length (fun gg _ s8 wr => ∃ kk : Nat, kk ≤ l.length ∧ l.length - kk ≤ gg ∧ s8 = .int .i64 kk ∧ Aside0 (Below w.heap.size w wr) ∧ Aside0 (∀ j, j < kk → p (l.getD j z33) = false))
  case atStart => exact ⟨0, Nat.zero_le _, by omega, rfl, ⟨Below.refl _ w⟩, ⟨fun j hj => absurd hj (Nat.not_lt_zero _)⟩⟩
  case round =>
    obtain ⟨kk, hkk, hg, rfl, BW, HA⟩ := hrel
    have hm : l.length ≤ 9223372036854775807 := HL.out
    by_cases hlt : kk < l.length
    · have hlt0 : (kk : Int) < (l.length : Int) := by omega
      obtain ⟨ad, e, h0, h1, h2, h3⟩ := at_T33 HR.out (kk : Int) (by omega) hlt0
      cases e
      simp only [Int.toNat_natCast] at h0 h1 h2 h3
      replace h0 := (BW.out.cell (World.block_lt_of_cell? w _ h0)).trans h0
      replace h1 := (BW.out.cell (World.block_lt_of_cell? w _ h1)).trans h1
      replace h2 := (BW.out.cell (World.block_lt_of_cell? w _ h2)).trans h2
      replace h3 := (BW.out.cell (World.block_lt_of_cell? w _ h3)).trans h3
      have hcall := HP.out wr (rd_T33 l (kk : Int)) BW.out
      have hx : Aside0 (rd_T33 l (kk : Int) = l.getD kk z33) := ⟨by simp [rd_T33]⟩
      generalize rd_T33 l (kk : Int) = x at h0 h1 h2 h3 hcall hx
      simp only [agg33] at hcall
      cases hq : p x with
      | true =>
        rw [hq] at hcall
        go_wp2_with (go_at_fn g; refine hcall.mono ?_; rintro e w' ⟨rfl, hb'⟩)
        go_ret
        refine ⟨⟨_, rfl, ?_⟩, hb'⟩
        rw [decide_eq_true (by omega), eq_comm, List.any_eq_true]
        have hx' := hx.out
        rw [List.getD_eq_getElem?_getD, List.getElem?_eq_getElem hlt] at hx'
        exact ⟨l[kk], List.getElem_mem hlt, by simp at hx'; rw [← hx']; exact hq⟩
      | false =>
        rw [hq] at hcall
        go_wp2_with (go_at_fn g; refine hcall.mono ?_; rintro e w' ⟨rfl, hb'⟩)
        go_roundg (l.length - (kk + 1))
        case measure => omega
        case rel =>
          refine ⟨kk + 1, by omega, by omega, by go_num, ⟨hb'⟩, ⟨fun j hj => ?_⟩⟩
          by_cases e : j = kk
          · subst e
            rw [← hx.out]; exact hq
          · exact HA.out j (by omega)
    · have hlt0 : ¬ (kk : Int) < (l.length : Int) := by omega
      obtain rfl : kk = l.length := by omega
      go_wp2
      go_ret
      refine ⟨⟨-1, rfl, ?_⟩, BW.out⟩
      rw [decide_eq_false (by omega), eq_comm, List.any_eq_false]
      intro x hx hp
      obtain ⟨j, hj, rfl⟩ := List.getElem_of_mem hx
      have := HA.out j hj
      rw [List.getD_eq_getElem?_getD, List.getElem?_eq_getElem hj] at this
      simp at this
      rw [this] at hp; cases hp

/-- A mark in memory, four cells. -/
def MarkAt (W : World) (B : Nat) (x : S33) : Prop :=
  W.cell? ⟨B, 0, none⟩ = some (.string x.f0) ∧ W.cell? ⟨B, 1, none⟩ = some (.string x.f1) ∧ W.cell? ⟨B, 2, none⟩ = some (.int .i64 x.f2) ∧ W.cell? ⟨B, 3, none⟩ = some (.int .i64 x.f3)

/-- The inner test. -/
def same33 (x y : S33) : Bool := x.f0.toList == y.f0.toList && (x.f1.toList == y.f1.toList && (x.f2 == y.f2 && (decide (0 ≤ y.f3 ∧ y.f3 ≤ 15) && (Go.bits .andNot .i64 x.f3 y.f3 == 0))))

theorem inner_any (x y : S33) (B : Nat) (W : World) (hx : MarkAt W B x) :
    Calls Try.prog 17 #[agg33 y, .pointer (some ⟨B, 0, none⟩)] W fun e w' => e = .returned (.bool (same33 x y)) ∧ Below W.heap.size W w' := by
  have hB : B < W.heap.size := World.block_lt_of_cell? W _ hx.1
  have x0 : ∀ o, (W.alloc o).cell? ⟨B, 0, none⟩ = some (.string x.f0) := fun o => by rw [World.cell?_alloc_past _ _ _ hB]; exact hx.1
  have x1 : ∀ o, (W.alloc o).cell? ⟨B, 1, none⟩ = some (.string x.f1) := fun o => by rw [World.cell?_alloc_past _ _ _ hB]; exact hx.2.1
  have x2 : ∀ o, (W.alloc o).cell? ⟨B, 2, none⟩ = some (.int .i64 x.f2) := fun o => by rw [World.cell?_alloc_past _ _ _ hB]; exact hx.2.2.1
  have x3 : ∀ o, (W.alloc o).cell? ⟨B, 3, none⟩ = some (.int .i64 x.f3) := fun o => by rw [World.cell?_alloc_past _ _ _ hB]; exact hx.2.2.2
  clear hx
  have hu33 := Try.underlying33
  simp only [agg33]
  by_cases c0 : x.f0.toList = y.f0.toList
  · have c0b : (x.f0.toList == y.f0.toList) = true := beq_iff_eq.mpr c0
    by_cases c1 : x.f1.toList = y.f1.toList
    · have c1b : (x.f1.toList == y.f1.toList) = true := beq_iff_eq.mpr c1
      by_cases c2 : x.f2 = y.f2
      · have c2b : (x.f2 == y.f2) = true := beq_iff_eq.mpr c2
        by_cases c3 : 0 ≤ y.f3
        · have c3b : decide (0 ≤ y.f3) = true := decide_eq_true c3
          by_cases c4 : y.f3 ≤ 15
          · have c4b : decide (y.f3 ≤ 15) = true := decide_eq_true c4
            by_cases c5 : Go.bits .andNot .i64 x.f3 y.f3 = 0
            · have c5b : (Go.bits .andNot .i64 x.f3 y.f3 == 0) = true := beq_iff_eq.mpr c5
              have hfin : same33 x y = true := by simp [same33, c0b, c1b, c2b, c3, c4, c5b]
              have HF := Aside0.mk hfin
              clear hfin c0 c1 c2 c3 c4 c5
              go_enter Try.func17, Try.ntmps17
              go_wp2
              go_ret
              exact ⟨by rw [HF.out] <;> rfl, (Below.refl _ _).alloc (Nat.le_refl _) _⟩
            · have c5b : (Go.bits .andNot .i64 x.f3 y.f3 == 0) = false := beq_eq_false_iff_ne.mpr c5
              have hfin : same33 x y = false := by simp [same33, c0b, c1b, c2b, c3, c4, c5b]
              have HF := Aside0.mk hfin
              clear hfin c0 c1 c2 c3 c4 c5
              go_enter Try.func17, Try.ntmps17
              go_wp2
              go_ret
              exact ⟨by rw [HF.out] <;> rfl, (Below.refl _ _).alloc (Nat.le_refl _) _⟩
          · have c4b : decide (y.f3 ≤ 15) = false := decide_eq_false c4
            have hfin : same33 x y = false := by simp [same33, c0b, c1b, c2b, c3, c4]
            have HF := Aside0.mk hfin
            clear hfin c0 c1 c2 c3 c4
            go_enter Try.func17, Try.ntmps17
            go_wp2
            go_ret
            exact ⟨by rw [HF.out] <;> rfl, (Below.refl _ _).alloc (Nat.le_refl _) _⟩
        · have c3b : decide (0 ≤ y.f3) = false := decide_eq_false c3
          have hfin : same33 x y = false := by simp [same33, c0b, c1b, c2b, c3]
          have HF := Aside0.mk hfin
          clear hfin c0 c1 c2 c3
          go_enter Try.func17, Try.ntmps17
          go_wp2
          go_ret
          exact ⟨by rw [HF.out] <;> rfl, (Below.refl _ _).alloc (Nat.le_refl _) _⟩
      · have c2b : (x.f2 == y.f2) = false := beq_eq_false_iff_ne.mpr c2
        have hfin : same33 x y = false := by simp [same33, c0b, c1b, c2b]
        have HF := Aside0.mk hfin
        clear hfin c0 c1 c2
        go_enter Try.func17, Try.ntmps17
        go_wp2
        go_ret
        exact ⟨by rw [HF.out] <;> rfl, (Below.refl _ _).alloc (Nat.le_refl _) _⟩
    · have c1b : (x.f1.toList == y.f1.toList) = false := beq_eq_false_iff_ne.mpr c1
      have hfin : same33 x y = false := by simp [same33, c0b, c1b]
      have HF := Aside0.mk hfin
      clear hfin c0 c1
      go_enter Try.func17, Try.ntmps17
      go_wp2
      go_ret
      exact ⟨by rw [HF.out] <;> rfl, (Below.refl _ _).alloc (Nat.le_refl _) _⟩
  · have c0b : (x.f0.toList == y.f0.toList) = false := beq_eq_false_iff_ne.mpr c0
    have hfin : same33 x y = false := by simp [same33, c0b]
    have HF := Aside0.mk hfin
    clear hfin c0
    go_enter Try.func17, Try.ntmps17
    go_wp2
    go_ret
    exact ⟨by rw [HF.out] <;> rfl, (Below.refl _ _).alloc (Nat.le_refl _) _⟩

theorem containsFunc_any (g : Nat) (lb : Array Value) (p : S33 → Bool) (eg : ∀ args w, (callFunc g args).run Try.prog w = .ok (.enter g args) w) (A : Option Addr) (c : Nat) (l : List S33) (w : World)
    (hr : Kd.C k33 w A l.length l) (hp : MarkPred g lb p w) :
    Calls Try.prog 14 #[.slice A l.length c, .func (.func g) #[] lb] w fun e w' => e = .returned (.bool (l.any p)) ∧ Below w.heap.size w w' := by
  have hI := indexFunc_any g lb p eg A c l w hr hp
  have HL := Aside0.mk hr.2.1
  clear hr hp
  go_enter Try.func14, Try.ntmps14
  go_wp2_with (go_at_call 20; refine hI.mono ?_; rintro e w' ⟨⟨i, rfl, hi⟩, hb'⟩)
  go_ret
  exact ⟨by rw [← hi] <;> rfl, hb'⟩

/-- What the outer closure finds wrong with a mark. -/
def wrong33 (l1 : List S33) (x : S33) : Bool := !decide (0 ≤ x.f3 ∧ x.f3 ≤ 15) || !(l1.any (same33 x))

theorem outer_any (x : S33) (A : Option Addr) (c : Nat) (l1 : List S33) (B : Nat) (W : World) (hB : W.cell? ⟨B, 0, none⟩ = some (.slice A l1.length c)) (hr : Kd.C k33 W A l1.length l1) :
    Calls Try.prog 15 #[agg33 x, .pointer (some ⟨B, 0, none⟩)] W fun e w' => e = .returned (.bool (wrong33 l1 x)) ∧ Below W.heap.size W w' := by
  have hmf : ∀ (fn : Fn) (first cap : Array Value) (w : World), (Instr.makeFunc fn first cap).run Try.prog w = .ok (.func fn first cap) w := fun _ _ _ _ => rfl
  have hlt : B < W.heap.size := World.block_lt_of_cell? W _ hB
  have x0 : ∀ o, (W.alloc o).cell? ⟨B, 0, none⟩ = some (.slice A l1.length c) := fun o => by rw [World.cell?_alloc_past _ _ _ hlt]; exact hB
  have hb1 : Below W.heap.size W (W.alloc (.cells #[.string x.f0, .string x.f1, .int .i64 x.f2, .int .i64 x.f3] 33)) := (Below.refl _ _).alloc (Nat.le_refl _) _
  have hc1 := Kd.C_below hr hb1
  have hin : MarkPred 17 #[.pointer (some ⟨W.heap.size, 0, none⟩)] (same33 x) (W.alloc (.cells #[.string x.f0, .string x.f1, .int .i64 x.f2, .int .i64 x.f3] 33)) := fun W' y hb => by
    have hlt2 : W.heap.size < (W.alloc (.cells #[.string x.f0, .string x.f1, .int .i64 x.f2, .int .i64 x.f3] 33)).heap.size := by simp
    refine (inner_any x y W.heap.size W' ?_).mono fun e w' ⟨he, hb'⟩ => ⟨he, hb.trans (hb'.mono hb.size)⟩
    refine ⟨?_, ?_, ?_, ?_⟩ <;> (rw [hb.cell (p := ⟨W.heap.size, _, none⟩) hlt2, World.cell?_alloc_at _ _ _ _ rfl]; rfl)
  have hC := containsFunc_any 17 _ (same33 x) (enters_of Try.func17 (by kernel_rfl) rfl) A c l1 _ hc1 hin
  have HB1 := Aside0.mk hb1
  clear hB hr hc1 hin hb1
  have hu33 := Try.underlying33
  simp only [agg33]
  by_cases c3 : 0 ≤ x.f3
  · have c3b : decide (0 ≤ x.f3) = true := decide_eq_true c3
    by_cases c4 : x.f3 ≤ 15
    · have c4b : decide (x.f3 ≤ 15) = true := decide_eq_true c4
      have hfin : wrong33 l1 x = !(l1.any (same33 x)) := by simp [wrong33, c3, c4]
      have HF := Aside0.mk hfin
      clear hfin c3 c4
      go_enter Try.func15, Try.ntmps15
      go_wp2_with (first | (go_at_call 14; refine hC.mono ?_; rintro e w' ⟨rfl, hb'⟩) | (go_at_call 16; go_in))
      go_ret
      exact ⟨by rw [HF.out] <;> rfl, HB1.out.trans (hb'.mono HB1.out.size)⟩
    · have c4b : decide (x.f3 ≤ 15) = false := decide_eq_false c4
      have hfin : wrong33 l1 x = true := by simp [wrong33, c4]
      have HF := Aside0.mk hfin
      clear hfin c3 c4
      go_enter Try.func15, Try.ntmps15
      go_wp2
      go_ret
      exact ⟨by rw [HF.out] <;> rfl, HB1.out⟩
  · have c3b : decide (0 ≤ x.f3) = false := decide_eq_false c3
    have hfin : wrong33 l1 x = true := by simp [wrong33, c3]
    have HF := Aside0.mk hfin
    clear hfin c3
    go_enter Try.func15, Try.ntmps15
    go_wp2
    go_ret
    exact ⟨by rw [HF.out] <;> rfl, HB1.out⟩

def impl_MarksIn.f (l0 : List S33) (l1 : List S33) : Option Bool := some (!(l0.any (wrong33 l1)))

theorem impl_MarksIn.calls (A0 : Option Addr) (c0 : Nat) (l0 : List (S33)) (A1 : Option Addr) (c1 : Nat) (l1 : List (S33)) (r : Bool) (w : World) (hr0 : Kd.C k33 w A0 l0.length l0) (_hc0 : l0.length ≤ c0) (hr1 : Kd.C k33 w A1 l1.length l1) (_hc1 : l1.length ≤ c1) (h : impl_MarksIn.f l0 l1 = some r) :
    Calls Try.prog 8 #[.slice A0 l0.length c0, .slice A1 l1.length c1] w fun e w' => e = .returned (.bool r) ∧ Below w.heap.size w w' := by
  have hmf : ∀ (fn : Fn) (first cap : Array Value) (w : World), (Instr.makeFunc fn first cap).run Try.prog w = .ok (.func fn first cap) w := fun _ _ _ _ => rfl
  obtain rfl := Option.some.inj h
  have hb1 : Below w.heap.size w (w.alloc (.cells #[.slice A1 l1.length c1] 25)) := (Below.refl _ _).alloc (Nat.le_refl _) _
  have hin : MarkPred 15 #[.pointer (some ⟨w.heap.size, 0, none⟩)] (wrong33 l1) (w.alloc (.cells #[.slice A1 l1.length c1] 25)) := fun W x hb => by
    have hlt2 : w.heap.size < (w.alloc (.cells #[.slice A1 l1.length c1] 25)).heap.size := by simp
    refine (outer_any x A1 c1 l1 w.heap.size W ?_ (Kd.C_below (Kd.C_below hr1 hb1) hb)).mono fun e w' ⟨he, hb'⟩ => ⟨he, hb.trans (hb'.mono hb.size)⟩
    rw [hb.cell (p := ⟨w.heap.size, _, none⟩) hlt2, World.cell?_alloc_at _ _ _ _ rfl]; rfl
  have hC := containsFunc_any 15 _ (wrong33 l1) (enters_of Try.func15 (by kernel_rfl) rfl) A0 c0 l0 _ (Kd.C_below hr0 hb1) hin
  have HB1 := Aside0.mk hb1
  clear hin hb1 hr0 hr1 h
  go_enter Try.func8, Try.ntmps8
  go_wp2_with (go_at_call 14; refine hC.mono ?_; rintro e w' ⟨rfl, hb'⟩)
  go_ret
  exact ⟨rfl, HB1.out.trans (hb'.mono HB1.out.size)⟩

/-- strings.Join, up to the model's bound on what is made. -/
def strings_Join.f (l : List ByteArray) (sep : ByteArray) : Option ByteArray :=
  if (Lib.join (l.map (·.data.toList)) sep.data.toList).length ≤ 140737488355328 ∧ l.length ≤ 140737488355328 then some ⟨(Lib.join (l.map (·.data.toList)) sep.data.toList).toArray⟩ else none

theorem strings_Join.calls (A0 : Option Addr) (c0 : Nat) (l0 : List ByteArray) (a1 : ByteArray) (r : ByteArray) (w : World) (hr0 : Kd.C Kd.string w A0 l0.length l0) (hc0 : l0.length ≤ c0) (h : strings_Join.f l0 a1 = some r) :
    Calls Try.prog 19 #[.slice A0 l0.length c0, .string a1] w fun e w' => e = .returned (.string r) ∧ Below w.heap.size w w' := by
  unfold strings_Join.f at h
  by_cases hb : (Lib.join (l0.map (·.data.toList)) a1.data.toList).length ≤ 140737488355328 ∧ l0.length ≤ 140737488355328
  · rw [if_pos hb] at h
    obtain rfl := Option.some.inj h
    match l0, hr0, hc0, hb with
    | [], _, _, _ => exact (Try.strings_Join_none A0 c0 a1 w).mono fun e w' ⟨he, hw⟩ => ⟨he, hw ▸ Below.refl _ _⟩
    | x :: r, hr0, hc0, hb =>
      obtain ⟨ad, rfl, hcell⟩ := hr0.2.2 (by simp)
      have hcells : ∀ (j : Nat) y, (x :: r)[j]? = some y → w.cell? (ad.add j) = some (.string y) := fun j y hj => by
        obtain ⟨c, hc, hK, hu⟩ := hcell j y hj
        simp only [Kd.string, Kd.scalar] at hK
        subst hK
        have := hu 0 _ rfl
        simpa [Kd.string, Kd.scalar] using this
      have hlt : ad.block < w.heap.size := World.block_lt_of_cell? w _ (hcells 0 x rfl)
      obtain ⟨b, o, rfl⟩ : ∃ b o, ad = ⟨b, o, none⟩ := by
        have h0 := hcells 0 x rfl
        obtain ⟨b, o, s⟩ := ad
        cases s with
        | none => exact ⟨b, o, rfl⟩
        | some s =>
          simp only [Addr.add, if_true, World.cell?] at h0
          split at h0 <;> simp at h0
      have hadd : ∀ j, (⟨b, o, none⟩ : Addr).add j = ⟨b, o + j, none⟩ := fun j => by
        unfold Addr.add; split <;> simp_all
      refine Try.strings_Join b o c0 (x :: r) a1 w (fun j y hj => by rw [← hadd j]; exact hcells j y hj) hlt hb.2 hc0 hb.1
  · rw [if_neg hb] at h; cases h
end Go.Proofs.Ytdmganhmgbkliaa.Q
