/- What the row of FnExactReSub rests on, and the row: for every input that can be read the call returns true and the input reads as it did; condition: what the row lists of the library reads as the program lays it. -/
import Derived.Test.YtlakdfbfkbndiaaDoorKFnExactReSubd
set_option linter.unusedVariables false
set_option linter.unusedSimpArgs false
namespace Go.Proofs.YtlakdfbfkbndiaaDoor.Re
theorem mem_upto {S : Nat → Prop} {n j : Nat} : j ∈ upto S n ↔ j < n ∧ S j := by
  unfold upto
  simp
theorem upto_succ_pos (S : Nat → Prop) (n : Nat) (h : S n) : upto S (n + 1) = upto S n ++ [n] := by
  unfold upto
  rw [List.range_succ, List.filter_append]
  simp [h]
theorem upto_succ_neg (S : Nat → Prop) (n : Nat) (h : ¬ S n) : upto S (n + 1) = upto S n := by
  unfold upto
  rw [List.range_succ, List.filter_append]
  simp [h]
theorem upto_gap (S : Nat → Prop) (n : Nat) : ∀ d, (∀ j, n ≤ j → j < n + d → ¬ S j) → upto S (n + d) = upto S n
  | 0, _ => rfl
  | d + 1, h => by
    rw [show n + (d + 1) = (n + d) + 1 from rfl, upto_succ_neg S _ (h _ (by omega) (by omega))]
    exact upto_gap S n d fun j h1 h2 => h j h1 (by omega)
theorem upto_congr {S T : Nat → Prop} (n : Nat) (h : ∀ j, j < n → (S j ↔ T j)) : upto S n = upto T n := by
  unfold upto
  refine List.filter_congr fun j hj => ?_
  have := h j (List.mem_range.mp hj)
  simp [this]
theorem upto_len (S : Nat → Prop) (n : Nat) : (upto S n).length ≤ n := by
  unfold upto
  refine Nat.le_trans (List.length_filter_le _ _) (by simp)
structure Rest (w w0 t : Nat) : Prop where
  bit : ∀ u, w.testBit u = (w0.testBit u && decide (t ≤ u))
  lt : w < 18446744073709551616
theorem Rest.start (w : Nat) (h : w < 18446744073709551616) : Rest w w 0 := ⟨fun u => by simp, h⟩
theorem low_bits (k m : Nat) : (2 ^ k * (2 * m + 1)).testBit k = true ∧ ∀ u, u < k → (2 ^ k * (2 * m + 1)).testBit u = false := by
  constructor
  · rw [Nat.testBit_two_pow_mul]
    simp
  · intro u hu
    rw [Nat.testBit_two_pow_mul]
    simp; omega
theorem and_pred (k m : Nat) (u : Nat) : ((2 ^ k * (2 * m + 1)) &&& (2 ^ k * (2 * m + 1) - 1)).testBit u = ((2 ^ k * (2 * m + 1)).testBit u && decide (u ≠ k)) := by
  have e : 2 ^ k * (2 * m + 1) - 1 = 2 ^ k * (2 * m) + (2 ^ k - 1) := by
    have := Nat.two_pow_pos k
    rw [Nat.mul_add, Nat.mul_one]; omega
  have hlt : 2 ^ k - 1 < 2 ^ k := by have := Nat.two_pow_pos k; omega
  rw [Nat.testBit_and, e, Nat.testBit_two_pow_mul_add _ hlt, Nat.testBit_two_pow_mul]
  by_cases h1 : u < k
  · have h1' : ¬ k ≤ u := by omega
    simp [h1, h1']
  · by_cases h2 : u = k
    · subst h2
      simp
    · obtain ⟨d, rfl⟩ : ∃ d, u = k + (d + 1) := ⟨u - k - 1, by omega⟩
      have e3 : k + (d + 1) - k = d + 1 := by omega
      simp only [e3, Nat.testBit_succ]
      have d1 : (2 * m + 1) / 2 = m := by omega
      have d2 : 2 * m / 2 = m := by omega
      rw [d1, d2]
      have n1 : ¬ k + (d + 1) < k := by omega
      have n2 : k ≤ k + (d + 1) := by omega
      have n3 : k + (d + 1) ≠ k := by omega
      simp [n1, n2, n3]
theorem Rest.next {w w0 t : Nat} (h : Rest w w0 t) (hw : w ≠ 0) : ∃ u, Lib.ctz 64 w = u ∧ t ≤ u ∧ u < 64 ∧ w0.testBit u = true ∧ (∀ v, t ≤ v → v < u → w0.testBit v = false) ∧ Rest (w &&& (w - 1)) w0 (u + 1) := by
  obtain ⟨m, hm, hk⟩ := Lib.ctzFrom_spec 64 w (by omega) h.lt
  have e : Lib.ctz 64 w = Lib.ctzFrom 64 w := by simp [Lib.ctz, hw]
  generalize Lib.ctzFrom 64 w = k at *
  obtain ⟨l1, l2⟩ := low_bits k m
  rw [← hm] at l1 l2
  have b := h.bit k
  rw [l1] at b
  have b := b.symm
  rw [Bool.and_eq_true, decide_eq_true_eq] at b
  refine ⟨k, e, b.2, hk, b.1, fun v h1 h2 => ?_, fun u => ?_, ?_⟩
  · have := l2 v h2
    rw [h.bit v] at this
    simpa [h1] using this
  · rw [hm, and_pred k m u, ← hm, h.bit u, Bool.and_assoc]
    by_cases h3 : w0.testBit u = true
    · rw [h3, Bool.true_and, Bool.true_and, Bool.eq_iff_iff, Bool.and_eq_true, decide_eq_true_eq, decide_eq_true_eq, decide_eq_true_eq]
      by_cases h4 : u < k
      · have h5 := l2 u h4
        rw [h.bit u, h3, Bool.true_and, decide_eq_false_iff_not] at h5
        omega
      · omega
    · have h3 : w0.testBit u = false := by simpa using h3
      rw [h3]; simp
  · exact Nat.lt_of_le_of_lt Nat.and_le_left h.lt
theorem Rest.done {w0 t : Nat} (h : Rest 0 w0 t) : ∀ u, t ≤ u → w0.testBit u = false := fun u hu => by
  have := h.bit u
  simp [hu] at this
  simpa using this.symm
theorem upto_next {ws : Nat → Nat} {S : Nat → Prop} (h : IsSet ws S) (b t u : Nat) (hb : b < 8) (ht : t ≤ u) (hu : u < 64) (h1 : (ws b).testBit u = true) (h2 : ∀ v, t ≤ v → v < u → (ws b).testBit v = false) : upto S (64 * b + (u + 1)) = upto S (64 * b + t) ++ [64 * b + u] := by
  rw [show 64 * b + (u + 1) = (64 * b + u) + 1 from rfl, upto_succ_pos S _ ((h.bit b u hb hu).mp h1)]
  congr 1
  obtain ⟨d, rfl⟩ : ∃ d, u = t + d := ⟨u - t, by omega⟩
  rw [← Nat.add_assoc]
  refine upto_gap S _ d fun j hj1 hj2 => ?_
  obtain ⟨v, rfl⟩ : ∃ v, j = 64 * b + v := ⟨j - 64 * b, by omega⟩
  rw [← h.bit b v hb (by omega), h2 v (by omega) (by omega)]
  simp
theorem upto_last {ws : Nat → Nat} {S : Nat → Prop} (h : IsSet ws S) (b t : Nat) (hb : b < 8) (ht : t ≤ 64) (h2 : ∀ v, t ≤ v → (ws b).testBit v = false) : upto S (64 * (b + 1)) = upto S (64 * b + t) := by
  obtain ⟨d, hd⟩ : ∃ d, 64 = t + d := ⟨64 - t, by omega⟩
  rw [show 64 * (b + 1) = 64 * b + t + d by omega]
  refine upto_gap S _ d fun j hj1 hj2 => ?_
  obtain ⟨v, rfl⟩ : ∃ v, j = 64 * b + v := ⟨j - 64 * b, by omega⟩
  rw [← h.bit b v hb (by omega), h2 v (by omega)]
  simp
structure Queue (R : Rel) (i0 n : Nat) (Q : List Nat) (i : Nat) : Prop where
  nd : Q.Nodup
  lt : ∀ q, q ∈ Q → q < n
  met : ∀ q, q ∈ Q → Plus R i0 q
  first : ∀ x, R i0 x → x ∈ Q
  closed : ∀ k, k < i → ∀ x, R (Q.getD k 0) x → x ∈ Q
def ext (Q : List Nat) (l : List Nat) : List Nat := l.foldl (fun Q x => if x ∈ Q then Q else Q ++ [x]) Q
theorem ext_snoc (Q l : List Nat) (x : Nat) : ext Q (l ++ [x]) = if x ∈ ext Q l then ext Q l else ext Q l ++ [x] := by
  unfold ext
  rw [List.foldl_append]; rfl
theorem ext_mem : ∀ (l Q : List Nat) (x : Nat), x ∈ ext Q l ↔ x ∈ Q ∨ x ∈ l
  | [], Q, x => by simp [ext]
  | y :: l, Q, x => by
    show x ∈ ext (if y ∈ Q then Q else Q ++ [y]) l ↔ _
    rw [ext_mem l _ x]
    split
    · rename_i h
      constructor
      · rintro (h1 | h1)
        · exact .inl h1
        · exact .inr (List.mem_cons_of_mem _ h1)
      · rintro (h1 | h1)
        · exact .inl h1
        · rcases List.mem_cons.mp h1 with rfl | h2
          · exact .inl h
          · exact .inr h2
    · simp [or_assoc]
theorem ext_nodup : ∀ (l Q : List Nat), Q.Nodup → (ext Q l).Nodup
  | [], _, h => h
  | y :: l, Q, h => by
    show (ext (if y ∈ Q then Q else Q ++ [y]) l).Nodup
    refine ext_nodup l _ ?_
    split
    · exact h
    · rename_i hy
      rw [List.nodup_append]
      refine ⟨h, by simp, fun a ha b hb => ?_⟩
      have : b = y := by simpa using hb
      subst this
      intro e; subst e; exact hy ha
theorem ext_head : ∀ (l Q : List Nat), ∃ m, ext Q l = Q ++ m
  | [], Q => ⟨[], by simp [ext]⟩
  | y :: l, Q => by
    show ∃ m, ext (if y ∈ Q then Q else Q ++ [y]) l = Q ++ m
    obtain ⟨m, hm⟩ := ext_head l (if y ∈ Q then Q else Q ++ [y])
    rw [hm]
    split
    · exact ⟨m, rfl⟩
    · exact ⟨[y] ++ m, by simp⟩
theorem Queue.start {R : Rel} {i0 n : Nat} (hR : ∀ x, R i0 x → x < n) : Queue R i0 n (upto (R i0) n) 0 where
  nd := List.nodup_range.filter _
  lt := fun q hq => (mem_upto.mp hq).1
  met := fun q hq => ⟨i0, .refl i0, (mem_upto.mp hq).2⟩
  first := fun x hx => mem_upto.mpr ⟨hR x hx, hx⟩
  closed := fun k hk => absurd hk (by omega)
theorem Queue.step {R : Rel} {i0 n i : Nat} {Q : List Nat} (h : Queue R i0 n Q i) (hi : i < Q.length) (hR : ∀ q x, q < n → R q x → x < n) : Queue R i0 n (ext Q (upto (R (Q.getD i 0)) n)) (i + 1) := by
  have hq : Q.getD i 0 ∈ Q := by
    rw [List.getD_eq_getElem?_getD, List.getElem?_eq_getElem hi]; simp
  have hlt := h.lt _ hq
  obtain ⟨m, hm⟩ := ext_head (upto (R (Q.getD i 0)) n) Q
  refine ⟨ext_nodup _ _ h.nd, fun q hq' => ?_, fun q hq' => ?_, fun x hx => (ext_mem _ _ _).mpr (.inl (h.first x hx)), fun k hk x hx => ?_⟩
  · rcases (ext_mem _ _ _).mp hq' with h1 | h1
    · exact h.lt q h1
    · exact (mem_upto.mp h1).1
  · rcases (ext_mem _ _ _).mp hq' with h1 | h1
    · exact h.met q h1
    · obtain ⟨p, hs, hr⟩ := h.met _ hq
      exact ⟨_, .tail hs hr, (mem_upto.mp h1).2⟩
  · have hk2 : (ext Q (upto (R (Q.getD i 0)) n)).getD k 0 = Q.getD k 0 := by
      rw [hm, List.getD_eq_getElem?_getD, List.getD_eq_getElem?_getD, List.getElem?_append_left (by omega)]
    rw [hk2] at hx
    rw [ext_mem]
    by_cases e : k = i
    · subst e
      exact .inr (mem_upto.mpr ⟨hR _ _ hlt hx, hx⟩)
    · exact .inl (h.closed k (by omega) x hx)
theorem nodup_len : ∀ (n : Nat) (Q : List Nat), Q.Nodup → (∀ q, q ∈ Q → q < n) → Q.length ≤ n
  | 0, [], _, _ => Nat.le_refl _
  | 0, q :: _, _, h => absurd (h q (by simp)) (by omega)
  | n + 1, Q, hd, h => by
    by_cases hm : n ∈ Q
    · have h1 := nodup_len n (Q.erase n) (hd.erase n) (fun q hq => by
        have h2 := (hd.mem_erase_iff).mp hq
        have h3 := h q h2.2
        have h4 := h2.1
        omega)
      rw [List.length_erase_of_mem hm] at h1
      omega
    · have h1 := nodup_len n Q hd (fun q hq => by
        have h3 := h q hq
        have h4 : q ≠ n := fun e => hm (e ▸ hq)
        omega)
      omega
theorem Queue.len {R : Rel} {i0 n i : Nat} {Q : List Nat} (h : Queue R i0 n Q i) : Q.length ≤ n := nodup_len n Q h.nd h.lt
theorem Queue.done {R : Rel} {i0 n : Nat} {Q : List Nat} (h : Queue R i0 n Q Q.length) (x : Nat) : x ∈ Q ↔ Plus R i0 x := by
  constructor
  · exact h.met x
  · have key : ∀ y, Star R i0 y → ∀ z, R y z → z ∈ Q := fun y hs => by
      induction hs with
      | refl => exact h.first
      | tail hs hr ih =>
        intro z hz
        have hy := ih _ hr
        obtain ⟨k, hk, he⟩ := List.getElem_of_mem hy
        refine h.closed k hk z ?_
        rw [List.getD_eq_getElem?_getD, List.getElem?_eq_getElem hk, he]
        exact hz
    rintro ⟨m, hs, hr⟩
    exact key m hs x hr
theorem plus_star {R : Rel} {i j : Nat} : Star R i j ↔ Plus R i j ∨ j = i := by
  constructor
  · intro h
    cases h with
    | refl => exact .inr rfl
    | tail hs hr => exact .inl ⟨_, hs, hr⟩
  · rintro (⟨m, hs, hr⟩ | e)
    · exact .tail hs hr
    · subst e; exact .refl _
theorem seqR_snoc (l : List Rel) (R : Rel) (i j : Nat) : seqR (l ++ [R]) i j ↔ ∃ m, seqR l i m ∧ R m j := by
  induction l generalizing i with
  | nil =>
    simp only [List.nil_append, seqR]
    constructor
    · rintro ⟨m, h, e⟩; subst e; exact ⟨i, rfl, h⟩
    · rintro ⟨m, e, h⟩; subst e; exact ⟨j, h, rfl⟩
  | cons A l ih =>
    simp only [List.cons_append, seqR]
    constructor
    · rintro ⟨m, h, g⟩
      obtain ⟨p, g1, g2⟩ := (ih m).mp g
      exact ⟨p, ⟨m, h, g1⟩, g2⟩
    · rintro ⟨p, ⟨m, h, g1⟩, g2⟩
      exact ⟨m, h, (ih m).mpr ⟨p, g1, g2⟩⟩
end Go.Proofs.YtlakdfbfkbndiaaDoor.Re
namespace Go.Proofs.YtlakdfbfkbndiaaDoor.Q
open Go.RowKit Go.Proofs.YtlakdfbfkbndiaaDoor.Re Go.Proofs.YtlakdfbfkbndiaaDoorW.PrintWords Go.Proofs.YtlakdfbfkbndiaaDoorW.PrintLast Go.Proofs.YtlakdfbfkbndiaaDoorW.PrintMore
theorem bt_nat {s : ByteArray} {j : Nat} (h : j < s.size) : bt s (j : Int) = (s[j].toNat : Int) := by
  unfold bt
  rw [dif_pos (by simpa using h)]
  simp
def inFrom (s : ByteArray) (neg : Bool) (c : Int) : Nat → Nat → Bool
  | 0, _ => neg
  | k + 1, i => if bt s i ≤ c ∧ c ≤ bt s (i + 1 : Nat) then !neg else inFrom s neg c k (i + 2)
def inS (n : S49) (c : Int) : Bool := inFrom n.f2 n.f1 c (n.f2.size / 2) 0
def nodeAt (l : List S49) (n : Nat) : S49 := rd_T49 l n
def leafR (x : S49) (s : ByteArray) : Rel := fun i j =>
  if x.f0 = 0 then i < s.size ∧ inS x (bt s i) = true ∧ j = i + 1 else if x.f0 = 1 then i = 0 ∧ j = 0 else i = s.size ∧ j = i
def patOf (l : List S49) (s : ByteArray) : Pat where
  kd n := (nodeAt l n).f0.toNat
  ks n := (nodeAt l n).f3.map Int.toNat
  st n := leafR (nodeAt l n) s
structure Valid (l : List S49) : Prop where
  pos : 1 ≤ l.length
  len : l.length ≤ 200
  kd : ∀ n, n < l.length → 0 ≤ (nodeAt l n).f0 ∧ (nodeAt l n).f0 ≤ 7
  kid : ∀ n, n < l.length → ∀ k, k ∈ (nodeAt l n).f3 → 0 ≤ k ∧ k < n
  one : ∀ n, n < l.length → 5 ≤ (nodeAt l n).f0 → ∃ k, (nodeAt l n).f3 = [k]
  two : ∀ n, n < l.length → (nodeAt l n).f0 = 3 → (nodeAt l n).f3 ≠ []
  even : ∀ n, n < l.length → (nodeAt l n).f0 = 0 → (nodeAt l n).f2.size % 2 = 0
  txt : ∀ n, n < l.length → (nodeAt l n).f2.size ≤ 1099511627776
theorem Valid.wf {l : List S49} (h : Valid l) (s : ByteArray) : WF (patOf l s) l.length where
  lt := fun n hn k hk => by
    obtain ⟨z, hz, rfl⟩ := List.mem_map.mp hk
    have := h.kid n hn z hz
    omega
  one := fun n hn h5 => by
    have h5 : 5 ≤ (nodeAt l n).f0.toNat := h5
    obtain ⟨k, hk⟩ := h.one n hn (by omega)
    exact ⟨k.toNat, by show (nodeAt l n).f3.map Int.toNat = _; rw [hk]; rfl⟩
theorem Valid.full {l : List S49} (h : Valid l) (s : ByteArray) : Full (patOf l s) l.length := fun n hn h3 => by
  have h3 : (nodeAt l n).f0.toNat = 3 := h3
  have := h.two n hn (by omega)
  intro e
  have e : (nodeAt l n).f3.map Int.toNat = [] := e
  exact this (List.map_eq_nil_iff.mp e)
def meets (l : List S49) (s : ByteArray) (n : Nat) : Rel := den (patOf l s) l.length n
def kidsR (l : List S49) (s : ByteArray) (n : Nat) : List Rel := (nodeAt l n).f3.map fun k => meets l s k.toNat
theorem meets_eq {l : List S49} (h : Valid l) (s : ByteArray) (n : Nat) (hn : n < l.length) : meets l s n =
    (if (nodeAt l n).f0 < 3 then leafR (nodeAt l n) s
    else if (nodeAt l n).f0 = 3 then seqR (kidsR l s n)
    else if (nodeAt l n).f0 = 4 then fun i j => ∃ k, k ∈ (nodeAt l n).f3 ∧ meets l s k.toNat i j
    else if (nodeAt l n).f0 = 5 then Star (meets l s ((nodeAt l n).f3.headD 0).toNat)
    else if (nodeAt l n).f0 = 6 then Plus (meets l s ((nodeAt l n).f3.headD 0).toNat)
    else fun i j => i = j ∨ meets l s ((nodeAt l n).f3.headD 0).toNat i j) := by
  obtain ⟨N, hN⟩ : ∃ N, l.length = N + 1 := ⟨l.length - 1, by omega⟩
  have hkd := h.kd n hn
  have hw := h.wf s
  have ek : ∀ k, k ∈ (nodeAt l n).f3 → den (patOf l s) N k.toNat = meets l s k.toNat := fun k hk => by
    have := h.kid n hn k hk
    exact den_fuel (patOf l s) l.length hw N l.length k.toNat (by omega) (by omega) (by omega)
  have e1 : ((patOf l s).ks n).map (den (patOf l s) N) = kidsR l s n := by
    show ((nodeAt l n).f3.map Int.toNat).map _ = _
    rw [List.map_map]
    exact List.map_congr_left fun k hk => ek k hk
  have e2 : 5 ≤ (nodeAt l n).f0 → den (patOf l s) N (((patOf l s).ks n).headD 0) = meets l s ((nodeAt l n).f3.headD 0).toNat := fun h5 => by
    obtain ⟨k, hk⟩ := h.one n hn h5
    have e : (patOf l s).ks n = [k.toNat] := by show (nodeAt l n).f3.map Int.toNat = _; rw [hk]; rfl
    rw [e, hk]
    exact ek k (by rw [hk]; simp)
  have k3 : (patOf l s).kd n = (nodeAt l n).f0.toNat := rfl
  have e0 : meets l s n = den (patOf l s) (N + 1) n := by unfold meets; rw [hN]
  rw [e0]
  simp only [den]
  rw [k3, e1]
  by_cases c3 : (nodeAt l n).f0 < 3
  · rw [if_pos (by omega), if_pos c3]; rfl
  rw [if_neg (by omega), if_neg c3]
  by_cases c4 : (nodeAt l n).f0 = 3
  · rw [if_pos (by omega), if_pos c4]
  rw [if_neg (by omega), if_neg c4]
  by_cases c5 : (nodeAt l n).f0 = 4
  · rw [if_pos (by omega), if_pos c5]
    funext i j
    refine propext ⟨?_, ?_⟩
    · rintro ⟨k, hk, hd⟩
      obtain ⟨z, hz, rfl⟩ := List.mem_map.mp hk
      rw [ek z hz] at hd
      exact ⟨z, hz, hd⟩
    · rintro ⟨z, hz, hd⟩
      refine ⟨z.toNat, List.mem_map.mpr ⟨z, hz, rfl⟩, ?_⟩
      rw [ek z hz]
      exact hd
  rw [if_neg (by omega), if_neg c5, e2 (by omega)]
  by_cases c6 : (nodeAt l n).f0 = 5
  · rw [if_pos (by omega), if_pos c6]
  rw [if_neg (by omega), if_neg c6]
  by_cases c7 : (nodeAt l n).f0 = 6
  · rw [if_pos (by omega), if_pos c7]
  · rw [if_neg (by omega), if_neg c7]
def Fwd (R : Rel) (L : Nat) : Prop := ∀ i j, i ≤ L → R i j → i ≤ j ∧ j ≤ L
theorem fwd_seq (L : Nat) : ∀ (l : List Rel), (∀ R, R ∈ l → Fwd R L) → Fwd (seqR l) L
  | [], _ => fun i j hi h => by
    have h : i = j := h
    omega
  | R :: l, hR => fun i j hi ⟨m, h1, h2⟩ => by
    have a := hR R (by simp) i m hi h1
    have b := fwd_seq L l (fun R h => hR R (List.mem_cons_of_mem _ h)) m j a.2 h2
    omega
theorem fwd_star {R : Rel} {L : Nat} (h : Fwd R L) : Fwd (Star R) L := fun i j hi hs => by
  induction hs with
  | refl => omega
  | tail _ hr ih => have := h _ _ ih.2 hr; omega
theorem fwd_plus {R : Rel} {L : Nat} (h : Fwd R L) : Fwd (Plus R) L := fun i j hi ⟨m, hs, hr⟩ => by
  have a := fwd_star h i m hi hs
  have b := h m j a.2 hr
  omega
theorem meets_fwd {l : List S49} (h : Valid l) (s : ByteArray) (n : Nat) : n < l.length → Fwd (meets l s n) s.size := by
  induction n using Nat.strongRecOn with
  | _ n ih =>
    intro hn
    rw [meets_eq h s n hn]
    have hk : ∀ k, k ∈ (nodeAt l n).f3 → Fwd (meets l s k.toNat) s.size := fun k hk => by
      have := h.kid n hn k hk
      exact ih _ (by omega) (by omega)
    have h1 : 5 ≤ (nodeAt l n).f0 → Fwd (meets l s ((nodeAt l n).f3.headD 0).toNat) s.size := fun h5 => by
      obtain ⟨k, e⟩ := h.one n hn h5
      rw [e]
      exact hk k (by rw [e]; simp)
    by_cases c3 : (nodeAt l n).f0 < 3
    · rw [if_pos c3]
      intro i j hi hr
      unfold leafR at hr
      split at hr
      · omega
      · split at hr <;> omega
    rw [if_neg c3]
    by_cases c4 : (nodeAt l n).f0 = 3
    · rw [if_pos c4]
      refine fwd_seq _ _ fun R hR => ?_
      obtain ⟨k, hk', rfl⟩ := List.mem_map.mp hR
      exact hk k hk'
    rw [if_neg c4]
    by_cases c5 : (nodeAt l n).f0 = 4
    · rw [if_pos c5]
      exact fun i j hi ⟨k, hk', hr⟩ => hk k hk' i j hi hr
    rw [if_neg c5]
    by_cases c6 : (nodeAt l n).f0 = 5
    · rw [if_pos c6]; exact fwd_star (h1 (by omega))
    rw [if_neg c6]
    by_cases c7 : (nodeAt l n).f0 = 6
    · rw [if_pos c7]; exact fwd_plus (h1 (by omega))
    rw [if_neg c7]
    have := h.kd n hn
    intro i j hi hr
    rcases hr with e | hr
    · omega
    · exact h1 (by omega) i j hi hr
theorem info85' : (Tryd.prog.info? 85).map (fun i => (i.zero, i.size, i.bytes)) = some (some (.agg #[.int .i64 0, .int .i64 0, .int .i64 0]), 3, 24) := by kernel_rfl
def toE (e : Re.Way) : S85 := ⟨e.1, e.2.1, e.2.2⟩
structure Mach (B bm : Nat) (v : Value) (N : Int) (es : List S85) (w : World) : Prop where
  lo : B ≤ bm
  obj : w.heap[bm]? = some (.cells #[v, .int .i64 N] 59 (0, 0))
  row : Kd.R k85 85 w B (fun _ => True) v es
  sz : B ≤ w.heap.size
theorem Mach.move {B bm : Nat} {v : Value} {N : Int} {es : List S85} {w w1 : World} (h : Mach B bm v N es w) (hb : Below w.heap.size w w1) : Mach B bm v N es w1 :=
  ⟨h.lo, (hb.block _ (Array.getElem?_eq_some_iff.mp h.obj).1).trans h.obj, Kd.R_below h.row hb, Nat.le_trans h.sz hb.size⟩
def Else (bm : Nat) (w w1 : World) : Prop := ∀ k o, k ≠ bm → w.heap[k]? = some o → (∀ c, o ≠ .cells c 85 (0, 0)) → w1.heap[k]? = some o
theorem Else.refl (bm : Nat) (w : World) : Else bm w w := fun _ _ _ h _ => h
theorem Else.trans {bm : Nat} {w w1 w2 : World} (h : Else bm w w1) (g : Else bm w1 w2) : Else bm w w2 := fun k o hk ho hn => g k o hk (h k o hk ho hn) hn
theorem Else.below {bm : Nat} {w w1 : World} (h : Below w.heap.size w w1) : Else bm w w1 := fun k o _ ho _ => (h.block k (Array.getElem?_eq_some_iff.mp ho).1).trans ho
theorem way_ne {w : World} {B k : Nat} {v : Value} {es : List S85} {o : Obj} (h : Kd.R k85 85 w B (fun _ => True) v es) (hb : w.heap[k]? = some o) (ho : ∀ c, o ≠ .cells c 85 (0, 0)) : some k ≠ v.ownBlock := fun e => by
  obtain ⟨inner, hw⟩ := Kd.R_own h
  obtain ⟨c, hc⟩ := own_typed hw k e.symm
  rw [hb] at hc
  exact ho c (Option.some.inj hc)
set_option maxRecDepth 100000 in
theorem l2way_calls (B bm : Nat) (v : Value) (N a b c : Int) (es : List S85) (w : World) (hM : Mach B bm v N es w) (hl : es.length ≤ 1000000) :
    Calls Tryd.prog 73 #[.pointer (some ⟨bm, 0, none⟩), .int .i64 a, .int .i64 b, .int .i64 c] w fun e w' => e = .returned (.tuple #[]) ∧ ∃ v', Mach B bm v' N (es ++ [⟨a, b, c⟩]) w' ∧ Below B w w' ∧ Else bm w w' := by
  have HM := Aside0.mk hM
  have hc0 : w.cell? ⟨bm, 0, none⟩ = some v := by simp [World.cell?, hM.obj]
  have hc1 : w.cell? ⟨bm, 1, none⟩ = some (.int .i64 N) := by simp [World.cell?, hM.obj]
  have hz0 : w.frozen? ⟨bm, 0, none⟩ = false := by simp [World.frozen?, hM.obj]
  have HL := Aside0.mk hl
  obtain ⟨A5, c5, hv, _, _⟩ := Kd.R_reads hM.row
  clear hM hl
  go_enter Tryd.func73, Tryd.ntmps73
  clear hv
  go_wp2_with (first | ((with_reducible refine gate_builtin (b := .append) (xs := #[.tmp 12, .tmp 17]) rfl ?_); at_builtin; refine Kd.R_append k85 (w0 := w) B rfl (.tmp 12) (.tmp 17) 57 85 (.agg #[.int .i64 0, .int .i64 0, .int .i64 0]) 24 rfl Tryd.underlying57 info85' rfl (by decide) (by omega) _ es ⟨a, b, c⟩ [.int .i64 a, .int .i64 b, .int .i64 c] (fun _ => True) (fun _ => False) rfl rfl ?aP (fun _ hk => hk.elim) (fun _ _ => trivial) ?aO ?aB ?aS ?aL ?_; (case aP => exact k85_mkM _ _ _ ⟨a, b, c⟩); (case aO => exact HM.out.row); (case aB => exact Below.refl _ _); (case aS => exact HM.out.sz); (case aL => have := HL.out; omega); intro v9 w9 ho hb hg hat; obtain ⟨A9, c9, hv9, _, _⟩ := Kd.R_reads ho; subst hv9; have hob9 := (hg.block bm (Array.getElem?_eq_some_iff.mp HM.out.obj).1 (Kd.R_ne HM.out.row HM.out.obj (by decide))).trans HM.out.obj; have hc9 : w9.cell? ⟨bm, 0, none⟩ = some v := (by simp [World.cell?, hob9]); have hz9 : w9.frozen? ⟨bm, 0, none⟩ = false := (by simp [World.frozen?, hob9]); have HO := Aside0.mk ho; have HB := Aside0.mk hb; have HG := Aside0.mk hg; have HOb := Aside0.mk hob9; clear ho hb hg hat hob9))
  have HM2 : Mach B bm (.slice A9 (es.length + 1) c9) N (es ++ [⟨a, b, c⟩]) (w9.setCell ⟨bm, 0, none⟩ (.slice A9 (es.length + 1) c9)) := {
    lo := HM.out.lo
    obj := by simp [World.setCell, Array.getElem?_modify, HOb.out]
    row := by
      have h := Kd.R_set HO.out HOb.out (by decide) 0 (.slice A9 (es.length + 1) c9)
      rw [List.length_append] at h
      exact h
    sz := by
      have h1 := HB.out.size
      have h2 := HM.out.sz
      simp [World.setCell]
      omega }
  have HB2 : Below B w (w9.setCell ⟨bm, 0, none⟩ (.slice A9 (es.length + 1) c9)) := HB.out.setCell HM.out.lo _
  have HE2 : Else bm w (w9.setCell ⟨bm, 0, none⟩ (.slice A9 (es.length + 1) c9)) := fun k o hk ho hn => by
    rw [Below.heap_setCell _ _ _ _ hk, HG.out.block k (Array.getElem?_eq_some_iff.mp ho).1 (way_ne HM.out.row ho hn)]
    exact ho
  go_end0
  exact ⟨rfl, _, HM2, HB2, HE2⟩
theorem bld_same (P Q : Pat) (h1 : P.kd = Q.kd) (h2 : P.ks = Q.ks) : ∀ f, bld P f = bld Q f
  | 0 => rfl
  | f + 1 => by
    funext n a c n0
    simp only [bld]
    rw [bld_same P Q h1 h2 f, h1, h2]
end Go.Proofs.YtlakdfbfkbndiaaDoor.Q
namespace Go.Proofs.YtlakdfbfkbndiaaDoor.Q
open Go.RowKit Go.Proofs.YtlakdfbfkbndiaaDoor.Re Go.Proofs.YtlakdfbfkbndiaaDoorW.PrintWords Go.Proofs.YtlakdfbfkbndiaaDoorW.PrintLast Go.Proofs.YtlakdfbfkbndiaaDoorW.PrintMore
section
variable {l : List S49} {A0 : Option Addr} {c0 : Nat} {w0 : World}
def BuildsAt (l : List S49) (A0 : Option Addr) (c0 : Nat) (w0 : World) (f n : Nat) : Prop :=
  ∀ (a c n0 bm : Nat) (v : Value) (es : List S85) (w : World), a < n0 → c < n0 → Below w0.heap.size w0 w → Mach w0.heap.size bm v n0 es w → es.length + (bld (patOf l ⟨#[]⟩) f n a c n0).1.length ≤ 1000000 → (bld (patOf l ⟨#[]⟩) f n a c n0).2 ≤ 1000000 →
    Calls Tryd.prog 56 #[.pointer (some ⟨bm, 0, none⟩), .slice A0 l.length c0, .int .i64 n, .int .i64 a, .int .i64 c] w fun e w' => e = .returned (.tuple #[]) ∧
      ∃ v', Mach w0.heap.size bm v' ((bld (patOf l ⟨#[]⟩) f n a c n0).2 : Nat) (es ++ (bld (patOf l ⟨#[]⟩) f n a c n0).1.map toE) w' ∧ Below w0.heap.size w w' ∧ Else bm w w'
structure Bw (B bm : Nat) (w0 w : World) (Ln : Nat) (x : S49) (A3 : Option Addr) (c3 : Nat) (wr : World) : Prop where
  b0 : Below B w0 wr
  bw : Below B w wr
  el : Else bm w wr
  loc : wr.heap[Ln]? = some (.cells #[.int .i64 x.f0, .bool x.f1, .string x.f2, .slice A3 x.f3.length c3] 49 (0, 0))
  ne : Ln ≠ bm
theorem Bw.step {B bm : Nat} {w0 w : World} {Ln : Nat} {x : S49} {A3 : Option Addr} {c3 : Nat} {wr w1 : World} (h : Bw B bm w0 w Ln x A3 c3 wr) (hb : Below B wr w1) (he : Else bm wr w1) : Bw B bm w0 w Ln x A3 c3 w1 :=
  ⟨h.b0.trans hb, h.bw.trans hb, h.el.trans he, he _ _ h.ne h.loc (by simp), h.ne⟩
theorem Mach.count {B bm : Nat} {v : Value} {N : Int} {es : List S85} {w : World} (h : Mach B bm v N es w) (M : Int) : Mach B bm v M es (w.setCell ⟨bm, 1, none⟩ (.int .i64 M)) ∧ Below B w (w.setCell ⟨bm, 1, none⟩ (.int .i64 M)) ∧ Else bm w (w.setCell ⟨bm, 1, none⟩ (.int .i64 M)) := by
  refine ⟨⟨h.lo, by simp [World.setCell, Array.getElem?_modify, h.obj], Kd.R_set h.row h.obj (by decide) 1 _, by have := h.sz; simp [World.setCell]; omega⟩, (Below.refl _ _).setCell h.lo _, fun k o hk ho _ => ?_⟩
  rw [Below.heap_setCell _ _ _ _ hk]; exact ho
set_option maxRecDepth 100000 in
set_option maxHeartbeats 4000000 in
theorem build_step (hV : Valid l) (hr : Kd.C k49 w0 A0 l.length l) (f n : Nat) (hn : n < l.length) (ih : ∀ m, m < n → BuildsAt l A0 c0 w0 f m) : BuildsAt l A0 c0 w0 (f + 1) n := by
  intro a c n0 bm v es w ha hc hBe hM hel hnl
  have HV := Aside0.mk hV
  have HR := Aside0.mk hr
  have HIH := Aside0.mk ih
  have HBe := Aside0.mk hBe
  have HM := Aside0.mk hM
  have HEl := Aside0.mk hel
  have HNl := Aside0.mk hnl
  have HN := Aside0.mk hn
  have HAC : Aside0 (a < n0 ∧ c < n0) := ⟨⟨ha, hc⟩⟩
  have HFit := Aside0.mk (bld_fit (patOf l ⟨#[]⟩) (f + 1) n a c n0 ha hc)
  obtain ⟨ad, A3, c3, e0, hx0, hx1, hx2, hx3, hl3, hi3⟩ := at_T49 hr (n : Int) (by omega) (by omega)
  simp only [Int.toNat_natCast] at hx0 hx1 hx2 hx3
  have hbl : bld (patOf l ⟨#[]⟩) (f + 1) n a c n0 = bld (patOf l ⟨#[]⟩) (f + 1) n a c n0 := rfl
  obtain ⟨x, hxe⟩ : ∃ x, x = rd_T49 l n := ⟨_, rfl⟩
  rw [← hxe] at hx0 hx1 hx2 hx3 hl3 hi3
  have HXE : Aside0 (nodeAt l n = x) := ⟨hxe.symm⟩
  have HRK := Aside0.mk hi3
  clear hxe hi3 hl3
  replace hx0 := (hBe.cell (World.block_lt_of_cell? w0 _ hx0)).trans hx0
  replace hx1 := (hBe.cell (World.block_lt_of_cell? w0 _ hx1)).trans hx1
  replace hx2 := (hBe.cell (World.block_lt_of_cell? w0 _ hx2)).trans hx2
  replace hx3 := (hBe.cell (World.block_lt_of_cell? w0 _ hx3)).trans hx3
  subst e0
  have p0 : ((0 : Int) ≤ (n : Int)) = True := eq_true (by omega)
  have p1 : ((n : Int) < (l.length : Int)) = True := eq_true (by omega)
  clear hr ih hBe hM hel hnl ha hc hbl hV hn
  go_enter Tryd.func56, Tryd.ntmps56
  go_upto_region 1 with fail
  obtain ⟨w1, hw1⟩ : ∃ w1, w1 = w.alloc (.cells #[.int .i64 x.f0, .bool x.f1, .string x.f2, .slice A3 x.f3.length c3] 49) := ⟨_, rfl⟩
  rw [← hw1]
  have hb1 : Below w.heap.size w w1 := by rw [hw1]; exact (Below.refl _ _).alloc (Nat.le_refl _) _
  have HM1 := Aside0.mk (HM.out.move hb1)
  have HBw : Aside0 (Bw w0.heap.size bm w0 w w.heap.size x A3 c3 w1) := ⟨{
    b0 := HBe.out.trans (hb1.mono HM.out.sz)
    bw := hb1.mono HM.out.sz
    el := Else.below hb1
    loc := by rw [hw1]; exact heap_alloc_new _ _
    ne := by have := (Array.getElem?_eq_some_iff.mp HM.out.obj).1; omega }⟩
  clear hw1 hb1 hx0 hx1 hx2 hx3
  have hcl := HBw.out.loc
  have hn0 : w1.cell? ⟨w.heap.size, 0, none⟩ = some (.int .i64 x.f0) := by simp [World.cell?, hcl]
  have hn3 : w1.cell? ⟨w.heap.size, 3, none⟩ = some (.slice A3 x.f3.length c3) := by simp [World.cell?, hcl]
  have hkd := HV.out.kd n HN.out
  rw [HXE.out] at hkd
  obtain ⟨f0, f1, f2, f3⟩ := x
  dsimp only at hkd hn0 hn3 HRK
  have hcase : f0 = 0 ∨ f0 = 1 ∨ f0 = 2 ∨ f0 = 3 ∨ f0 = 4 ∨ f0 = 7 ∨ f0 = 5 ∨ f0 = 6 := by omega
  clear hkd hcl
  rcases hcase with rfl | rfl | rfl | rfl | rfl | rfl | rfl | rfl
  · have hbv : bld (patOf l ⟨#[]⟩) (f + 1) n a c n0 = ([((a : Int), (c : Int), (n : Int))], n0) := by
      simp only [bld]
      rw [if_pos (by show (nodeAt l n).f0.toNat < 3; rw [HXE.out]; first | exact (by decide : (0 : Int).toNat < 3) | exact (by decide : (1 : Int).toNat < 3) | exact (by decide : (2 : Int).toNat < 3))]
    have hel := HEl.out
    rw [hbv] at hel
    have HBv := Aside0.mk hbv
    clear hbv
    have hcall := l2way_calls w0.heap.size bm v n0 a c n es w1 HM1.out (by omega)
    clear hel
    go_wp2_with fail
    refine hcall.mono ?_
    rintro e w' ⟨rfl, v', hM', hB', hE'⟩
    dsimp only
    have HR1 : Aside0 (Mach w0.heap.size bm v' n0 (es ++ [((a : Int), (c : Int), (n : Int))].map toE) w' ∧ Below w0.heap.size w w' ∧ Else bm w w') := ⟨hM', HBw.out.bw.trans hB', HBw.out.el.trans hE'⟩
    clear hcall hM' hB' hE'
    go_wp2_with fail
    go_end0
    rw [HBv.out]
    exact ⟨rfl, v', HR1.out.1, HR1.out.2.1, HR1.out.2.2⟩
  · have hbv : bld (patOf l ⟨#[]⟩) (f + 1) n a c n0 = ([((a : Int), (c : Int), (n : Int))], n0) := by
      simp only [bld]
      rw [if_pos (by show (nodeAt l n).f0.toNat < 3; rw [HXE.out]; first | exact (by decide : (0 : Int).toNat < 3) | exact (by decide : (1 : Int).toNat < 3) | exact (by decide : (2 : Int).toNat < 3))]
    have hel := HEl.out
    rw [hbv] at hel
    have HBv := Aside0.mk hbv
    clear hbv
    have hcall := l2way_calls w0.heap.size bm v n0 a c n es w1 HM1.out (by omega)
    clear hel
    go_wp2_with fail
    refine hcall.mono ?_
    rintro e w' ⟨rfl, v', hM', hB', hE'⟩
    dsimp only
    have HR1 : Aside0 (Mach w0.heap.size bm v' n0 (es ++ [((a : Int), (c : Int), (n : Int))].map toE) w' ∧ Below w0.heap.size w w' ∧ Else bm w w') := ⟨hM', HBw.out.bw.trans hB', HBw.out.el.trans hE'⟩
    clear hcall hM' hB' hE'
    go_wp2_with fail
    go_end0
    rw [HBv.out]
    exact ⟨rfl, v', HR1.out.1, HR1.out.2.1, HR1.out.2.2⟩
  · have hbv : bld (patOf l ⟨#[]⟩) (f + 1) n a c n0 = ([((a : Int), (c : Int), (n : Int))], n0) := by
      simp only [bld]
      rw [if_pos (by show (nodeAt l n).f0.toNat < 3; rw [HXE.out]; first | exact (by decide : (0 : Int).toNat < 3) | exact (by decide : (1 : Int).toNat < 3) | exact (by decide : (2 : Int).toNat < 3))]
    have hel := HEl.out
    rw [hbv] at hel
    have HBv := Aside0.mk hbv
    clear hbv
    have hcall := l2way_calls w0.heap.size bm v n0 a c n es w1 HM1.out (by omega)
    clear hel
    go_wp2_with fail
    refine hcall.mono ?_
    rintro e w' ⟨rfl, v', hM', hB', hE'⟩
    dsimp only
    have HR1 : Aside0 (Mach w0.heap.size bm v' n0 (es ++ [((a : Int), (c : Int), (n : Int))].map toE) w' ∧ Below w0.heap.size w w' ∧ Else bm w w') := ⟨hM', HBw.out.bw.trans hB', HBw.out.el.trans hE'⟩
    clear hcall hM' hB' hE'
    go_wp2_with fail
    go_end0
    rw [HBv.out]
    exact ⟨rfl, v', HR1.out.1, HR1.out.2.1, HR1.out.2.2⟩
  · have HKid := Aside0.mk (HV.out.kid n HN.out)
    rw [HXE.out] at HKid
    have hks : (patOf l ⟨#[]⟩).ks n = f3.map Int.toNat := by show (nodeAt l n).f3.map Int.toNat = _; rw [HXE.out]
    have hbv : bld (patOf l ⟨#[]⟩) (f + 1) n a c n0 = bldSeq (bld (patOf l ⟨#[]⟩) f) (f3.map Int.toNat) a c n0 := by
      have e1 : (patOf l ⟨#[]⟩).kd n = 3 := by show (nodeAt l n).f0.toNat = 3; rw [HXE.out]; rfl
      simp only [bld]
      rw [e1, hks]; rfl
    have HBv := Aside0.mk hbv
    have hel := HEl.out
    have hnl := HNl.out
    rw [hbv] at hel hnl
    have HLim : Aside0 (es.length + (bldSeq (bld (patOf l ⟨#[]⟩) f) (f3.map Int.toNat) a c n0).1.length ≤ 1000000 ∧ (bldSeq (bld (patOf l ⟨#[]⟩) f) (f3.map Int.toNat) a c n0).2 ≤ 1000000) := ⟨hel, hnl⟩
    have HL3 : Aside0 (f3.length ≤ 9223372036854775807) := ⟨HRK.out.2.1⟩
    have HFits : Aside0 (∀ k, Fit (bld (patOf l ⟨#[]⟩) f) k) := ⟨fun k => bld_fit _ f k⟩
    generalize hbb : bld (patOf l ⟨#[]⟩) f = bb at *
    have HBB := Aside0.mk hbb
    clear hbb
    clear hbv hel hnl hks
    go_wp2_with fail
    clear hn0 hn3
    go_loopg [3, 11] f3.length (fun gg v3 v11 wr => ∃ (j aj nj : Nat) (vj : Value) (pre : List Re.Way), v3 = .int .i64 aj ∧ v11 = .int .i64 j ∧ j ≤ f3.length ∧ f3.length - j ≤ gg ∧ Aside0 (aj < nj ∧ c < nj) ∧ Aside0 (bldSeq bb (f3.map Int.toNat) a c n0 = (pre ++ (bldSeq bb ((f3.drop j).map Int.toNat) aj c nj).1, (bldSeq bb ((f3.drop j).map Int.toNat) aj c nj).2)) ∧ Aside0 (Mach w0.heap.size bm vj nj (es ++ pre.map toE) wr) ∧ Aside0 (Bw w0.heap.size bm w0 w w.heap.size ⟨3, f1, f2, f3⟩ A3 c3 wr))
    case atStart => exact ⟨0, a, n0, v, [], rfl, rfl, by omega, by omega, HAC, ⟨by simp⟩, ⟨by simpa using HM1.out⟩, HBw⟩
    case round =>
      clear HM1 HBw
      obtain ⟨j, aj, nj, vj, pre, rfl, rfl, hj, hg, HA, HEq, HMj, HBw⟩ := hrel
      have hl := HBw.out.loc
      have hn3 : wr.cell? ⟨w.heap.size, 3, none⟩ = some (.slice A3 f3.length c3) := by simp [World.cell?, hl]
      clear hl
      by_cases hlt : j < f3.length
      · have HLt := Aside0.mk hlt
        have hlt0 : (j : Int) < (f3.length : Int) := by omega
        have hj63 : (f3.length : Int) ≤ 9223372036854775807 := by have := HL3.out; omega
        obtain ⟨ad3, cc, e0, _, hK, hcell⟩ := Kd.C_get HRK.out (0 : Int) j (by omega) (by omega)
        subst e0
        have hK : cc = [.int .i64 (f3.getD ((j : Int)).toNat 0)] := hK
        subst hK
        have hce := hcell 0 _ rfl
        replace hce : w0.cell? (ad3.add j) = some (.int .i64 (f3.getD j 0)) := by simpa [Kd.int, Kd.scalar] using hce
        have HCe := Aside0.mk hce
        replace hce := (HBw.out.b0.cell (World.block_lt_of_cell? w0 _ hce)).trans hce
        clear hcell
        have HDr : Aside0 (f3.getD j 0 ∈ f3 ∧ f3.drop j = f3.getD j 0 :: f3.drop (j + 1)) := ⟨by
          rw [List.getD_eq_getElem?_getD, List.getElem?_eq_getElem hlt]
          exact ⟨List.getElem_mem hlt, List.drop_eq_getElem_cons hlt⟩⟩
        generalize f3.getD j 0 = z at *
        have hz := HKid.out z HDr.out.1
        obtain ⟨m, rfl⟩ : ∃ m : Nat, z = (m : Int) := ⟨z.toNat, by omega⟩
        have HMn : Aside0 (m < n) := ⟨by omega⟩
        clear hz
        by_cases hj1 : j + 1 < f3.length
        · have hj1i : ((j : Int) + 1 < (f3.length : Int)) = True := eq_true (by omega)
          have HJ1 := Aside0.mk hj1
          have ho := HMj.out.obj
          have hc1 : wr.cell? ⟨bm, 1, none⟩ = some (.int .i64 nj) := by simp [World.cell?, ho]
          have hz1 : wr.frozen? ⟨bm, 1, none⟩ = false := by simp [World.frozen?, ho]
          clear ho hj1
          have HCs : Aside0 (∃ z2 r2, f3.drop (j + 1) = z2 :: r2) := ⟨⟨_, _, List.drop_eq_getElem_cons HJ1.out⟩⟩
          have HEq2 : Aside0 (bldSeq bb (f3.map Int.toNat) a c n0 = ((pre ++ (bb m aj nj (nj + 1)).1) ++ (bldSeq bb ((f3.drop (j + 1)).map Int.toNat) nj c (bb m aj nj (nj + 1)).2).1, (bldSeq bb ((f3.drop (j + 1)).map Int.toNat) nj c (bb m aj nj (nj + 1)).2).2)) := ⟨by
            obtain ⟨z2, r2, h2⟩ := HCs.out
            rw [HEq.out, HDr.out.2, h2]
            simp only [List.map_cons, Int.toNat_natCast, bldSeq, List.append_assoc]⟩
          have HX : Aside0 (nj + 1 ≤ (bb m aj nj (nj + 1)).2 ∧ (bb m aj nj (nj + 1)).2 ≤ 1000000 ∧ es.length + pre.length + (bb m aj nj (nj + 1)).1.length ≤ 1000000) := ⟨by
            have h1 := (HFits.out m aj nj (nj + 1) (by have := HA.out; omega) (by omega)).1
            have h2 := (bldSeq_fit bb ((f3.drop (j + 1)).map Int.toNat) (fun k _ => HFits.out k) nj c (bb m aj nj (nj + 1)).2 (by omega) (by have := HA.out; omega)).1
            have h3 := HLim.out
            rw [HEq2.out] at h3
            simp only [List.length_append] at h3
            omega⟩
          have hnjb : (nj : Int) ≤ 1000000 := by have := HX.out; omega
          go_upto_region 24 with fail
          obtain ⟨w2, hw2⟩ : ∃ w2, w2 = wr.setCell ⟨bm, 1, none⟩ (.int .i64 ((nj : Int) + 1)) := ⟨_, rfl⟩
          rw [← hw2]
          obtain ⟨hM2, hB2, hE2⟩ := HMj.out.count ((nj : Int) + 1)
          rw [← hw2] at hM2 hB2 hE2
          have HBw2 := Aside0.mk (HBw.out.step hB2 hE2)
          have hl2 := HBw2.out.loc
          have hn32 : w2.cell? ⟨w.heap.size, 3, none⟩ = some (.slice (some ad3) f3.length c3) := by simp [World.cell?, hl2]
          have hce2 := (HBw2.out.b0.cell (World.block_lt_of_cell? w0 _ HCe.out)).trans HCe.out
          have hcall := HIH.out m HMn.out aj nj (nj + 1) bm vj (es ++ pre.map toE) w2 (by have := HA.out; omega) (by omega) HBw2.out.b0 (by rw [show ((nj + 1 : Nat) : Int) = (nj : Int) + 1 by omega]; exact hM2) (by rw [HBB.out, List.length_append, List.length_map]; exact HX.out.2.2) (by rw [HBB.out]; exact HX.out.2.1)
          rw [HBB.out] at hcall
          clear hw2 hM2 hB2 hE2 hc1 hz1 hl2 HMj HBw hn3 hce
          go_wp2_with fail
          refine hcall.mono ?_
          rintro e w4 ⟨rfl, v4, hM4, hB4, hE4⟩
          dsimp only
          have HBw4 := Aside0.mk (HBw2.out.step hB4 hE4)
          have HM4 : Aside0 (Mach w0.heap.size bm v4 ((bb m aj nj (nj + 1)).2 : Nat) (es ++ (pre ++ (bb m aj nj (nj + 1)).1).map toE) w4) := ⟨by rw [List.map_append, ← List.append_assoc]; exact hM4⟩
          clear hcall hM4 hB4 hE4 hn32 hce2
          go_wp2_with fail
          go_roundg (f3.length - (j + 1))
          case measure => have := HLt.out; omega
          case rel => exact ⟨j + 1, nj, _, v4, _, rfl, by go_num, HLt.out, Nat.le_refl _, ⟨by have := HX.out; omega, by have := HX.out; have := HA.out; omega⟩, HEq2, HM4, HBw4⟩
        · have hj1i : ((j : Int) + 1 < (f3.length : Int)) = False := eq_false (by omega)
          have HNil : Aside0 (f3.drop (j + 1) = []) := ⟨List.drop_eq_nil_of_le (by omega)⟩
          have HEq2 : Aside0 (bldSeq bb (f3.map Int.toNat) a c n0 = (pre ++ (bb m aj c nj).1, (bb m aj c nj).2)) := ⟨by
            rw [HEq.out, HDr.out.2, HNil.out]
            simp only [List.map_cons, List.map_nil, Int.toNat_natCast, bldSeq]⟩
          have HX : Aside0 (nj ≤ (bb m aj c nj).2 ∧ (bb m aj c nj).2 ≤ 1000000 ∧ es.length + pre.length + (bb m aj c nj).1.length ≤ 1000000) := ⟨by
            have h1 := (HFits.out m aj c nj HA.out.1 HA.out.2).1
            have h3 := HLim.out
            rw [HEq2.out] at h3
            simp only [List.length_append] at h3
            omega⟩
          clear hj1
          have hcall := HIH.out m HMn.out aj c nj bm vj (es ++ pre.map toE) wr HA.out.1 HA.out.2 HBw.out.b0 HMj.out (by rw [HBB.out, List.length_append, List.length_map]; exact HX.out.2.2) (by rw [HBB.out]; exact HX.out.2.1)
          rw [HBB.out] at hcall
          go_wp2_with fail
          refine hcall.mono ?_
          rintro e w4 ⟨rfl, v4, hM4, hB4, hE4⟩
          dsimp only
          have HBw4 := Aside0.mk (HBw.out.step hB4 hE4)
          have HM4 : Aside0 (Mach w0.heap.size bm v4 ((bb m aj c nj).2 : Nat) (es ++ (pre ++ (bb m aj c nj).1).map toE) w4) := ⟨by rw [List.map_append, ← List.append_assoc]; exact hM4⟩
          clear hcall hM4 hB4 hE4 hn3 hce HMj HBw
          go_wp2_with fail
          go_roundg (f3.length - (j + 1))
          case measure => have := HLt.out; omega
          case rel => exact ⟨j + 1, c, _, v4, _, rfl, by go_num, HLt.out, Nat.le_refl _, ⟨by have := HX.out; have := HA.out; omega, by have := HX.out; have := HA.out; omega⟩, ⟨by rw [HEq2.out, HNil.out]; simp [bldSeq]⟩, HM4, HBw4⟩
      · obtain rfl : j = f3.length := by omega
        have hlt0 : ¬ (f3.length : Int) < (f3.length : Int) := by omega
        have HFin : Aside0 (bldSeq bb (f3.map Int.toNat) a c n0 = (pre, nj)) := ⟨by rw [HEq.out, List.drop_length]; simp [bldSeq]⟩
        go_wp2_with fail
        go_end0
        rw [HBv.out, HFin.out]
        first | exact ⟨rfl, ⟨vj, HMj.out⟩, HBw.out.bw, HBw.out.el⟩ | exact ⟨rfl, vj, HMj.out, HBw.out.bw, HBw.out.el⟩
  · have HKid := Aside0.mk (HV.out.kid n HN.out)
    rw [HXE.out] at HKid
    have hks : (patOf l ⟨#[]⟩).ks n = f3.map Int.toNat := by show (nodeAt l n).f3.map Int.toNat = _; rw [HXE.out]
    have hbv : bld (patOf l ⟨#[]⟩) (f + 1) n a c n0 = bldAlt (bld (patOf l ⟨#[]⟩) f) a c (f3.map Int.toNat) n0 := by
      have e1 : (patOf l ⟨#[]⟩).kd n = 4 := by show (nodeAt l n).f0.toNat = 4; rw [HXE.out]; rfl
      simp only [bld]
      rw [e1, hks]; rfl
    have HBv := Aside0.mk hbv
    have hel := HEl.out
    have hnl := HNl.out
    rw [hbv] at hel hnl
    have HLim : Aside0 (es.length + (bldAlt (bld (patOf l ⟨#[]⟩) f) a c (f3.map Int.toNat) n0).1.length ≤ 1000000 ∧ (bldAlt (bld (patOf l ⟨#[]⟩) f) a c (f3.map Int.toNat) n0).2 ≤ 1000000) := ⟨hel, hnl⟩
    have HL3 : Aside0 (f3.length ≤ 9223372036854775807) := ⟨HRK.out.2.1⟩
    have HFits : Aside0 (∀ k, Fit (bld (patOf l ⟨#[]⟩) f) k) := ⟨fun k => bld_fit _ f k⟩
    generalize hbb : bld (patOf l ⟨#[]⟩) f = bb at *
    have HBB := Aside0.mk hbb
    clear hbb
    clear hbv hel hnl hks
    go_wp2_with fail
    clear hn0 hn3
    go_loopg [13] f3.length (fun gg v13 wr => ∃ (j nj : Nat) (vj : Value) (pre : List Re.Way), v13 = .int .i64 j ∧ j ≤ f3.length ∧ f3.length - j ≤ gg ∧ Aside0 (a < nj ∧ c < nj) ∧ Aside0 (bldAlt bb a c (f3.map Int.toNat) n0 = (pre ++ (bldAlt bb a c ((f3.drop j).map Int.toNat) nj).1, (bldAlt bb a c ((f3.drop j).map Int.toNat) nj).2)) ∧ Aside0 (Mach w0.heap.size bm vj nj (es ++ pre.map toE) wr) ∧ Aside0 (Bw w0.heap.size bm w0 w w.heap.size ⟨4, f1, f2, f3⟩ A3 c3 wr))
    case atStart => exact ⟨0, n0, v, [], rfl, by omega, by omega, HAC, ⟨by simp⟩, ⟨by simpa using HM1.out⟩, HBw⟩
    case round =>
      clear HM1 HBw
      obtain ⟨j, nj, vj, pre, rfl, hj, hg, HA, HEq, HMj, HBw⟩ := hrel
      have hl := HBw.out.loc
      have hn3 : wr.cell? ⟨w.heap.size, 3, none⟩ = some (.slice A3 f3.length c3) := by simp [World.cell?, hl]
      clear hl
      by_cases hlt : j < f3.length
      · have HLt := Aside0.mk hlt
        have hlt0 : (j : Int) < (f3.length : Int) := by omega
        have hj63 : (f3.length : Int) ≤ 9223372036854775807 := by have := HL3.out; omega
        obtain ⟨ad3, cc, e0, _, hK, hcell⟩ := Kd.C_get HRK.out (0 : Int) j (by omega) (by omega)
        subst e0
        have hK : cc = [.int .i64 (f3.getD ((j : Int)).toNat 0)] := hK
        subst hK
        have hce := hcell 0 _ rfl
        replace hce : w0.cell? (ad3.add j) = some (.int .i64 (f3.getD j 0)) := by simpa [Kd.int, Kd.scalar] using hce
        replace hce := (HBw.out.b0.cell (World.block_lt_of_cell? w0 _ hce)).trans hce
        clear hcell
        have HDr : Aside0 (f3.getD j 0 ∈ f3 ∧ f3.drop j = f3.getD j 0 :: f3.drop (j + 1)) := ⟨by
          rw [List.getD_eq_getElem?_getD, List.getElem?_eq_getElem hlt]
          exact ⟨List.getElem_mem hlt, List.drop_eq_getElem_cons hlt⟩⟩
        generalize f3.getD j 0 = z at *
        have hz := HKid.out z HDr.out.1
        obtain ⟨m, rfl⟩ : ∃ m : Nat, z = (m : Int) := ⟨z.toNat, by omega⟩
        have HMn : Aside0 (m < n) := ⟨by omega⟩
        clear hz
        have HEq2 : Aside0 (bldAlt bb a c (f3.map Int.toNat) n0 = ((pre ++ (bb m a c nj).1) ++ (bldAlt bb a c ((f3.drop (j + 1)).map Int.toNat) (bb m a c nj).2).1, (bldAlt bb a c ((f3.drop (j + 1)).map Int.toNat) (bb m a c nj).2).2)) := ⟨by
          rw [HEq.out, HDr.out.2]
          simp only [List.map_cons, Int.toNat_natCast, bldAlt, List.append_assoc]⟩
        have HX : Aside0 (nj ≤ (bb m a c nj).2 ∧ (bb m a c nj).2 ≤ 1000000 ∧ es.length + pre.length + (bb m a c nj).1.length ≤ 1000000) := ⟨by
          have h1 := (HFits.out m a c nj HA.out.1 HA.out.2).1
          have h2 := (bldAlt_fit bb a c ((f3.drop (j + 1)).map Int.toNat) (fun k _ => HFits.out k) (bb m a c nj).2 (by have := HA.out; omega) (by have := HA.out; omega)).1
          have h3 := HLim.out
          rw [HEq2.out] at h3
          simp only [List.length_append] at h3
          omega⟩
        have hcall := HIH.out m HMn.out a c nj bm vj (es ++ pre.map toE) wr HA.out.1 HA.out.2 HBw.out.b0 HMj.out (by rw [HBB.out, List.length_append, List.length_map]; exact HX.out.2.2) (by rw [HBB.out]; exact HX.out.2.1)
        rw [HBB.out] at hcall
        go_wp2_with fail
        refine hcall.mono ?_
        rintro e w4 ⟨rfl, v4, hM4, hB4, hE4⟩
        dsimp only
        have HBw4 := Aside0.mk (HBw.out.step hB4 hE4)
        have HM4 : Aside0 (Mach w0.heap.size bm v4 ((bb m a c nj).2 : Nat) (es ++ (pre ++ (bb m a c nj).1).map toE) w4) := ⟨by rw [List.map_append, ← List.append_assoc]; exact hM4⟩
        clear hcall hM4 hB4 hE4 hn3 hce HMj HBw
        go_wp2_with fail
        go_roundg (f3.length - (j + 1))
        case measure => have := HLt.out; omega
        case rel => exact ⟨j + 1, _, v4, _, by go_num, HLt.out, Nat.le_refl _, ⟨by have := HX.out; have := HA.out; omega, by have := HX.out; have := HA.out; omega⟩, HEq2, HM4, HBw4⟩
      · obtain rfl : j = f3.length := by omega
        have hlt0 : ¬ (f3.length : Int) < (f3.length : Int) := by omega
        have HFin : Aside0 (bldAlt bb a c (f3.map Int.toNat) n0 = (pre, nj)) := ⟨by rw [HEq.out, List.drop_length]; simp [bldAlt]⟩
        go_wp2_with fail
        go_end0
        rw [HBv.out, HFin.out]
        first | exact ⟨rfl, ⟨vj, HMj.out⟩, HBw.out.bw, HBw.out.el⟩ | exact ⟨rfl, vj, HMj.out, HBw.out.bw, HBw.out.el⟩
  · have HOne := HV.out.one n HN.out (by rw [HXE.out]; show (5 : Int) ≤ 7; decide)
    have HKid := HV.out.kid n HN.out
    rw [HXE.out] at HOne HKid
    obtain ⟨k1, hk1⟩ := HOne
    have hk1 : f3 = [k1] := hk1
    subst hk1
    have hz := HKid k1 (by simp)
    obtain ⟨m, rfl⟩ : ∃ m : Nat, k1 = (m : Int) := ⟨k1.toNat, by omega⟩
    have HMn : Aside0 (m < n) := ⟨by omega⟩
    clear hz HKid
    have hbv : bld (patOf l ⟨#[]⟩) (f + 1) n a c n0 = ([((a : Int), (n0 : Int), -1)] ++ (bld (patOf l ⟨#[]⟩) f m n0 (n0 + 1) (n0 + 2)).1 ++ [((n0 : Int) + 1, (c : Int), -1)] ++ [] ++ [((a : Int), (c : Int), -1)], (bld (patOf l ⟨#[]⟩) f m n0 (n0 + 1) (n0 + 2)).2) := by
      have e1 : (patOf l ⟨#[]⟩).kd n = 7 := by show (nodeAt l n).f0.toNat = 7; rw [HXE.out]; rfl
      have e2 : ((patOf l ⟨#[]⟩).ks n).headD 0 = m := by show ((nodeAt l n).f3.map Int.toNat).headD 0 = m; rw [HXE.out]; simp
      simp only [bld]
      rw [e1, e2]
      rfl
    have HBv := Aside0.mk hbv
    have hel := HEl.out
    have hnl := HNl.out
    rw [hbv] at hel hnl
    simp only [List.length_append, List.length_cons, List.length_nil] at hel
    have hfit := (bld_fit (patOf l ⟨#[]⟩) f m n0 (n0 + 1) (n0 + 2) (by omega) (by omega)).1
    have HB : Aside0 (es.length + (bld (patOf l ⟨#[]⟩) f m n0 (n0 + 1) (n0 + 2)).1.length + 3 ≤ 1000000 ∧ es.length + 1 + (bld (patOf l ⟨#[]⟩) f m n0 (n0 + 1) (n0 + 2)).1.length ≤ 1000000 ∧ (bld (patOf l ⟨#[]⟩) f m n0 (n0 + 1) (n0 + 2)).2 ≤ 1000000) := ⟨by omega, by omega, by omega⟩
    have hn0b : (n0 : Int) ≤ 1000000 := by omega
    have ho := HM1.out.obj
    have hc1 : w1.cell? ⟨bm, 1, none⟩ = some (.int .i64 n0) := by simp [World.cell?, ho]
    have hz1 : w1.frozen? ⟨bm, 1, none⟩ = false := by simp [World.frozen?, ho]
    clear hbv hel hnl hfit ho
    go_upto_region 5 with fail
    obtain ⟨w2, hw2⟩ : ∃ w2, w2 = w1.setCell ⟨bm, 1, none⟩ (.int .i64 ((n0 : Int) + 2)) := ⟨_, rfl⟩
    rw [← hw2]
    obtain ⟨hM2, hB2, hE2⟩ := HM1.out.count ((n0 : Int) + 2)
    rw [← hw2] at hM2 hB2 hE2
    have HBw2 := Aside0.mk (HBw.out.step hB2 hE2)
    have hcall := l2way_calls w0.heap.size bm v ((n0 : Int) + 2) a n0 (-1) es w2 hM2 (by have := HB.out; omega)
    clear hw2 hM2 hB2 hE2 hc1 hz1 hn0 hn3 HM1 HBw
    go_wp2_with fail
    refine hcall.mono ?_
    rintro e w3 ⟨rfl, v3, hM3, hB3, hE3⟩
    dsimp only
    have HBw3 := Aside0.mk (HBw2.out.step hB3 hE3)
    have hl3 := HBw3.out.loc
    have hn3 : w3.cell? ⟨w.heap.size, 3, none⟩ = some (.slice A3 1 c3) := by simp [World.cell?, hl3]
    obtain ⟨ad3, cc, e0, _, hK, hcell⟩ := Kd.C_get (Kd.C_below HRK.out HBw3.out.b0) (0 : Int) 0 (by omega) (by simp)
    subst e0
    have hK : cc = [.int .i64 (([(m : Int)] : List Int).getD ((0 : Int)).toNat 0)] := hK
    subst hK
    have hce : w3.cell? ad3 = some (.int .i64 m) := by simpa [Kd.int, Kd.scalar, Addr.add] using hcell 0 _ rfl
    have hcall2 := HIH.out m HMn.out n0 (n0 + 1) (n0 + 2) bm v3 (es ++ [⟨(a : Int), (n0 : Int), -1⟩]) w3 (by omega) (by omega) HBw3.out.b0 (by rw [show ((n0 + 2 : Nat) : Int) = (n0 : Int) + 2 by omega]; exact hM3) (by rw [List.length_append, List.length_singleton]; exact HB.out.2.1) HB.out.2.2
    have e1 : ((n0 + 1 : Nat) : Int) = (n0 : Int) + 1 := by omega
    rw [e1] at hcall2
    generalize bld (patOf l ⟨#[]⟩) f m n0 (n0 + 1) (n0 + 2) = X at hcall2 HB HBv
    clear hcall hM3 hB3 hE3 hl3 hcell e1 HBw2
    go_wp2_with fail
    refine hcall2.mono ?_
    rintro e w4 ⟨rfl, v4, hM4, hB4, hE4⟩
    dsimp only
    have HBw4 := Aside0.mk (HBw3.out.step hB4 hE4)
    have hcall3 := l2way_calls w0.heap.size bm v4 (X.2 : Nat) ((n0 : Int) + 1) c (-1) _ w4 hM4 (by rw [List.length_append, List.length_append, List.length_singleton, List.length_map]; have := HB.out; omega)
    clear hcall2 hM4 hB4 hE4 hn3 hce HBw3
    go_wp2_with fail
    refine hcall3.mono ?_
    rintro e w5 ⟨rfl, v5, hM5, hB5, hE5⟩
    dsimp only
    have HBw5 := Aside0.mk (HBw4.out.step hB5 hE5)
    have HM5 := Aside0.mk hM5
    have hl5 := HBw5.out.loc
    have hn0 : w5.cell? ⟨w.heap.size, 0, none⟩ = some (.int .i64 7) := by simp [World.cell?, hl5]
    clear hcall3 hM5 hB5 hE5 hl5 HBw4
    have hcall6 := l2way_calls w0.heap.size bm v5 (X.2 : Nat) (a) c (-1) _ w5 HM5.out (by simp only [List.length_append, List.length_cons, List.length_nil, List.length_map]; have := HB.out; omega)
    go_wp2_with fail
    refine hcall6.mono ?_
    rintro e w6 ⟨rfl, v6, hM6, hB6, hE6⟩
    dsimp only
    have HBw6 := Aside0.mk (HBw5.out.step hB6 hE6)
    have HM6 := Aside0.mk hM6
    have hl6 := HBw6.out.loc
    have hn0 : w6.cell? ⟨w.heap.size, 0, none⟩ = some (.int .i64 7) := by simp [World.cell?, hl6]
    clear hcall6 hM6 hB6 hE6 hl6 HBw5 HM5
    go_wp2_with fail
    go_end0
    rw [HBv.out]
    exact ⟨rfl, _, by simpa only [List.map_append, List.map_cons, List.map_nil, List.append_nil, List.append_assoc, toE] using HM6.out, HBw6.out.bw, HBw6.out.el⟩
  · have HOne := HV.out.one n HN.out (by rw [HXE.out]; show (5 : Int) ≤ 5; decide)
    have HKid := HV.out.kid n HN.out
    rw [HXE.out] at HOne HKid
    obtain ⟨k1, hk1⟩ := HOne
    have hk1 : f3 = [k1] := hk1
    subst hk1
    have hz := HKid k1 (by simp)
    obtain ⟨m, rfl⟩ : ∃ m : Nat, k1 = (m : Int) := ⟨k1.toNat, by omega⟩
    have HMn : Aside0 (m < n) := ⟨by omega⟩
    clear hz HKid
    have hbv : bld (patOf l ⟨#[]⟩) (f + 1) n a c n0 = ([((a : Int), (n0 : Int), -1)] ++ (bld (patOf l ⟨#[]⟩) f m n0 (n0 + 1) (n0 + 2)).1 ++ [((n0 : Int) + 1, (c : Int), -1)] ++ [((n0 : Int) + 1, (n0 : Int), -1)] ++ [((a : Int), (c : Int), -1)], (bld (patOf l ⟨#[]⟩) f m n0 (n0 + 1) (n0 + 2)).2) := by
      have e1 : (patOf l ⟨#[]⟩).kd n = 5 := by show (nodeAt l n).f0.toNat = 5; rw [HXE.out]; rfl
      have e2 : ((patOf l ⟨#[]⟩).ks n).headD 0 = m := by show ((nodeAt l n).f3.map Int.toNat).headD 0 = m; rw [HXE.out]; simp
      simp only [bld]
      rw [e1, e2]
      rfl
    have HBv := Aside0.mk hbv
    have hel := HEl.out
    have hnl := HNl.out
    rw [hbv] at hel hnl
    simp only [List.length_append, List.length_cons, List.length_nil] at hel
    have hfit := (bld_fit (patOf l ⟨#[]⟩) f m n0 (n0 + 1) (n0 + 2) (by omega) (by omega)).1
    have HB : Aside0 (es.length + (bld (patOf l ⟨#[]⟩) f m n0 (n0 + 1) (n0 + 2)).1.length + 3 ≤ 1000000 ∧ es.length + 1 + (bld (patOf l ⟨#[]⟩) f m n0 (n0 + 1) (n0 + 2)).1.length ≤ 1000000 ∧ (bld (patOf l ⟨#[]⟩) f m n0 (n0 + 1) (n0 + 2)).2 ≤ 1000000) := ⟨by omega, by omega, by omega⟩
    have hn0b : (n0 : Int) ≤ 1000000 := by omega
    have ho := HM1.out.obj
    have hc1 : w1.cell? ⟨bm, 1, none⟩ = some (.int .i64 n0) := by simp [World.cell?, ho]
    have hz1 : w1.frozen? ⟨bm, 1, none⟩ = false := by simp [World.frozen?, ho]
    clear hbv hel hnl hfit ho
    go_upto_region 5 with fail
    obtain ⟨w2, hw2⟩ : ∃ w2, w2 = w1.setCell ⟨bm, 1, none⟩ (.int .i64 ((n0 : Int) + 2)) := ⟨_, rfl⟩
    rw [← hw2]
    obtain ⟨hM2, hB2, hE2⟩ := HM1.out.count ((n0 : Int) + 2)
    rw [← hw2] at hM2 hB2 hE2
    have HBw2 := Aside0.mk (HBw.out.step hB2 hE2)
    have hcall := l2way_calls w0.heap.size bm v ((n0 : Int) + 2) a n0 (-1) es w2 hM2 (by have := HB.out; omega)
    clear hw2 hM2 hB2 hE2 hc1 hz1 hn0 hn3 HM1 HBw
    go_wp2_with fail
    refine hcall.mono ?_
    rintro e w3 ⟨rfl, v3, hM3, hB3, hE3⟩
    dsimp only
    have HBw3 := Aside0.mk (HBw2.out.step hB3 hE3)
    have hl3 := HBw3.out.loc
    have hn3 : w3.cell? ⟨w.heap.size, 3, none⟩ = some (.slice A3 1 c3) := by simp [World.cell?, hl3]
    obtain ⟨ad3, cc, e0, _, hK, hcell⟩ := Kd.C_get (Kd.C_below HRK.out HBw3.out.b0) (0 : Int) 0 (by omega) (by simp)
    subst e0
    have hK : cc = [.int .i64 (([(m : Int)] : List Int).getD ((0 : Int)).toNat 0)] := hK
    subst hK
    have hce : w3.cell? ad3 = some (.int .i64 m) := by simpa [Kd.int, Kd.scalar, Addr.add] using hcell 0 _ rfl
    have hcall2 := HIH.out m HMn.out n0 (n0 + 1) (n0 + 2) bm v3 (es ++ [⟨(a : Int), (n0 : Int), -1⟩]) w3 (by omega) (by omega) HBw3.out.b0 (by rw [show ((n0 + 2 : Nat) : Int) = (n0 : Int) + 2 by omega]; exact hM3) (by rw [List.length_append, List.length_singleton]; exact HB.out.2.1) HB.out.2.2
    have e1 : ((n0 + 1 : Nat) : Int) = (n0 : Int) + 1 := by omega
    rw [e1] at hcall2
    generalize bld (patOf l ⟨#[]⟩) f m n0 (n0 + 1) (n0 + 2) = X at hcall2 HB HBv
    clear hcall hM3 hB3 hE3 hl3 hcell e1 HBw2
    go_wp2_with fail
    refine hcall2.mono ?_
    rintro e w4 ⟨rfl, v4, hM4, hB4, hE4⟩
    dsimp only
    have HBw4 := Aside0.mk (HBw3.out.step hB4 hE4)
    have hcall3 := l2way_calls w0.heap.size bm v4 (X.2 : Nat) ((n0 : Int) + 1) c (-1) _ w4 hM4 (by rw [List.length_append, List.length_append, List.length_singleton, List.length_map]; have := HB.out; omega)
    clear hcall2 hM4 hB4 hE4 hn3 hce HBw3
    go_wp2_with fail
    refine hcall3.mono ?_
    rintro e w5 ⟨rfl, v5, hM5, hB5, hE5⟩
    dsimp only
    have HBw5 := Aside0.mk (HBw4.out.step hB5 hE5)
    have HM5 := Aside0.mk hM5
    have hl5 := HBw5.out.loc
    have hn0 : w5.cell? ⟨w.heap.size, 0, none⟩ = some (.int .i64 5) := by simp [World.cell?, hl5]
    clear hcall3 hM5 hB5 hE5 hl5 HBw4
    have hcall6 := l2way_calls w0.heap.size bm v5 (X.2 : Nat) ((n0 : Int) + 1) n0 (-1) _ w5 HM5.out (by simp only [List.length_append, List.length_cons, List.length_nil, List.length_map]; have := HB.out; omega)
    go_wp2_with fail
    refine hcall6.mono ?_
    rintro e w6 ⟨rfl, v6, hM6, hB6, hE6⟩
    dsimp only
    have HBw6 := Aside0.mk (HBw5.out.step hB6 hE6)
    have HM6 := Aside0.mk hM6
    have hl6 := HBw6.out.loc
    have hn0 : w6.cell? ⟨w.heap.size, 0, none⟩ = some (.int .i64 5) := by simp [World.cell?, hl6]
    clear hcall6 hM6 hB6 hE6 hl6 HBw5 HM5
    have hcall7 := l2way_calls w0.heap.size bm v6 (X.2 : Nat) (a) c (-1) _ w6 HM6.out (by simp only [List.length_append, List.length_cons, List.length_nil, List.length_map]; have := HB.out; omega)
    go_wp2_with fail
    refine hcall7.mono ?_
    rintro e w7 ⟨rfl, v7, hM7, hB7, hE7⟩
    dsimp only
    have HBw7 := Aside0.mk (HBw6.out.step hB7 hE7)
    have HM7 := Aside0.mk hM7
    have hl7 := HBw7.out.loc
    have hn0 : w7.cell? ⟨w.heap.size, 0, none⟩ = some (.int .i64 5) := by simp [World.cell?, hl7]
    clear hcall7 hM7 hB7 hE7 hl7 HBw6 HM6
    go_wp2_with fail
    go_end0
    rw [HBv.out]
    exact ⟨rfl, _, by simpa only [List.map_append, List.map_cons, List.map_nil, List.append_nil, List.append_assoc, toE] using HM7.out, HBw7.out.bw, HBw7.out.el⟩
  · have HOne := HV.out.one n HN.out (by rw [HXE.out]; show (5 : Int) ≤ 6; decide)
    have HKid := HV.out.kid n HN.out
    rw [HXE.out] at HOne HKid
    obtain ⟨k1, hk1⟩ := HOne
    have hk1 : f3 = [k1] := hk1
    subst hk1
    have hz := HKid k1 (by simp)
    obtain ⟨m, rfl⟩ : ∃ m : Nat, k1 = (m : Int) := ⟨k1.toNat, by omega⟩
    have HMn : Aside0 (m < n) := ⟨by omega⟩
    clear hz HKid
    have hbv : bld (patOf l ⟨#[]⟩) (f + 1) n a c n0 = ([((a : Int), (n0 : Int), -1)] ++ (bld (patOf l ⟨#[]⟩) f m n0 (n0 + 1) (n0 + 2)).1 ++ [((n0 : Int) + 1, (c : Int), -1)] ++ [((n0 : Int) + 1, (n0 : Int), -1)] ++ [], (bld (patOf l ⟨#[]⟩) f m n0 (n0 + 1) (n0 + 2)).2) := by
      have e1 : (patOf l ⟨#[]⟩).kd n = 6 := by show (nodeAt l n).f0.toNat = 6; rw [HXE.out]; rfl
      have e2 : ((patOf l ⟨#[]⟩).ks n).headD 0 = m := by show ((nodeAt l n).f3.map Int.toNat).headD 0 = m; rw [HXE.out]; simp
      simp only [bld]
      rw [e1, e2]
      rfl
    have HBv := Aside0.mk hbv
    have hel := HEl.out
    have hnl := HNl.out
    rw [hbv] at hel hnl
    simp only [List.length_append, List.length_cons, List.length_nil] at hel
    have hfit := (bld_fit (patOf l ⟨#[]⟩) f m n0 (n0 + 1) (n0 + 2) (by omega) (by omega)).1
    have HB : Aside0 (es.length + (bld (patOf l ⟨#[]⟩) f m n0 (n0 + 1) (n0 + 2)).1.length + 3 ≤ 1000000 ∧ es.length + 1 + (bld (patOf l ⟨#[]⟩) f m n0 (n0 + 1) (n0 + 2)).1.length ≤ 1000000 ∧ (bld (patOf l ⟨#[]⟩) f m n0 (n0 + 1) (n0 + 2)).2 ≤ 1000000) := ⟨by omega, by omega, by omega⟩
    have hn0b : (n0 : Int) ≤ 1000000 := by omega
    have ho := HM1.out.obj
    have hc1 : w1.cell? ⟨bm, 1, none⟩ = some (.int .i64 n0) := by simp [World.cell?, ho]
    have hz1 : w1.frozen? ⟨bm, 1, none⟩ = false := by simp [World.frozen?, ho]
    clear hbv hel hnl hfit ho
    go_upto_region 5 with fail
    obtain ⟨w2, hw2⟩ : ∃ w2, w2 = w1.setCell ⟨bm, 1, none⟩ (.int .i64 ((n0 : Int) + 2)) := ⟨_, rfl⟩
    rw [← hw2]
    obtain ⟨hM2, hB2, hE2⟩ := HM1.out.count ((n0 : Int) + 2)
    rw [← hw2] at hM2 hB2 hE2
    have HBw2 := Aside0.mk (HBw.out.step hB2 hE2)
    have hcall := l2way_calls w0.heap.size bm v ((n0 : Int) + 2) a n0 (-1) es w2 hM2 (by have := HB.out; omega)
    clear hw2 hM2 hB2 hE2 hc1 hz1 hn0 hn3 HM1 HBw
    go_wp2_with fail
    refine hcall.mono ?_
    rintro e w3 ⟨rfl, v3, hM3, hB3, hE3⟩
    dsimp only
    have HBw3 := Aside0.mk (HBw2.out.step hB3 hE3)
    have hl3 := HBw3.out.loc
    have hn3 : w3.cell? ⟨w.heap.size, 3, none⟩ = some (.slice A3 1 c3) := by simp [World.cell?, hl3]
    obtain ⟨ad3, cc, e0, _, hK, hcell⟩ := Kd.C_get (Kd.C_below HRK.out HBw3.out.b0) (0 : Int) 0 (by omega) (by simp)
    subst e0
    have hK : cc = [.int .i64 (([(m : Int)] : List Int).getD ((0 : Int)).toNat 0)] := hK
    subst hK
    have hce : w3.cell? ad3 = some (.int .i64 m) := by simpa [Kd.int, Kd.scalar, Addr.add] using hcell 0 _ rfl
    have hcall2 := HIH.out m HMn.out n0 (n0 + 1) (n0 + 2) bm v3 (es ++ [⟨(a : Int), (n0 : Int), -1⟩]) w3 (by omega) (by omega) HBw3.out.b0 (by rw [show ((n0 + 2 : Nat) : Int) = (n0 : Int) + 2 by omega]; exact hM3) (by rw [List.length_append, List.length_singleton]; exact HB.out.2.1) HB.out.2.2
    have e1 : ((n0 + 1 : Nat) : Int) = (n0 : Int) + 1 := by omega
    rw [e1] at hcall2
    generalize bld (patOf l ⟨#[]⟩) f m n0 (n0 + 1) (n0 + 2) = X at hcall2 HB HBv
    clear hcall hM3 hB3 hE3 hl3 hcell e1 HBw2
    go_wp2_with fail
    refine hcall2.mono ?_
    rintro e w4 ⟨rfl, v4, hM4, hB4, hE4⟩
    dsimp only
    have HBw4 := Aside0.mk (HBw3.out.step hB4 hE4)
    have hcall3 := l2way_calls w0.heap.size bm v4 (X.2 : Nat) ((n0 : Int) + 1) c (-1) _ w4 hM4 (by rw [List.length_append, List.length_append, List.length_singleton, List.length_map]; have := HB.out; omega)
    clear hcall2 hM4 hB4 hE4 hn3 hce HBw3
    go_wp2_with fail
    refine hcall3.mono ?_
    rintro e w5 ⟨rfl, v5, hM5, hB5, hE5⟩
    dsimp only
    have HBw5 := Aside0.mk (HBw4.out.step hB5 hE5)
    have HM5 := Aside0.mk hM5
    have hl5 := HBw5.out.loc
    have hn0 : w5.cell? ⟨w.heap.size, 0, none⟩ = some (.int .i64 6) := by simp [World.cell?, hl5]
    clear hcall3 hM5 hB5 hE5 hl5 HBw4
    have hcall6 := l2way_calls w0.heap.size bm v5 (X.2 : Nat) ((n0 : Int) + 1) n0 (-1) _ w5 HM5.out (by simp only [List.length_append, List.length_cons, List.length_nil, List.length_map]; have := HB.out; omega)
    go_wp2_with fail
    refine hcall6.mono ?_
    rintro e w6 ⟨rfl, v6, hM6, hB6, hE6⟩
    dsimp only
    have HBw6 := Aside0.mk (HBw5.out.step hB6 hE6)
    have HM6 := Aside0.mk hM6
    have hl6 := HBw6.out.loc
    have hn0 : w6.cell? ⟨w.heap.size, 0, none⟩ = some (.int .i64 6) := by simp [World.cell?, hl6]
    clear hcall6 hM6 hB6 hE6 hl6 HBw5 HM5
    go_wp2_with fail
    go_end0
    rw [HBv.out]
    exact ⟨rfl, _, by simpa only [List.map_append, List.map_cons, List.map_nil, List.append_nil, List.append_assoc, toE] using HM6.out, HBw6.out.bw, HBw6.out.el⟩
theorem build_calls (hV : Valid l) (hr : Kd.C k49 w0 A0 l.length l) : ∀ (f n : Nat), n < f → n < l.length → BuildsAt l A0 c0 w0 f n
  | 0, _, h, _ => absurd h (by omega)
  | f + 1, n, h, hn => build_step hV hr f n hn fun m hm => build_calls hV hr f m (by omega) (by omega)
end
end Go.Proofs.YtlakdfbfkbndiaaDoor.Q
namespace Go.Proofs.YtlakdfbfkbndiaaDoor.Q
open Go.RowKit Go.Proofs.YtlakdfbfkbndiaaDoor.Re Go.Proofs.YtlakdfbfkbndiaaDoorW.PrintWords Go.Proofs.YtlakdfbfkbndiaaDoorW.PrintLast Go.Proofs.YtlakdfbfkbndiaaDoorW.PrintMore
def allWays (l : List S49) : List Re.Way × Nat := bld (patOf l ⟨#[]⟩) l.length (l.length - 1) 0 1 2
def nodeOkB (l : List S49) (n : Nat) : Bool :=
  decide (0 ≤ (nodeAt l n).f0) && (decide ((nodeAt l n).f0 ≤ 7) && (((nodeAt l n).f3.all fun k => decide (0 ≤ k) && decide (k < (n : Int))) && ((decide ((nodeAt l n).f0 < 5) || decide ((nodeAt l n).f3.length = 1)) &&
    ((decide ((nodeAt l n).f0 ≠ 3) || decide ((nodeAt l n).f3.length ≠ 0)) && ((decide ((nodeAt l n).f0 ≠ 0) || decide ((nodeAt l n).f2.size % 2 = 0)) && decide ((nodeAt l n).f2.size ≤ 1099511627776))))))
def validB (l : List S49) : Bool := decide (1 ≤ l.length) && (decide (l.length ≤ 200) && (List.range l.length).all (nodeOkB l))
theorem validB_valid {l : List S49} (h : validB l = true) : Valid l := by
  unfold validB at h
  simp only [Bool.and_eq_true, decide_eq_true_eq, List.all_eq_true, List.mem_range] at h
  obtain ⟨h1, h2, h3⟩ := h
  have h4 : ∀ n, n < l.length → _ := fun n hn => by
    have := h3 n hn
    unfold nodeOkB at this
    simp only [Bool.and_eq_true, Bool.or_eq_true, decide_eq_true_eq, List.all_eq_true] at this
    exact this
  refine ⟨h1, h2, fun n hn => ⟨(h4 n hn).1, (h4 n hn).2.1⟩, fun n hn k hk => (h4 n hn).2.2.1 k hk, fun n hn h5 => ?_, fun n hn h5 => ?_, fun n hn h5 => ?_, fun n hn => (h4 n hn).2.2.2.2.2.2⟩
  · rcases (h4 n hn).2.2.2.1 with h | h
    · omega
    · exact List.length_eq_one_iff.mp h
  · rcases (h4 n hn).2.2.2.2.1 with h | h
    · exact absurd h5 h
    · intro e; rw [e] at h; exact h rfl
  · rcases (h4 n hn).2.2.2.2.2.1 with h | h
    · exact absurd h5 h
    · exact h
def waysOkB (l : List S49) : Bool := validB l && (decide ((allWays l).1.length ≤ 1000000) && decide ((allWays l).2 ≤ 1000000))
def waysOk (l : List S49) : Prop := Valid l ∧ (allWays l).1.length ≤ 1000000 ∧ (allWays l).2 ≤ 1000000
theorem waysOkB_ok {l : List S49} (h : waysOkB l = true) : waysOk l := by
  unfold waysOkB at h
  simp only [Bool.and_eq_true, decide_eq_true_eq] at h
  exact ⟨validB_valid h.1, h.2.1, h.2.2⟩
def spec_l2ways.f (l : List S49) : Option (List S85 × Int) := if waysOkB l = true then some ((allWays l).1.map toE, ((allWays l).2 : Int)) else none
set_option maxRecDepth 100000 in
theorem spec_l2ways.calls (A0 : Option Addr) (c0 : Nat) (l0 : List S49) (r1 : List S85) (r2 : Int) (w : World) (hr0 : Kd.C k49 w A0 l0.length l0) (hc0 : l0.length ≤ c0) (h : spec_l2ways.f l0 = some (r1, r2)) :
    Calls Tryd.prog 38 #[.slice A0 l0.length c0] w fun e w' => ∃ v0_, e = .returned (.agg #[v0_, .int .i64 r2]) ∧ Kd.R k85 85 w' w.heap.size (fun _ => True) v0_ r1 ∧ Below w.heap.size w w' := by
  unfold spec_l2ways.f at h
  by_cases hokB : waysOkB l0 = true
  case neg => rw [if_neg hokB] at h; cases h
  rw [if_pos hokB] at h
  have hok := waysOkB_ok hokB
  clear hokB
  obtain ⟨rfl, rfl⟩ : (allWays l0).1.map toE = r1 ∧ ((allWays l0).2 : Int) = r2 := by simpa using h
  clear h
  have HOk := Aside0.mk hok
  have HR := Aside0.mk hr0
  have h1 : (1 : Int) ≤ (l0.length : Int) := by have := hok.1.pos; omega
  have h2 : (l0.length : Int) ≤ 200 := by have := hok.1.len; omega
  clear hok hr0
  go_enter Tryd.func38, Tryd.ntmps38
  go_upto_region 2 with fail
  obtain ⟨w1, hw1⟩ : ∃ w1, w1 = (w.alloc (.cells #[.slice none 0 0, .int .i64 0] 59)).alloc (.cells #[.slice none 0 0, .int .i64 2] 59) := ⟨_, rfl⟩
  rw [← hw1]
  have hb1 : Below w.heap.size w w1 := by rw [hw1]; exact below_alloc (below_alloc (Below.refl _ _) _) _
  have hM1 : Mach w.heap.size (w.heap.size + 1) (.slice none 0 0) 2 [] w1 := {
    lo := by omega
    obj := by
      have e : (w.alloc (.cells #[.slice none 0 0, .int .i64 0] 59)).heap.size = w.heap.size + 1 := by simp
      rw [hw1, ← e]; exact heap_alloc_new _ _
    row := Kd.R_nil _ _ _ _ _
    sz := hb1.size }
  have ho1 : w1.heap[w.heap.size]? = some (.cells #[.slice none 0 0, .int .i64 0] 59 (0, 0)) := by
    rw [hw1, Below.heap_alloc _ _ _ (by simp)]; exact heap_alloc_new _ _
  have hcall : Calls Tryd.prog 56 #[.pointer (some ⟨w.heap.size + 1, 0, none⟩), .slice A0 l0.length c0, .int .i64 ((l0.length : Int) - 1), .int .i64 0, .int .i64 1] w1 fun e w' => e = .returned (.tuple #[]) ∧
      ∃ v', Mach w.heap.size (w.heap.size + 1) v' ((allWays l0).2 : Nat) ([] ++ (allWays l0).1.map toE) w' ∧ Below w.heap.size w1 w' ∧ Else (w.heap.size + 1) w1 w' := by
    have h := build_calls (c0 := c0) HOk.out.1 HR.out l0.length (l0.length - 1) (by omega) (by omega) 0 1 2 (w.heap.size + 1) (.slice none 0 0) [] w1 (by omega) (by omega) hb1 hM1 (by rw [List.length_nil, Nat.zero_add]; exact HOk.out.2.1) HOk.out.2.2
    have e1 : ((l0.length - 1 : Nat) : Int) = (l0.length : Int) - 1 := by omega
    rw [e1] at h
    exact h
  have HB1 := Aside0.mk hb1
  have HO1 := Aside0.mk ho1
  clear hw1 hb1 hM1 ho1
  go_wp2_with fail
  refine hcall.mono ?_
  rintro e w2 ⟨rfl, v2, hM2, hB2, hE2⟩
  dsimp only
  obtain ⟨A2, c2, hv, _, _⟩ := Kd.R_reads hM2.row
  subst hv
  have ho2 := hE2 w.heap.size _ (by omega) HO1.out (by simp)
  have hx0 : w2.cell? ⟨w.heap.size + 1, 0, none⟩ = some (.slice A2 ([] ++ (allWays l0).1.map toE).length c2) := by simp [World.cell?, hM2.obj]
  have hx1 : w2.cell? ⟨w.heap.size + 1, 1, none⟩ = some (.int .i64 ((allWays l0).2 : Nat)) := by simp [World.cell?, hM2.obj]
  have hy0 : w2.cell? ⟨w.heap.size, 0, none⟩ = some (.slice none 0 0) := by simp [World.cell?, ho2]
  have hy1 : w2.cell? ⟨w.heap.size, 1, none⟩ = some (.int .i64 0) := by simp [World.cell?, ho2]
  have hz0 : w2.frozen? ⟨w.heap.size, 0, none⟩ = false := by simp [World.frozen?, ho2]
  have hz1 : w2.frozen? ⟨w.heap.size, 1, none⟩ = false := by simp [World.frozen?, ho2]
  have HM2 := Aside0.mk hM2
  have HB2 := Aside0.mk (HB1.out.trans hB2)
  have HO2 := Aside0.mk ho2
  clear hcall hM2 hB2 hE2 ho2
  go_wp2_with fail
  rw [List.nil_append] at HM2
  have hob3 : ((w2.setCell ⟨w.heap.size, 0, none⟩ (.slice A2 (allWays l0).1.length c2)).setCell ⟨w.heap.size, 1, none⟩ (.int .i64 (allWays l0).2)).heap[w.heap.size]? = some (.cells #[.slice A2 (allWays l0).1.length c2, .int .i64 (allWays l0).2] 59 (0, 0)) := by simp [World.setCell, Array.getElem?_modify, HO2.out]
  have ho2' : (w2.setCell ⟨w.heap.size, 0, none⟩ (.slice A2 (allWays l0).1.length c2)).heap[w.heap.size]? = some (.cells #[.slice A2 (allWays l0).1.length c2, .int .i64 0] 59 (0, 0)) := by simp [World.setCell, Array.getElem?_modify, HO2.out]
  have HRow := Aside0.mk (Kd.R_set (Kd.R_set HM2.out.row HO2.out (by decide) 0 (.slice A2 (allWays l0).1.length c2)) ho2' (by decide) 1 (.int .i64 (allWays l0).2))
  have HBel := Aside0.mk ((HB2.out.setCell (p := ⟨w.heap.size, 0, none⟩) (Nat.le_refl _) (.slice A2 (allWays l0).1.length c2)).setCell (p := ⟨w.heap.size, 1, none⟩) (Nat.le_refl _) (.int .i64 (allWays l0).2))
  have hf0 : ((w2.setCell ⟨w.heap.size, 0, none⟩ (.slice A2 (allWays l0).1.length c2)).setCell ⟨w.heap.size, 1, none⟩ (.int .i64 (allWays l0).2)).cell? ⟨w.heap.size, 0, none⟩ = some (.slice A2 (allWays l0).1.length c2) := by simp [World.cell?, hob3]
  have hf1 : ((w2.setCell ⟨w.heap.size, 0, none⟩ (.slice A2 (allWays l0).1.length c2)).setCell ⟨w.heap.size, 1, none⟩ (.int .i64 (allWays l0).2)).cell? ⟨w.heap.size, 1, none⟩ = some (.int .i64 (allWays l0).2) := by simp [World.cell?, hob3]
  generalize (w2.setCell ⟨w.heap.size, 0, none⟩ (.slice A2 (allWays l0).1.length c2)).setCell ⟨w.heap.size, 1, none⟩ (.int .i64 (allWays l0).2) = w5 at *
  rw [List.length_map] at HRow
  clear hx0 hx1 hy0 hy1 hz0 hz1 ho2'
  refine bodyPost_ret (results_cell_row rfl _ _ w.heap.size 59 #[.slice A2 (allWays l0).1.length c2, .int .i64 (allWays l0).2] (0, 0) _ rfl hob3 Tryd.underlying59 rfl (by kernel_rfl)) rfl ?_
  exact ⟨_, rfl, HRow.out, HBel.out⟩
end Go.Proofs.YtlakdfbfkbndiaaDoor.Q
namespace Go.Proofs.YtlakdfbfkbndiaaDoor.Q
open Go.RowKit Go.Proofs.YtlakdfbfkbndiaaDoorW.PrintWords Go.Proofs.YtlakdfbfkbndiaaDoorW.PrintLast Go.Proofs.YtlakdfbfkbndiaaDoorW.PrintMore
attribute [local go_sem] max2_int min2_int max_two min_two max_three min_three max_four min_four   -- for this text's walks alone
set_option linter.unusedVariables false
set_option linter.unusedSimpArgs false
def laws_toIntS.l0 : Nat → List Int → List Int → Int → Option (List Int)
 | 0,_,_,_=>none
 | k + 1,x0,x3,x4=>if x4 < (x0.length : Int) then (if 0 ≤ x4 then (if x4 < (x3.length : Int) then (laws_toIntS.l0 k x0 (x3.set (x4 : Int).toNat (rd x0 x4)) (wrap64 (x4 + 1))) else (none)) else (none)) else (some x3)
def laws_toIntS.f (k : Nat) (l0 : List Int) : Option (List Int):=if 0 ≤ (l0.length : Int) then (if ((l0.length : Int) : Int).toNat ≤ 35184372088832 then (laws_toIntS.l0 k l0 (List.replicate ((l0.length : Int) : Int).toNat 0) 0) else (none)) else (none)
set_option maxHeartbeats 8000000 in
set_option maxRecDepth 100000 in
theorem laws_toIntS.calls (k : Nat) (A0 : Option Addr) (c0 : Nat) (l0 : List Int) (r : List Int) (w : World) (hr0 : Kd.C (Kd.int .i64) w A0 l0.length l0) (hc0 : l0.length ≤ c0) (h : laws_toIntS.f k l0 = some r) :
  Calls Tryd.prog 59 #[.slice A0 l0.length c0] w fun e w'=>∃ v0_ : Value,e = .returned (v0_) ∧ Kd.R (Kd.int .i64) 3 w' w.heap.size (fun _=>True) v0_ r ∧ Below w.heap.size w w':=by
 have HR0:=Aside0.mk hr0
 have HC0:=Aside0.mk hc0
 clear hr0 hc0
 have HB:=Aside0.mk (Below.refl w.heap.size w)
 have H : (if 0 ≤ (l0.length : Int) then (if ((l0.length : Int) : Int).toNat ≤ 35184372088832 then (laws_toIntS.l0 k l0 (List.replicate ((l0.length : Int) : Int).toNat 0) 0) else (none)) else (none)) = some r:=h
 clear h
 by_cases c2 : 0 ≤ (l0.length : Int)
 ·rw [if_pos c2] at H
  have c2b0:=eq_true c2
  have c2b1 : decide (0 ≤ (l0.length : Int)) = true:=decide_eq_true c2
  clear c2
  by_cases c3 : ((l0.length : Int) : Int).toNat ≤ 35184372088832
  ·rw [if_pos c3] at H
   have c3b0:=eq_true c3
   have c3b1 : decide (((l0.length : Int) : Int).toNat ≤ 35184372088832) = true:=decide_eq_true c3
   clear c3
   obtain ⟨y181,hy181⟩ : ∃ y_ : List Int,y_ = (List.replicate ((l0.length : Int) : Int).toNat 0):=⟨_,rfl⟩
   replace H : (laws_toIntS.l0 k l0 y181 0) = some r:=by first|(rw [hy181];with_reducible exact H)|(have H2_:=(Option.bind_some _ _).symm.trans H;rw [hy181];with_reducible exact H2_)|(have H2_:=(Option.bind_some _ _).symm.trans H;with_reducible exact H2_)|with_reducible exact H|(rw [hy181];exact H)|exact H
   have Ny181:=Aside0.mk hy181
   clear hy181
   have H':=Aside0.mk H
   clear H
   go_enter Tryd.func59,Tryd.ntmps59
   go_wp2_with (first|((with_reducible refine gate_dst (N:=7) rfl ?_);refine Kd.R_make (Kd.int .i64) _ 3 rfl (N:=7) rfl 31 _ _ rfl (l0.length : Int) rfl rfl Tryd.underlying31 (.int .i64 0) 8 info3 rfl (by decide) (by omega) 0 (ok:=fun _=>True) (okp:=fun _=>True) rfl (fun _ hk=>hk) trivial (of_decide_eq_true (by first|(with_reducible assumption)|assumption)) (Nat.le_trans (Nat.mul_le_mul_right _ (of_decide_eq_true (by first|(with_reducible assumption)|assumption) : (l0.length : Int).toNat ≤ 35184372088832)) (by omega)) (Below.refl _ _) (Nat.le_refl _) ?_;intro v182 w4 ho5 hb hg_ hnew_;clear hg_ hnew_;(first|rw [← Ny181.out] at ho5|(simp only [Int.reduceToNat] at ho5;rw [← Ny181.out] at ho5));have n0_:=Aside0.mk (Kd.R_lower ho5 (below_size (by repeat (first|(with_reducible first|exact HB.out|apply below_alloc|apply pw_below_drewN|apply below_drew1)|exact HB.out))));have n1_:=Aside0.mk (below_step (by repeat (first|(with_reducible first|exact HB.out|apply below_alloc|apply pw_below_drewN|apply below_drew1)|exact HB.out)) hb);clear HB;have HO183:=n0_;have HB:=n1_;clear n0_ n1_;clear hb ho5))
   go_loopg [4] k (fun kq v4 w'=>∃ (x3_1 : List Int) (x4_1 : Int),v4 = .int .i64 x4_1 ∧ Aside0 (laws_toIntS.l0 kq l0 x3_1 x4_1 = some r) ∧ Aside0 (kq ≤ k) ∧ Aside0 (Kd.R (Kd.int .i64) 3 w' w.heap.size (fun _=>True) v182 x3_1) ∧ Aside0 (Below w.heap.size w w'))
   case atStart=>exact ⟨(y181),(0),(by first|rfl|(simp;done)|(simp [*];done)),H',⟨Nat.le_refl _⟩,⟨by (with_reducible repeat (first|apply Kd.R_alloc|apply Kd.R_drewN|apply Kd.R_drew));exact HO183.out⟩,⟨by repeat (first|(with_reducible first|exact HB.out|apply below_alloc|apply pw_below_drewN|apply below_drew1)|exact HB.out)⟩⟩
   case round =>
    clear H'
    try clear c2
    try clear c2b0
    try clear c2b1
    try clear p2
    try clear c3
    try clear c3b0
    try clear c3b1
    try clear c5
    obtain ⟨x3_1,x4_1,rfl,HA,HK1,HO_3,HB⟩:=hrel
    cases gk with
    | zero=>exact absurd HA.out (by simp [laws_toIntS.l0])
    | succ k1 =>
     have H:=HA.out
     clear HA
     simp only [laws_toIntS.l0] at H
     by_cases c6 : x4_1 < (l0.length : Int)
     ·rw [if_pos c6] at H
      have c6b0 : decide (x4_1 < (l0.length : Int)) = true:=decide_eq_true c6
      clear c6
      by_cases c7 : 0 ≤ x4_1
      ·rw [if_pos c7] at H
       have c7b0 : decide (0 ≤ x4_1) = true:=decide_eq_true c7
       clear c7
       by_cases c8 : x4_1 < (x3_1.length : Int)
       ·rw [if_pos c8] at H
        have c8b0 : decide (x4_1 < (x3_1.length : Int)) = true:=decide_eq_true c8
        clear c8
        obtain ⟨y185,hy185⟩ : ∃ y_ : List Int,y_ = (x3_1.set (x4_1 : Int).toNat (rd l0 x4_1)):=⟨_,rfl⟩
        replace H : (laws_toIntS.l0 k1 l0 y185 (wrap64 (x4_1 + 1))) = some r:=by first|(rw [hy185];with_reducible exact H)|(have H2_:=(Option.bind_some _ _).symm.trans H;rw [hy185];with_reducible exact H2_)|(have H2_:=(Option.bind_some _ _).symm.trans H;with_reducible exact H2_)|with_reducible exact H|(rw [hy185];exact H)|exact H
        have Ny185:=Aside0.mk hy185
        clear hy185
        have H':=Aside0.mk H
        clear H
        have p184 : 0 ≤ (x4_1 : Int):=of_decide_eq_true (by first|(with_reducible assumption)|assumption)
        have q184 : x4_1 < (l0.length : Int):=of_decide_eq_true (by first|(with_reducible assumption)|assumption)
        obtain ⟨ad184,e184,hx184_0⟩:=Kd.at_int HR0.out x4_1 p184 q184
        cases e184
        replace hx184_0:=(HB.out.cell (World.block_lt_of_cell? w _ hx184_0)).trans hx184_0
        replace p184:=eq_true p184
        replace q184:=eq_true q184
        have p9 : 0 ≤ (x4_1 : Int):=of_decide_eq_true (by first|(with_reducible assumption)|assumption)
        have q9 : (x4_1 : Int) < ((x3_1.length : Int) : Int):=of_decide_eq_true (by first|(with_reducible assumption)|assumption)
        obtain ⟨go9,co9,eo9,gb9,gl9,cl9,HG9⟩:=Kd.R_form HO_3.out (by omega)
        (first|cases eo9|(injection eo9 with ea_ en_ ec_;(first|subst ea_|(injection ea_ with ea_;subst ea_));subst ec_;clear en_))
        have GB9:=Aside0.mk gb9
        have GG9:=Aside0.mk HG9
        clear gb9 gl9 HG9
        obtain ⟨hx9_0,hf9_0⟩:=Kd.R_celln 0 HO_3.out (x4_1 : Int) p9 q9
        replace p9:=eq_true p9
        replace q9:=eq_true q9
        have HP10:=Kd.R_putg HO_3.out (x4_1 : Int) (rd l0 x4_1)
        go_wp2_with (first|((with_reducible refine gate_store (t:=3) (p:=20) rfl ?_);refine store_event (t:=3) (p:=20) (v:=?vo_w11) (w1:=(wr.setCell ⟨go9,(x4_1 : Int).toNat,none⟩ (.int .i64 (rd l0 x4_1)))) ?hg ?ho ?hn ?hr ?_;(case ho=>rfl);(case hg=>rfl);(case hn=>rfl);(case hr=>first|(go_simp;done)|(go_simp;rfl));intro w11 hw;have hg : wr.grownBy w11 (some go9):=(by rw [hw];exact HP10.2);have hp_ : Kd.R (Kd.int .i64) 3 w11 w.heap.size (fun _=>True) (.slice (some ⟨go9,0,none⟩) x3_1.length co9) y185:=(by rw [hw,Ny185.out];exact HP10.1);clear HP10;have n0_:=Aside0.mk (hp_);have n1_:=Aside0.mk ((by rw [hw];exact below_set (HB.out) GB9.out : Below w.heap.size w w11));clear HO_3;clear HB;have HO_3:=n0_;have HB:=n1_;clear n0_ n1_;clear hg hw hp_))
        go_roundg k1
        case measure=>have:=HK1.out;omega
        case rel=>exact ⟨(y185),(wrap64 (x4_1 + 1)),(by first|rfl|(simp;done)|(simp [*];done)),H',⟨by have:=HK1.out;omega⟩,⟨by (with_reducible repeat (first|apply Kd.R_alloc|apply Kd.R_drewN|apply Kd.R_drew));exact HO_3.out⟩,⟨by repeat (first|(with_reducible first|exact HB.out|apply below_alloc|apply pw_below_drewN|apply below_drew1)|exact HB.out)⟩⟩
       ·rw [if_neg c8] at H
        exact absurd H (by simp)
      ·rw [if_neg c7] at H
       exact absurd H (by simp)
     ·rw [if_neg c6] at H
      have c6b0 : decide (x4_1 < (l0.length : Int)) = false:=decide_eq_false c6
      clear c6
      obtain rfl:=Option.some.inj H
      go_wp2
      go_ret
      exact ⟨_,by first|rfl|(simp [errW_none,errW_some] <;> rfl)|(simp [*,errW_none,errW_some] <;> rfl),by (with_reducible repeat (first|apply Kd.R_alloc|apply Kd.R_drewN|apply Kd.R_drew));exact HO_3.out,by repeat (first|(with_reducible first|exact HB.out|apply below_alloc|apply pw_below_drewN|apply below_drew1)|exact HB.out)⟩
  ·rw [if_neg c3] at H
   exact absurd H (by simp)
 ·rw [if_neg c2] at H
  exact absurd H (by simp)
def laws_toReNode.f (k : Nat) (a0_0 : Int) (a0_1 : Bool) (a0_2 : ByteArray) (l0_3 : List Int) : Option (Int × Bool × ByteArray × List Int):=(laws_toIntS.f k l0_3).bind fun t189=>(some (a0_0,a0_1,a0_2,t189))
set_option maxHeartbeats 8000000 in
set_option maxRecDepth 100000 in
theorem laws_toReNode.calls (k : Nat) (a0_0 : Int) (a0_1 : Bool) (a0_2 : ByteArray) (A0_3 : Option Addr) (c0_3 : Nat) (l0_3 : List Int) (r1 : Int) (r2 : Bool) (r3 : ByteArray) (r4 : List Int) (w : World) (hr0_3 : Kd.C (Kd.int .i64) w A0_3 l0_3.length l0_3) (hc0_3 : l0_3.length ≤ c0_3) (h : laws_toReNode.f k a0_0 a0_1 a0_2 l0_3 = some (r1,r2,r3,r4)) :
  Calls Tryd.prog 40 #[.agg #[.int .i64 a0_0,.bool a0_1,.string a0_2,.slice A0_3 l0_3.length c0_3]] w fun e w'=>∃ v3_ : Value,e = .returned (.agg #[.int .i64 r1,.bool r2,.string r3,v3_]) ∧ Kd.R (Kd.int .i64) 3 w' w.heap.size (fun _=>True) v3_ r4 ∧ Below w.heap.size w w':=by
 have hu56:=Tryd.underlying56
 have hu49:=Tryd.underlying49
 have HR0_3:=Aside0.mk hr0_3
 have HC0_3:=Aside0.mk hc0_3
 clear hr0_3 hc0_3
 have HB:=Aside0.mk (Below.refl w.heap.size w)
 have H : ((laws_toIntS.f k l0_3).bind fun t189=>(some (a0_0,a0_1,a0_2,t189))) = some (r1,r2,r3,r4):=h
 clear h
 replace H:=Option.bind_eq_some_iff.mp H
 obtain ⟨t189,A20,H⟩:=H
 replace H : (some (a0_0,a0_1,a0_2,t189)) = some (r1,r2,r3,r4):=H
 have A2:=Aside0.mk A20
 clear A20
 simp only [Option.some.injEq,Prod.mk.injEq] at H
 obtain ⟨rfl,rfl,rfl,rfl⟩:=H
 go_enter Tryd.func40,Tryd.ntmps40
 go_wp2_with (first|((with_reducible refine gate_dst (N:=1) rfl ?_);refine box_event ?hg (N:=1) ?hd (cs:=#[.int .i64 a0_0,.bool a0_1,.string a0_2,.slice A0_3 l0_3.length c0_3]) (t:=56) ?hr ?_;(case hd=>rfl);(case hg=>rfl);(case hr=>first|(go_simp;done)|(go_simp;rfl));intro gb186 hg w3 hbox hb;have n0_:=Aside0.mk (below_step (by repeat (first|(with_reducible first|exact HB.out|apply below_alloc|apply pw_below_drewN|apply below_drew1)|exact HB.out)) hb);have n1_:=Aside0.mk (hbox);have n2_:=Aside0.mk ((by rw [hg];exact (below_size (by repeat (first|(with_reducible first|exact HB.out|apply below_alloc|apply pw_below_drewN|apply below_drew1)|exact HB.out))) : w.heap.size ≤ gb186));have n3_:=Aside0.mk ((by rw [hg];exact (below_size (by repeat (first|(with_reducible first|exact HB.out|apply below_alloc|apply pw_below_drewN|apply below_drew1)|exact HB.out))) : w.heap.size ≤ gb186));clear HB;have HB:=n0_;have BK186:=n1_;have GW186:=n2_;have GE186:=n3_;clear n0_ n1_ n2_ n3_;clear hb hbox hg)|((with_reducible refine gate_dst (N:=2) rfl ?_);refine box_event ?hg (N:=2) ?hd (cs:=#[.int .i64 0,.bool false,.string (⟨#[]⟩ : ByteArray),.slice none 0 0]) (t:=49) ?hr ?_;(case hd=>rfl);(case hg=>rfl);(case hr=>first|(go_simp;done)|(go_simp;rfl));intro gb187 hg w4 hbox hb;have n0_:=Aside0.mk (blk_below (g:=gb186) (o:=.cells #[.int .i64 a0_0,.bool a0_1,.string a0_2,.slice A0_3 l0_3.length c0_3] 56 (0,0)) (by (with_reducible repeat (first|refine blk_drewN ?_ _|refine blk_drew ?_|refine blk_alloc ?_ _));exact BK186.out) hb);have n1_:=Aside0.mk (below_step (by repeat (first|(with_reducible first|exact HB.out|apply below_alloc|apply pw_below_drewN|apply below_drew1|refine below_set ?_ GE186.out)|exact HB.out)) hb);have n2_:=Aside0.mk (hbox);have n3_:=Aside0.mk ((by rw [hg];exact (below_size (by repeat (first|(with_reducible first|exact HB.out|apply below_alloc|apply pw_below_drewN|apply below_drew1|refine below_set ?_ GE186.out)|exact HB.out))) : w.heap.size ≤ gb187));have n4_:=Aside0.mk ((by rw [hg];exact (below_size (by repeat (first|(with_reducible first|exact HB.out|apply below_alloc|apply pw_below_drewN|apply below_drew1|refine below_set ?_ GE186.out)|exact HB.out))) : w.heap.size ≤ gb187));have n5_:=Aside0.mk ((by rw [hg];exact Nat.ne_of_lt (blk_lt (g:=gb186) (o:=.cells #[.int .i64 a0_0,.bool a0_1,.string a0_2,.slice A0_3 l0_3.length c0_3] 56 (0,0)) (by (with_reducible repeat (first|refine blk_drewN ?_ _|refine blk_drew ?_|refine blk_alloc ?_ _));exact BK186.out)) : gb186 ≠ gb187));have n6_:=Aside0.mk ((by rw [hg];exact Nat.ne_of_gt (blk_lt (g:=gb186) (o:=.cells #[.int .i64 a0_0,.bool a0_1,.string a0_2,.slice A0_3 l0_3.length c0_3] 56 (0,0)) (by (with_reducible repeat (first|refine blk_drewN ?_ _|refine blk_drew ?_|refine blk_alloc ?_ _));exact BK186.out)) : gb187 ≠ gb186));clear BK186;clear HB;have BK186:=n0_;have HB:=n1_;have BK187:=n2_;have GW187:=n3_;have GE187:=n4_;have NB186_187:=n5_;have NB187_186:=n6_;clear n0_ n1_ n2_ n3_ n4_ n5_ n6_;clear hb hbox hg)|((with_reducible refine gate_dst (N:=3) rfl ?_);refine box_event ?hg (N:=3) ?hd (cs:=#[.int .i64 0,.bool false,.string (⟨#[]⟩ : ByteArray),.slice none 0 0]) (t:=49) ?hr ?_;(case hd=>rfl);(case hg=>rfl);(case hr=>first|(go_simp;done)|(go_simp;rfl));intro gb188 hg w5 hbox hb;have n0_:=Aside0.mk (blk_below (g:=gb186) (o:=.cells #[.int .i64 a0_0,.bool a0_1,.string a0_2,.slice A0_3 l0_3.length c0_3] 56 (0,0)) (by (with_reducible repeat (first|refine blk_drewN ?_ _|refine blk_drew ?_|refine blk_alloc ?_ _));exact BK186.out) hb);have n1_:=Aside0.mk (blk_below (g:=gb187) (o:=.cells #[.int .i64 0,.bool false,.string (⟨#[]⟩ : ByteArray),.slice none 0 0] 49 (0,0)) (by (with_reducible repeat (first|refine blk_drewN ?_ _|refine blk_drew ?_|refine blk_alloc ?_ _));exact BK187.out) hb);have n2_:=Aside0.mk (below_step (by repeat (first|(with_reducible first|exact HB.out|apply below_alloc|apply pw_below_drewN|apply below_drew1|refine below_set ?_ GE186.out|refine below_set ?_ GE187.out)|exact HB.out)) hb);have n3_:=Aside0.mk (hbox);have n4_:=Aside0.mk ((by rw [hg];exact (below_size (by repeat (first|(with_reducible first|exact HB.out|apply below_alloc|apply pw_below_drewN|apply below_drew1|refine below_set ?_ GE186.out|refine below_set ?_ GE187.out)|exact HB.out))) : w.heap.size ≤ gb188));have n5_:=Aside0.mk ((by rw [hg];exact (below_size (by repeat (first|(with_reducible first|exact HB.out|apply below_alloc|apply pw_below_drewN|apply below_drew1|refine below_set ?_ GE186.out|refine below_set ?_ GE187.out)|exact HB.out))) : w.heap.size ≤ gb188));have n6_:=Aside0.mk ((by rw [hg];exact Nat.ne_of_lt (blk_lt (g:=gb186) (o:=.cells #[.int .i64 a0_0,.bool a0_1,.string a0_2,.slice A0_3 l0_3.length c0_3] 56 (0,0)) (by (with_reducible repeat (first|refine blk_drewN ?_ _|refine blk_drew ?_|refine blk_alloc ?_ _));exact BK186.out)) : gb186 ≠ gb188));have n7_:=Aside0.mk ((by rw [hg];exact Nat.ne_of_gt (blk_lt (g:=gb186) (o:=.cells #[.int .i64 a0_0,.bool a0_1,.string a0_2,.slice A0_3 l0_3.length c0_3] 56 (0,0)) (by (with_reducible repeat (first|refine blk_drewN ?_ _|refine blk_drew ?_|refine blk_alloc ?_ _));exact BK186.out)) : gb188 ≠ gb186));have n8_:=Aside0.mk ((by rw [hg];exact Nat.ne_of_lt (blk_lt (g:=gb187) (o:=.cells #[.int .i64 0,.bool false,.string (⟨#[]⟩ : ByteArray),.slice none 0 0] 49 (0,0)) (by (with_reducible repeat (first|refine blk_drewN ?_ _|refine blk_drew ?_|refine blk_alloc ?_ _));exact BK187.out)) : gb187 ≠ gb188));have n9_:=Aside0.mk ((by rw [hg];exact Nat.ne_of_gt (blk_lt (g:=gb187) (o:=.cells #[.int .i64 0,.bool false,.string (⟨#[]⟩ : ByteArray),.slice none 0 0] 49 (0,0)) (by (with_reducible repeat (first|refine blk_drewN ?_ _|refine blk_drew ?_|refine blk_alloc ?_ _));exact BK187.out)) : gb188 ≠ gb187));clear BK186;clear BK187;clear HB;have BK186:=n0_;have BK187:=n1_;have HB:=n2_;have BK188:=n3_;have GW188:=n4_;have GE188:=n5_;have NB186_188:=n6_;have NB188_186:=n7_;have NB187_188:=n8_;have NB188_187:=n9_;clear n0_ n1_ n2_ n3_ n4_ n5_ n6_ n7_ n8_ n9_;clear hb hbox hg;have hnb6:=NB186_187.out;have hnc6:=NB187_186.out;have hnb7:=NB186_188.out;have hnc7:=NB188_186.out;have hcz8_0 : w5.cell? ⟨gb186,0,none⟩ = some (.int .i64 a0_0):=(blk_cell BK186.out 0).trans rfl;have hcz8_1 : w5.cell? ⟨gb186,1,none⟩ = some (.bool a0_1):=(blk_cell BK186.out 1).trans rfl;have hcz8_2 : w5.cell? ⟨gb186,2,none⟩ = some (.string a0_2):=(blk_cell BK186.out 2).trans rfl;have hcz8_3 : w5.cell? ⟨gb186,3,none⟩ = some (.slice A0_3 l0_3.length c0_3):=(blk_cell BK186.out 3).trans rfl;have hfz8_0:=blk_frozen BK186.out 0;have hfz8_1:=blk_frozen BK186.out 1;have hfz8_2:=blk_frozen BK186.out 2;have hfz8_3:=blk_frozen BK186.out 3;have hnb9:=NB188_187.out;have hnc9:=NB187_188.out;have hcz10_0 : w5.cell? ⟨gb188,0,none⟩ = some (.int .i64 0):=(blk_cell BK188.out 0).trans rfl;have hcz10_1 : w5.cell? ⟨gb188,1,none⟩ = some (.bool false):=(blk_cell BK188.out 1).trans rfl;have hcz10_2 : w5.cell? ⟨gb188,2,none⟩ = some (.string (⟨#[]⟩ : ByteArray)):=(blk_cell BK188.out 2).trans rfl;have hcz10_3 : w5.cell? ⟨gb188,3,none⟩ = some (.slice none 0 0):=(blk_cell BK188.out 3).trans rfl;have hfz10_0:=blk_frozen BK188.out 0;have hfz10_1:=blk_frozen BK188.out 1;have hfz10_2:=blk_frozen BK188.out 2;have hfz10_3:=blk_frozen BK188.out 3)|((with_reducible refine gate_callee (f:=59) rfl ?_);refine goesL_ (some 15) rfl rfl Tryd.func59 (by kernel_rfl) rfl #[.slice A0_3 l0_3.length c0_3] rfl (by (try simp only [List.map_toArray,List.map_cons,List.map_nil]);first|done|rfl|(simp only [List.length_drop,List.length_take];rfl)) ?_;(with_reducible refine (laws_toIntS.calls k _ _ l0_3 t189 _ ?side1 ?side2 A2.out).mono ?_);(case side1=>exact Kd.C_below HR0_3.out (by repeat (first|(with_reducible first|exact HB.out|apply below_alloc|apply pw_below_drewN|apply below_drew1|refine below_set ?_ GE186.out|refine below_set ?_ GE187.out|refine below_set ?_ GE188.out)|exact HB.out)));(case side2=>exact HC0_3.out);rintro e w11 ⟨v190,rfl,ho0,hb⟩;refine ⟨_,rfl,?_⟩;have n0_:=Aside0.mk (Kd.R_lower ho0 (below_size (by repeat (first|(with_reducible first|exact HB.out|apply below_alloc|apply pw_below_drewN|apply below_drew1|refine below_set ?_ GE186.out|refine below_set ?_ GE187.out|refine below_set ?_ GE188.out)|exact HB.out))));have n1_:=Aside0.mk (blk_below (g:=gb186) (o:=.cells #[.int .i64 a0_0,.bool a0_1,.string a0_2,.slice A0_3 l0_3.length c0_3] 56 (0,0)) (by (with_reducible repeat (first|refine blk_drewN ?_ _|refine blk_drew ?_|refine blk_alloc ?_ _));refine blk_far ?_ NB186_188.out _;(with_reducible repeat (first|refine blk_drewN ?_ _|refine blk_drew ?_|refine blk_alloc ?_ _));refine blk_far ?_ NB186_188.out _;(with_reducible repeat (first|refine blk_drewN ?_ _|refine blk_drew ?_|refine blk_alloc ?_ _));refine blk_far ?_ NB186_188.out _;(with_reducible repeat (first|refine blk_drewN ?_ _|refine blk_drew ?_|refine blk_alloc ?_ _));exact BK186.out) hb);have n2_:=Aside0.mk (blk_below (g:=gb187) (o:=.cells #[.int .i64 0,.bool false,.string (⟨#[]⟩ : ByteArray),.slice none 0 0] 49 (0,0)) (by (with_reducible repeat (first|refine blk_drewN ?_ _|refine blk_drew ?_|refine blk_alloc ?_ _));refine blk_far ?_ NB187_188.out _;(with_reducible repeat (first|refine blk_drewN ?_ _|refine blk_drew ?_|refine blk_alloc ?_ _));refine blk_far ?_ NB187_188.out _;(with_reducible repeat (first|refine blk_drewN ?_ _|refine blk_drew ?_|refine blk_alloc ?_ _));refine blk_far ?_ NB187_188.out _;(with_reducible repeat (first|refine blk_drewN ?_ _|refine blk_drew ?_|refine blk_alloc ?_ _));exact BK187.out) hb);have n3_:=Aside0.mk (blk_below (g:=gb188) (o:=.cells #[.int .i64 a0_0,.bool a0_1,.string a0_2,.slice none 0 0] 49 (0,0)) (by (with_reducible repeat (first|refine blk_drewN ?_ _|refine blk_drew ?_|refine blk_alloc ?_ _));refine blk_put (cs:=#[.int .i64 a0_0,.bool a0_1,.string (⟨#[]⟩ : ByteArray),.slice none 0 0]) ?_ 2 _ rfl;(with_reducible repeat (first|refine blk_drewN ?_ _|refine blk_drew ?_|refine blk_alloc ?_ _));refine blk_put (cs:=#[.int .i64 a0_0,.bool false,.string (⟨#[]⟩ : ByteArray),.slice none 0 0]) ?_ 1 _ rfl;(with_reducible repeat (first|refine blk_drewN ?_ _|refine blk_drew ?_|refine blk_alloc ?_ _));refine blk_put (cs:=#[.int .i64 0,.bool false,.string (⟨#[]⟩ : ByteArray),.slice none 0 0]) ?_ 0 _ rfl;(with_reducible repeat (first|refine blk_drewN ?_ _|refine blk_drew ?_|refine blk_alloc ?_ _));exact BK188.out) hb);have n4_:=Aside0.mk (below_step (by repeat (first|(with_reducible first|exact HB.out|apply below_alloc|apply pw_below_drewN|apply below_drew1|refine below_set ?_ GE186.out|refine below_set ?_ GE187.out|refine below_set ?_ GE188.out)|exact HB.out)) hb);clear BK186;clear BK187;clear BK188;clear HB;have HO191:=n0_;have BK186:=n1_;have BK187:=n2_;have BK188:=n3_;have HB:=n4_;clear n0_ n1_ n2_ n3_ n4_;(try clear hb);(try clear hb2);(try clear hk);(try clear hi);(try clear ho0);obtain ⟨Ao12,co12,eo12⟩:=Kd.R_slice HO191.out;subst eo12;have hcz13_0 : w11.cell? ⟨gb188,0,none⟩ = some (.int .i64 a0_0):=(blk_cell BK188.out 0).trans rfl;have hcz13_1 : w11.cell? ⟨gb188,1,none⟩ = some (.bool a0_1):=(blk_cell BK188.out 1).trans rfl;have hcz13_2 : w11.cell? ⟨gb188,2,none⟩ = some (.string a0_2):=(blk_cell BK188.out 2).trans rfl;have hcz13_3 : w11.cell? ⟨gb188,3,none⟩ = some (.slice none 0 0):=(blk_cell BK188.out 3).trans rfl;have hfz13_0:=blk_frozen BK188.out 0;have hfz13_1:=blk_frozen BK188.out 1;have hfz13_2:=blk_frozen BK188.out 2;have hfz13_3:=blk_frozen BK188.out 3;have hcz14_0 : w11.cell? ⟨gb187,0,none⟩ = some (.int .i64 0):=(blk_cell BK187.out 0).trans rfl;have hcz14_1 : w11.cell? ⟨gb187,1,none⟩ = some (.bool false):=(blk_cell BK187.out 1).trans rfl;have hcz14_2 : w11.cell? ⟨gb187,2,none⟩ = some (.string (⟨#[]⟩ : ByteArray)):=(blk_cell BK187.out 2).trans rfl;have hcz14_3 : w11.cell? ⟨gb187,3,none⟩ = some (.slice none 0 0):=(blk_cell BK187.out 3).trans rfl;have hfz14_0:=blk_frozen BK187.out 0;have hfz14_1:=blk_frozen BK187.out 1;have hfz14_2:=blk_frozen BK187.out 2;have hfz14_3:=blk_frozen BK187.out 3))
 refine bodyPost_ret (results_cell_row rfl _ _ gb187 49 #[.int .i64 a0_0,.bool a0_1,.string a0_2,.slice Ao12 t189.length co12] (0,0) _ rfl (by (with_reducible repeat (first|refine blk_drewN ?_ _|refine blk_drew ?_|refine blk_alloc ?_ _));refine blk_put (cs:=#[.int .i64 a0_0,.bool a0_1,.string a0_2,.slice none 0 0]) ?_ 3 _ rfl;(with_reducible repeat (first|refine blk_drewN ?_ _|refine blk_drew ?_|refine blk_alloc ?_ _));refine blk_put (cs:=#[.int .i64 a0_0,.bool a0_1,.string (⟨#[]⟩ : ByteArray),.slice none 0 0]) ?_ 2 _ rfl;(with_reducible repeat (first|refine blk_drewN ?_ _|refine blk_drew ?_|refine blk_alloc ?_ _));refine blk_put (cs:=#[.int .i64 a0_0,.bool false,.string (⟨#[]⟩ : ByteArray),.slice none 0 0]) ?_ 1 _ rfl;(with_reducible repeat (first|refine blk_drewN ?_ _|refine blk_drew ?_|refine blk_alloc ?_ _));refine blk_put (cs:=#[.int .i64 0,.bool false,.string (⟨#[]⟩ : ByteArray),.slice none 0 0]) ?_ 0 _ rfl;(with_reducible repeat (first|refine blk_drewN ?_ _|refine blk_drew ?_|refine blk_alloc ?_ _));refine blk_far ?_ NB187_188.out _;(with_reducible repeat (first|refine blk_drewN ?_ _|refine blk_drew ?_|refine blk_alloc ?_ _));exact BK187.out) Tryd.underlying49 rfl (by kernel_rfl)) rfl ?_
 exact ⟨_,by first|rfl|(simp [errW_none,errW_some] <;> rfl)|(simp [*,errW_none,errW_some] <;> rfl),by (with_reducible repeat (first|apply Kd.R_alloc|apply Kd.R_drewN|apply Kd.R_drew));exact Kd.R_mono (Kd.R_far (p:=⟨gb187,3,none⟩) (Kd.R_far (p:=⟨gb187,2,none⟩) (Kd.R_far (p:=⟨gb187,1,none⟩) (Kd.R_far (p:=⟨gb187,0,none⟩) (Kd.R_far (p:=⟨gb188,3,none⟩) (Kd.R_types (Kd.R_types HO191.out BK188.out (by decide)) BK187.out (by decide)) (fun _ hk=>by first|exact hk.1.2|exact hk.2) (.slice Ao12 t189.length co12)) (fun _ hk=>hk.2) (.int .i64 a0_0)) (fun _ hk=>hk.2) (.bool a0_1)) (fun _ hk=>hk.2) (.string a0_2)) (fun _ hk=>hk.2) (.slice Ao12 t189.length co12)) (fun _ hk=>trivial),by repeat (first|(with_reducible first|exact HB.out|apply below_alloc|apply pw_below_drewN|apply below_drew1|refine below_set ?_ GE186.out|refine below_set ?_ GE187.out|refine below_set ?_ GE188.out)|exact HB.out)⟩
def laws_toReNodeS.l0 : Nat → List (S56) → List (S49) → Int → Option ((List (S49)))
 | 0,_,_,_=>none
 | k + 1,x0,x3,x4=>if x4 < (x0.length : Int) then (if 0 ≤ x4 then ((laws_toReNode.f k ((rd_T56 x0 x4).f0) ((rd_T56 x0 x4).f1) ((rd_T56 x0 x4).f2) ((rd_T56 x0 x4).f3)).bind fun bt196=>(if x4 < (x3.length : Int) then (laws_toReNodeS.l0 k x0 (x3.set (x4 : Int).toNat (⟨bt196.1,bt196.2.1,bt196.2.2.1,bt196.2.2.2⟩ : S49)) (wrap64 (x4 + 1))) else (none))) else (none)) else (some x3)
def laws_toReNodeS.f (k : Nat) (l0 : List (S56)) : Option ((List (S49))):=if 0 ≤ (l0.length : Int) then (if ((l0.length : Int) : Int).toNat ≤ 5026338869833 then (laws_toReNodeS.l0 k l0 (List.replicate ((l0.length : Int) : Int).toNat z49) 0) else (none)) else (none)
set_option maxHeartbeats 8000000 in
set_option maxRecDepth 100000 in
theorem laws_toReNodeS.calls (k : Nat) (A0 : Option Addr) (c0 : Nat) (l0 : List (S56)) (r : List (S49)) (w : World) (hr0 : Kd.C k56 w A0 l0.length l0) (hc0 : l0.length ≤ c0) (h : laws_toReNodeS.f k l0 = some r) :
  Calls Tryd.prog 13 #[.slice A0 l0.length c0] w fun e w'=>∃ v0_ : Value,e = .returned (v0_) ∧ Kd.S k49 49 w' w.heap.size (fun _=>True) v0_ r ∧ Below w.heap.size w w':=by
 have hu56:=Tryd.underlying56
 have hu49:=Tryd.underlying49
 have HR0:=Aside0.mk hr0
 have HC0:=Aside0.mk hc0
 clear hr0 hc0
 have HB:=Aside0.mk (Below.refl w.heap.size w)
 have H : (if 0 ≤ (l0.length : Int) then (if ((l0.length : Int) : Int).toNat ≤ 5026338869833 then (laws_toReNodeS.l0 k l0 (List.replicate ((l0.length : Int) : Int).toNat z49) 0) else (none)) else (none)) = some r:=h
 clear h
 by_cases c2 : 0 ≤ (l0.length : Int)
 ·rw [if_pos c2] at H
  have c2b0:=eq_true c2
  have c2b1 : decide (0 ≤ (l0.length : Int)) = true:=decide_eq_true c2
  clear c2
  by_cases c3 : ((l0.length : Int) : Int).toNat ≤ 5026338869833
  ·rw [if_pos c3] at H
   have c3b0:=eq_true c3
   have c3b1 : decide (((l0.length : Int) : Int).toNat ≤ 5026338869833) = true:=decide_eq_true c3
   clear c3
   obtain ⟨y192,hy192⟩ : ∃ y_ : List (S49),y_ = (List.replicate ((l0.length : Int) : Int).toNat z49):=⟨_,rfl⟩
   replace H : (laws_toReNodeS.l0 k l0 y192 0) = some r:=by first|(rw [hy192];with_reducible exact H)|(have H2_:=(Option.bind_some _ _).symm.trans H;rw [hy192];with_reducible exact H2_)|(have H2_:=(Option.bind_some _ _).symm.trans H;with_reducible exact H2_)|with_reducible exact H|(rw [hy192];exact H)|exact H
   have Ny192:=Aside0.mk hy192
   clear hy192
   have H':=Aside0.mk H
   clear H
   go_enter Tryd.func13,Tryd.ntmps13
   go_wp2_with (first|((with_reducible refine gate_dst (N:=7) rfl ?_);refine Kd.S_make k49 _ 49 rfl (N:=7) rfl 26 _ _ rfl (l0.length : Int) rfl rfl Tryd.underlying26 (.agg #[(.int .i64 0),(.bool false),(.string ⟨#[]⟩),(.slice none 0 0)]) 56 info49 rfl (by decide) (by omega) z49 (ok:=fun _=>True) (okp:=fun _=>True) (k49_mkM _ _ _ z49 (Kd.R_nil _ _ _ _ _)) (fun _ hk=>hk) trivial (of_decide_eq_true (by first|(with_reducible assumption)|assumption)) (Nat.le_trans (Nat.mul_le_mul_right _ (of_decide_eq_true (by first|(with_reducible assumption)|assumption) : (l0.length : Int).toNat ≤ 5026338869833)) (by omega)) (Below.refl _ _) (Nat.le_refl _) ?_;intro v193 w4 ho5 hb hg_ hnew_;clear hg_ hnew_;(first|rw [← Ny192.out] at ho5|(simp only [Int.reduceToNat] at ho5;rw [← Ny192.out] at ho5));have n0_:=Aside0.mk (Kd.S_lower ho5 (below_size (by repeat (first|(with_reducible first|exact HB.out|apply below_alloc|apply pw_below_drewN|apply below_drew1)|exact HB.out))));have n1_:=Aside0.mk (below_step (by repeat (first|(with_reducible first|exact HB.out|apply below_alloc|apply pw_below_drewN|apply below_drew1)|exact HB.out)) hb);clear HB;have HO194:=n0_;have HB:=n1_;clear n0_ n1_;clear hb ho5))
   go_loopg [4] k (fun kq v4 w'=>∃ (x3_1 : List (S49)) (x4_1 : Int),v4 = .int .i64 x4_1 ∧ Aside0 (laws_toReNodeS.l0 kq l0 x3_1 x4_1 = some r) ∧ Aside0 (kq ≤ k) ∧ Aside0 (Kd.S k49 49 w' w.heap.size (fun _=>True) v193 x3_1) ∧ Aside0 (Below w.heap.size w w'))
   case atStart=>exact ⟨(y192),(0),(by first|rfl|(simp;done)|(simp [*];done)),H',⟨Nat.le_refl _⟩,⟨by (with_reducible repeat (first|apply Kd.S_alloc|apply Kd.S_drewN|apply Kd.S_drew));exact HO194.out⟩,⟨by repeat (first|(with_reducible first|exact HB.out|apply below_alloc|apply pw_below_drewN|apply below_drew1)|exact HB.out)⟩⟩
   case round =>
    clear H'
    try clear c1
    try clear c2
    try clear c2b0
    try clear c2b1
    try clear p2
    try clear c3
    try clear c3b0
    try clear c3b1
    obtain ⟨x3_1,x4_1,rfl,HA,HK1,HO_3,HB⟩:=hrel
    cases gk with
    | zero=>exact absurd HA.out (by simp [laws_toReNodeS.l0])
    | succ k1 =>
     have H:=HA.out
     clear HA
     simp only [laws_toReNodeS.l0] at H
     by_cases c6 : x4_1 < (l0.length : Int)
     ·rw [if_pos c6] at H
      have c6b0 : decide (x4_1 < (l0.length : Int)) = true:=decide_eq_true c6
      clear c6
      by_cases c7 : 0 ≤ x4_1
      ·rw [if_pos c7] at H
       have c7b0 : decide (0 ≤ x4_1) = true:=decide_eq_true c7
       clear c7
       replace H:=Option.bind_eq_some_iff.mp H
       obtain ⟨⟨t196,t197,t198,t199⟩,A80,H⟩:=H
       replace H : (if x4_1 < (x3_1.length : Int) then (laws_toReNodeS.l0 k1 l0 (x3_1.set (x4_1 : Int).toNat (⟨t196,t197,t198,t199⟩ : S49)) (wrap64 (x4_1 + 1))) else (none)) = some r:=H
       have A8:=Aside0.mk A80
       clear A80
       by_cases c9 : x4_1 < (x3_1.length : Int)
       ·rw [if_pos c9] at H
        have c9b0 : decide (x4_1 < (x3_1.length : Int)) = true:=decide_eq_true c9
        clear c9
        obtain ⟨y202,hy202⟩ : ∃ y_ : List (S49),y_ = (x3_1.set (x4_1 : Int).toNat (⟨t196,t197,t198,t199⟩ : S49)):=⟨_,rfl⟩
        replace H : (laws_toReNodeS.l0 k1 l0 y202 (wrap64 (x4_1 + 1))) = some r:=by first|(rw [hy202];with_reducible exact H)|(have H2_:=(Option.bind_some _ _).symm.trans H;rw [hy202];with_reducible exact H2_)|(have H2_:=(Option.bind_some _ _).symm.trans H;with_reducible exact H2_)|with_reducible exact H|(rw [hy202];exact H)|exact H
        have Ny202:=Aside0.mk hy202
        clear hy202
        have H':=Aside0.mk H
        clear H
        have p195 : 0 ≤ (x4_1 : Int):=of_decide_eq_true (by first|(with_reducible assumption)|assumption)
        have q195 : x4_1 < (l0.length : Int):=of_decide_eq_true (by first|(with_reducible assumption)|assumption)
        obtain ⟨ad195,A195_3,c195_3,e195,hx195_0,hx195_1,hx195_2,hx195_3,hl195_3,hi195_3⟩:=at_T56 HR0.out x4_1 p195 q195
        cases e195
        replace hx195_0:=(HB.out.cell (World.block_lt_of_cell? w _ hx195_0)).trans hx195_0
        replace hx195_1:=(HB.out.cell (World.block_lt_of_cell? w _ hx195_1)).trans hx195_1
        replace hx195_2:=(HB.out.cell (World.block_lt_of_cell? w _ hx195_2)).trans hx195_2
        replace hx195_3:=(HB.out.cell (World.block_lt_of_cell? w _ hx195_3)).trans hx195_3
        have HR195_3:=Aside0.mk hi195_3
        have HC195_3:=Aside0.mk hl195_3
        clear hi195_3 hl195_3
        replace p195:=eq_true p195
        replace q195:=eq_true q195
        go_wp2_with (first|((with_reducible refine gate_callee (f:=40) rfl ?_);refine goesL_ (some 20) rfl rfl Tryd.func40 (by kernel_rfl) rfl #[.agg #[.int .i64 ((rd_T56 l0 x4_1).f0),.bool ((rd_T56 l0 x4_1).f1),.string ((rd_T56 l0 x4_1).f2),.slice A195_3 ((rd_T56 l0 x4_1).f3).length c195_3]] rfl (by (try simp only [List.map_toArray,List.map_cons,List.map_nil]);first|done|rfl|(simp only [List.length_drop,List.length_take];rfl)) ?_;(with_reducible refine (laws_toReNode.calls k1 ((rd_T56 l0 x4_1).f0) ((rd_T56 l0 x4_1).f1) ((rd_T56 l0 x4_1).f2) _ _ ((rd_T56 l0 x4_1).f3) t196 t197 t198 t199 _ ?side1 ?side2 A8.out).mono ?_);(case side1=>repeat (first|exact (Kd.C_below HR195_3.out HB.out)|(with_reducible refine Kd.C_alloc ?_ _)|(with_reducible refine Kd.C_drewN ?_ _)|(with_reducible refine Kd.C_drew ?_)));(case side2=>exact HC195_3.out);rintro e w11 ⟨v200,rfl,ho0,hb⟩;refine ⟨_,rfl,?_⟩;have n0_:=Aside0.mk (Kd.S_elder' (by (with_reducible repeat (first|apply Kd.S_alloc|apply Kd.S_drewN|apply Kd.S_drew));exact HO_3.out) (Kd.R_base ho0) hb);have n1_:=Aside0.mk (Kd.R_lower ho0 (below_size (by repeat (first|(with_reducible first|exact HB.out|apply below_alloc|apply pw_below_drewN|apply below_drew1)|exact HB.out))));have n2_:=Aside0.mk (below_step (by repeat (first|(with_reducible first|exact HB.out|apply below_alloc|apply pw_below_drewN|apply below_drew1)|exact HB.out)) hb);clear HO_3;clear HB;have HO_3:=n0_;have HO201:=n1_;have HB:=n2_;clear n0_ n1_ n2_;(try clear hb);(try clear hb2);(try clear hk);(try clear hi);(try clear ho0);have p10 : 0 ≤ (x4_1 : Int):=of_decide_eq_true (by first|(with_reducible assumption)|assumption);have q10 : (x4_1 : Int) < ((x3_1.length : Int) : Int):=of_decide_eq_true (by first|(with_reducible assumption)|assumption);obtain ⟨go10,co10,eo10,gb10,gl10,cl10,HG10⟩:=Kd.S_form HO_3.out (by omega);(first|cases eo10|(injection eo10 with ea_ en_ ec_;(first|subst ea_|(injection ea_ with ea_;subst ea_));subst ec_;clear en_));have GB10:=Aside0.mk gb10;have GG10:=Aside0.mk HG10;clear gb10 gl10 HG10;obtain ⟨_,ce10,hcl10,hM10,hcc10,hfr10,_,_⟩:=Kd.S_elem HO_3.out z49 (x4_1 : Int) p10 q10;obtain ⟨ve10_3,rfl,ge10_3⟩:=k49_openM hM10;have hx10_0 : w11.cell? ⟨go10,(x4_1 : Int).toNat * 4,none⟩ = some (.int .i64 ((rd_T49 x3_1 x4_1).f0)):=hcc10 0 _ rfl;have hx10_1 : w11.cell? ⟨go10,(x4_1 : Int).toNat * 4 + 1,none⟩ = some (.bool ((rd_T49 x3_1 x4_1).f1)):=hcc10 1 _ rfl;have hx10_2 : w11.cell? ⟨go10,(x4_1 : Int).toNat * 4 + 2,none⟩ = some (.string ((rd_T49 x3_1 x4_1).f2)):=hcc10 2 _ rfl;have hx10_3 : w11.cell? ⟨go10,(x4_1 : Int).toNat * 4 + 3,none⟩ = some (ve10_3):=hcc10 3 _ rfl;have hf10_0 : w11.frozen? ⟨go10,(x4_1 : Int).toNat * 4,none⟩ = false:=hfr10 0;have hf10_1 : w11.frozen? ⟨go10,(x4_1 : Int).toNat * 4 + 1,none⟩ = false:=hfr10 1;have hf10_2 : w11.frozen? ⟨go10,(x4_1 : Int).toNat * 4 + 2,none⟩ = false:=hfr10 2;have hf10_3 : w11.frozen? ⟨go10,(x4_1 : Int).toNat * 4 + 3,none⟩ = false:=hfr10 3;clear hcl10 hcc10 hfr10 hM10;replace p10:=eq_true p10;replace q10:=eq_true q10;have n_:=Aside0.mk (Kd.S_mono (ok':=(fun k_=>some k_ ≠ (v200 : Value).ownBlock)) HO_3.out (fun k_ hk=>hk.2));clear HO_3;have HO_3:=n_;clear n_;have HX12:=Aside0.mk (show Kd.S k49 49 w11 w.heap.size (fun k_=>((fun _=>True)) k_ ∧ ¬ ((fun k_=>some k_ = (v200 : Value).ownBlock)) k_) (.slice (some ⟨go10,0,none⟩) x3_1.length co10) x3_1 from (by (with_reducible repeat (first|apply Kd.S_alloc|apply Kd.S_drewN|apply Kd.S_drew));exact Kd.S_mono HO_3.out (fun k_ hk=>⟨trivial,fun e_=>hk e_⟩)));obtain ⟨oki12,ce12,hcl12,hM12,hcc12,hfr12,hoki12,hH12⟩:=Kd.S_elem HX12.out z49 (x4_1 : Int) (of_decide_eq_true (by first|(with_reducible assumption)|assumption)) (by have h_ : (x4_1 : Int) < ((x3_1.length : Int) : Int):=of_decide_eq_true (by first|(with_reducible assumption)|assumption);first|exact h_|(have e_:=(Kd.S_reads' HO_3.out).1;omega)|simpa using h_);obtain ⟨ve12_3,rfl,ge12_3⟩:=k49_openM hM12;have HP12:=Kd.S_seg hH12 (of_decide_eq_true (by first|(with_reducible assumption)|assumption)) (by have h_ : (x4_1 : Int) < ((x3_1.length : Int) : Int):=of_decide_eq_true (by first|(with_reducible assumption)|assumption);first|exact h_|(have e_:=(Kd.S_reads' HO_3.out).1;omega)|simpa using h_) (seg:=[.int .i64 t196,.bool t197,.string t198,v200]) (j:=0) (show 4 ≤ 4 from by decide) (x':=(⟨t196,t197,t198,t199⟩ : S49)) (k49_mkM _ _ _ (⟨t196,t197,t198,t199⟩ : S49) (Kd.R_mono (Kd.R_tight rfl (Kd.R_mono (ok':=fun k_=>((fun _=>True)) k_ ∧ k_ ≠ go10) (Kd.R_apart' (HO201.out) (Kd.S_typed HO_3.out) (by decide)) (fun k_ hk=>⟨trivial,fun e_=>(hk.2) (by rw [e_];rfl)⟩))) (fun _ h_=>Or.inr (h_)))) (fun _ hk=>hk) (fun k_ hk_=>((Kd.R_mono (ok':=fun k_=>((fun _=>True)) k_ ∧ k_ ≠ go10) (Kd.R_apart' (HO201.out) (Kd.S_typed HO_3.out) (by decide)) (fun k_ hk=>⟨trivial,fun e_=>(hk.2) (by rw [e_];rfl)⟩))).1 k_ hk_.symm);have hx12_0:=hcc12 0 _ rfl;(try simp only [show (k49).sz = 4 from rfl,Nat.mul_one,Nat.add_zero] at hx12_0);have hf12_0:=hfr12 0;(try simp only [show (k49).sz = 4 from rfl,Nat.mul_one,Nat.add_zero] at hf12_0);have hx12_1:=hcc12 1 _ rfl;(try simp only [show (k49).sz = 4 from rfl,Nat.mul_one,Nat.add_zero] at hx12_1);have hf12_1:=hfr12 1;(try simp only [show (k49).sz = 4 from rfl,Nat.mul_one,Nat.add_zero] at hf12_1);have hx12_2:=hcc12 2 _ rfl;(try simp only [show (k49).sz = 4 from rfl,Nat.mul_one,Nat.add_zero] at hx12_2);have hf12_2:=hfr12 2;(try simp only [show (k49).sz = 4 from rfl,Nat.mul_one,Nat.add_zero] at hf12_2);have hx12_3:=hcc12 3 _ rfl;(try simp only [show (k49).sz = 4 from rfl,Nat.mul_one,Nat.add_zero] at hx12_3);have hf12_3:=hfr12 3;(try simp only [show (k49).sz = 4 from rfl,Nat.mul_one,Nat.add_zero] at hf12_3);clear hcl12 hcc12 hfr12 hM12 hoki12 hH12)|((with_reducible refine gate_store (t:=49) (p:=21) rfl ?_);refine store_event (t:=49) (p:=21) (v:=?vo_w13) (w1:=((((w11.setCell ⟨go10,(x4_1 : Int).toNat * 4,none⟩ (.int .i64 t196)).setCell ⟨go10,(x4_1 : Int).toNat * 4 + 1,none⟩ (.bool t197)).setCell ⟨go10,(x4_1 : Int).toNat * 4 + 2,none⟩ (.string t198)).setCell ⟨go10,(x4_1 : Int).toNat * 4 + 3,none⟩ (v200))) ?hg ?ho ?hn ?hr ?_;(case ho=>rfl);(case hg=>rfl);(case hn=>rfl);(case hr=>first|(go_simp;done)|(go_simp;rfl)|(obtain ⟨A_,c_,rfl⟩:=Kd.R_slice HO201.out;(first|(go_simp;done)|(go_simp;rfl))));intro w13 hw;have hg : w11.grownBy w13 (some go10):=(by rw [hw];exact HP12.2);have hp_ : Kd.S k49 49 w13 w.heap.size (fun _=>True) (.slice (some ⟨go10,0,none⟩) x3_1.length co10) y202:=(by rw [hw,Ny202.out];exact HP12.1);clear HP12;have n0_:=Aside0.mk (hp_);have n1_:=Aside0.mk ((by rw [hw];exact below_set (below_set (below_set (below_set (HB.out) GB10.out) GB10.out) GB10.out) GB10.out : Below w.heap.size w w13));clear HO_3;clear HB;clear HO201;have HO_3:=n0_;have HB:=n1_;clear n0_ n1_;clear hg hw hp_))
        go_roundg k1
        case measure=>have:=HK1.out;omega
        case rel=>exact ⟨(y202),(wrap64 (x4_1 + 1)),(by first|rfl|(simp;done)|(simp [*];done)),H',⟨by have:=HK1.out;omega⟩,⟨by (with_reducible repeat (first|apply Kd.S_alloc|apply Kd.S_drewN|apply Kd.S_drew));exact HO_3.out⟩,⟨by repeat (first|(with_reducible first|exact HB.out|apply below_alloc|apply pw_below_drewN|apply below_drew1)|exact HB.out)⟩⟩
       ·rw [if_neg c9] at H
        exact absurd H (by simp)
      ·rw [if_neg c7] at H
       exact absurd H (by simp)
     ·rw [if_neg c6] at H
      have c6b0 : decide (x4_1 < (l0.length : Int)) = false:=decide_eq_false c6
      clear c6
      obtain rfl:=Option.some.inj H
      go_wp2
      go_ret
      exact ⟨_,by first|rfl|(simp [errW_none,errW_some] <;> rfl)|(simp [*,errW_none,errW_some] <;> rfl),by (with_reducible repeat (first|apply Kd.S_alloc|apply Kd.S_drewN|apply Kd.S_drew));exact HO_3.out,by repeat (first|(with_reducible first|exact HB.out|apply below_alloc|apply pw_below_drewN|apply below_drew1)|exact HB.out)⟩
  ·rw [if_neg c3] at H
   exact absurd H (by simp)
 ·rw [if_neg c2] at H
  exact absurd H (by simp)
def laws_eqIntS.l0 : Nat → List Int → List Int → Int → Option (Bool)
 | 0,_,_,_=>none
 | k + 1,x0,x1,x5=>if x5 < (x0.length : Int) then (if 0 ≤ x5 then (if x5 < (x1.length : Int) then (if (rd x0 x5) = (rd x1 x5) then (laws_eqIntS.l0 k x0 x1 (wrap64 (x5 + 1))) else (some false)) else (none)) else (none)) else (some true)
def laws_eqIntS.f (k : Nat) (l0 : List Int) (l1 : List Int) : Option (Bool):=if (l0.length : Int) = (l1.length : Int) then (laws_eqIntS.l0 k l0 l1 0) else (some false)
set_option maxHeartbeats 8000000 in
set_option maxRecDepth 100000 in
theorem laws_eqIntS.calls (k : Nat) (A0 : Option Addr) (c0 : Nat) (l0 : List Int) (A1 : Option Addr) (c1 : Nat) (l1 : List Int) (r : Bool) (w : World) (hr0 : Kd.C (Kd.int .i64) w A0 l0.length l0) (hc0 : l0.length ≤ c0) (hr1 : Kd.C (Kd.int .i64) w A1 l1.length l1) (hc1 : l1.length ≤ c1) (h : laws_eqIntS.f k l0 l1 = some r) :
  Calls Tryd.prog 20 #[.slice A0 l0.length c0,.slice A1 l1.length c1] w fun e w'=>e = .returned (.bool r) ∧ Drawn0 w w':=by
 have HR0:=Aside0.mk hr0
 have HC0:=Aside0.mk hc0
 clear hr0 hc0
 have HR1:=Aside0.mk hr1
 have HC1:=Aside0.mk hc1
 clear hr1 hc1
 have H : (if (l0.length : Int) = (l1.length : Int) then (laws_eqIntS.l0 k l0 l1 0) else (some false)) = some r:=h
 clear h
 by_cases c3 : (l0.length : Int) = (l1.length : Int)
 ·rw [if_pos c3] at H
  have c3b0 : ((l0.length : Int) == (l1.length : Int)) = true:=beq_iff_eq.mpr c3
  have c3b1 : ((l0.length : Int) != (l1.length : Int)) = false:=bne_eq_false_iff_eq.mpr c3
  have c3b2 : (l0.length == l1.length) = true:=by first|simpa using c3|(simp at c3 ⊢;omega)
  clear c3
  have H':=Aside0.mk H
  clear H
  go_enter Tryd.func20,Tryd.ntmps20
  go_wp2
  repeat (go_quiet (fail);try go_wp2)
  go_loopg [5] k (fun kq v5 w'=>∃ (x5_1 : Int),v5 = .int .i64 x5_1 ∧ Aside0 (laws_eqIntS.l0 kq l0 l1 x5_1 = some r) ∧ Aside0 (kq ≤ k) ∧ Drawn0 w w')
  case atStart=>exact ⟨(0),(by first|rfl|(simp;done)|(simp [*];done)),H',⟨Nat.le_refl _⟩,by repeat (first|exact Drawn0.refl _|apply Drawn0.step)⟩
  case round =>
   clear H'
   try clear c1
   try clear c2
   try clear p2
   try clear c3
   try clear c3b0
   try clear c3b1
   try clear c3b2
   obtain ⟨x5_1,rfl,HA,HK1,⟨m1,rfl⟩⟩:=hrel
   cases gk with
   | zero=>exact absurd HA.out (by simp [laws_eqIntS.l0])
   | succ k1 =>
    have H:=HA.out
    clear HA
    simp only [laws_eqIntS.l0] at H
    by_cases c4 : x5_1 < (l0.length : Int)
    ·rw [if_pos c4] at H
     have c4b0 : decide (x5_1 < (l0.length : Int)) = true:=decide_eq_true c4
     clear c4
     by_cases c5 : 0 ≤ x5_1
     ·rw [if_pos c5] at H
      have c5b0 : decide (0 ≤ x5_1) = true:=decide_eq_true c5
      clear c5
      by_cases c6 : x5_1 < (l1.length : Int)
      ·rw [if_pos c6] at H
       have c6b0 : decide (x5_1 < (l1.length : Int)) = true:=decide_eq_true c6
       clear c6
       by_cases c7 : (rd l0 x5_1) = (rd l1 x5_1)
       ·rw [if_pos c7] at H
        have c7b0 : ((rd l0 x5_1) == (rd l1 x5_1)) = true:=beq_iff_eq.mpr c7
        have c7b1 : ((rd l0 x5_1) != (rd l1 x5_1)) = false:=bne_eq_false_iff_eq.mpr c7
        clear c7
        have H':=Aside0.mk H
        clear H
        have p203 : 0 ≤ (x5_1 : Int):=of_decide_eq_true (by first|(with_reducible assumption)|assumption)
        have q203 : x5_1 < (l0.length : Int):=of_decide_eq_true (by first|(with_reducible assumption)|assumption)
        obtain ⟨ad203,e203,hx203_0⟩:=Kd.at_int HR0.out x5_1 p203 q203
        cases e203
        replace p203:=eq_true p203
        replace q203:=eq_true q203
        have p204 : 0 ≤ (x5_1 : Int):=of_decide_eq_true (by first|(with_reducible assumption)|assumption)
        have q204 : x5_1 < (l1.length : Int):=of_decide_eq_true (by first|(with_reducible assumption)|assumption)
        obtain ⟨ad204,e204,hx204_0⟩:=Kd.at_int HR1.out x5_1 p204 q204
        cases e204
        replace p204:=eq_true p204
        replace q204:=eq_true q204
        go_wp2
        repeat (go_quiet (fail);try go_wp2)
        go_roundg k1
        case measure=>have:=HK1.out;omega
        case rel=>exact ⟨(wrap64 (x5_1 + 1)),(by first|rfl|(simp;done)|(simp [*];done)),H',⟨by have:=HK1.out;omega⟩,by repeat (first|exact Drawn0.refl _|apply Drawn0.step)⟩
       ·rw [if_neg c7] at H
        have c7b0 : ((rd l0 x5_1) == (rd l1 x5_1)) = false:=beq_eq_false_iff_ne.mpr c7
        have c7b1 : ((rd l0 x5_1) != (rd l1 x5_1)) = true:=bne_iff_ne.mpr c7
        obtain rfl:=Option.some.inj H
        have p203 : 0 ≤ (x5_1 : Int):=of_decide_eq_true (by first|(with_reducible assumption)|assumption)
        have q203 : x5_1 < (l0.length : Int):=of_decide_eq_true (by first|(with_reducible assumption)|assumption)
        obtain ⟨ad203,e203,hx203_0⟩:=Kd.at_int HR0.out x5_1 p203 q203
        cases e203
        replace p203:=eq_true p203
        replace q203:=eq_true q203
        have p204 : 0 ≤ (x5_1 : Int):=of_decide_eq_true (by first|(with_reducible assumption)|assumption)
        have q204 : x5_1 < (l1.length : Int):=of_decide_eq_true (by first|(with_reducible assumption)|assumption)
        obtain ⟨ad204,e204,hx204_0⟩:=Kd.at_int HR1.out x5_1 p204 q204
        cases e204
        replace p204:=eq_true p204
        replace q204:=eq_true q204
        go_wp2
        repeat (go_quiet (fail);try go_wp2)
        go_ret
        exact ⟨by first|rfl|(simp;done)|(simp [*];done),by repeat (first|exact Drawn0.refl _|apply Drawn0.step)⟩
      ·rw [if_neg c6] at H
       exact absurd H (by simp)
     ·rw [if_neg c5] at H
      exact absurd H (by simp)
    ·rw [if_neg c4] at H
     have c4b0 : decide (x5_1 < (l0.length : Int)) = false:=decide_eq_false c4
     clear c4
     obtain rfl:=Option.some.inj H
     go_wp2
     repeat (go_quiet (fail);try go_wp2)
     go_ret
     exact ⟨by first|rfl|(simp;done)|(simp [*];done),by repeat (first|exact Drawn0.refl _|apply Drawn0.step)⟩
 ·rw [if_neg c3] at H
  have c3b0 : ((l0.length : Int) == (l1.length : Int)) = false:=beq_eq_false_iff_ne.mpr c3
  have c3b1 : ((l0.length : Int) != (l1.length : Int)) = true:=bne_iff_ne.mpr c3
  have c3b2 : (l0.length == l1.length) = false:=by first|simpa using c3|(simp at c3 ⊢;omega)
  obtain rfl:=Option.some.inj H
  go_enter Tryd.func20,Tryd.ntmps20
  go_wp2
  repeat (go_quiet (fail);try go_wp2)
  go_ret
  exact ⟨by first|rfl|(simp;done)|(simp [*];done),by repeat (first|exact Drawn0.refl _|apply Drawn0.step)⟩
def laws_eqReNode.f (k : Nat) (a0_0 : Int) (a0_1 : Bool) (a0_2 : ByteArray) (l0_3 : List Int) (a1_0 : Int) (a1_1 : Bool) (a1_2 : ByteArray) (l1_3 : List Int) : Option (Bool):=if a0_0 = a1_0 then (if (a0_1 != a1_1) = true then (some false) else (if a0_2.toList = a1_2.toList then ((laws_eqIntS.f k l0_3 l1_3).bind fun t207=>(if t207 = true then (some true) else (some false))) else (some false))) else (some false)
set_option maxHeartbeats 8000000 in
set_option maxRecDepth 100000 in
theorem laws_eqReNode.calls (k : Nat) (a0_0 : Int) (a0_1 : Bool) (a0_2 : ByteArray) (A0_3 : Option Addr) (c0_3 : Nat) (l0_3 : List Int) (a1_0 : Int) (a1_1 : Bool) (a1_2 : ByteArray) (A1_3 : Option Addr) (c1_3 : Nat) (l1_3 : List Int) (r : Bool) (w : World) (hr0_3 : Kd.C (Kd.int .i64) w A0_3 l0_3.length l0_3) (hc0_3 : l0_3.length ≤ c0_3) (hr1_3 : Kd.C (Kd.int .i64) w A1_3 l1_3.length l1_3) (hc1_3 : l1_3.length ≤ c1_3) (h : laws_eqReNode.f k a0_0 a0_1 a0_2 l0_3 a1_0 a1_1 a1_2 l1_3 = some r) :
  Calls Tryd.prog 43 #[.agg #[.int .i64 a0_0,.bool a0_1,.string a0_2,.slice A0_3 l0_3.length c0_3],.agg #[.int .i64 a1_0,.bool a1_1,.string a1_2,.slice A1_3 l1_3.length c1_3]] w fun e w'=>e = .returned (.bool r) ∧ Below w.heap.size w w':=by
 have hu49:=Tryd.underlying49
 have HR0_3:=Aside0.mk hr0_3
 have HC0_3:=Aside0.mk hc0_3
 clear hr0_3 hc0_3
 have HR1_3:=Aside0.mk hr1_3
 have HC1_3:=Aside0.mk hc1_3
 clear hr1_3 hc1_3
 have HB:=Aside0.mk (Below.refl w.heap.size w)
 have H : (if a0_0 = a1_0 then (if (a0_1 != a1_1) = true then (some false) else (if a0_2.toList = a1_2.toList then ((laws_eqIntS.f k l0_3 l1_3).bind fun t207=>(if t207 = true then (some true) else (some false))) else (some false))) else (some false)) = some r:=h
 clear h
 by_cases c3 : a0_0 = a1_0
 ·rw [if_pos c3] at H
  have c3b0 : (a0_0 == a1_0) = true:=beq_iff_eq.mpr c3
  have c3b1 : (a0_0 != a1_0) = false:=bne_eq_false_iff_eq.mpr c3
  clear c3
  by_cases c4 : (a0_1 != a1_1) = true
  ·rw [if_pos c4] at H
   have c4b0 : (a0_1 != a1_1) = true:=c4
   (try (have c4b1 : decide (a0_1 = a1_1) = false:=by simpa using c4))
   (try (have c4b2 : (a0_1 == a1_1) = false:=by simpa using c4))
   (try (have c4b3 : ¬ (a0_1 = a1_1):=by simpa using c4))
   clear c4
   obtain rfl:=Option.some.inj H
   go_enter Tryd.func43,Tryd.ntmps43
   go_wp2_with (first|((with_reducible refine gate_dst (N:=2) rfl ?_);refine box_event ?hg (N:=2) ?hd (cs:=#[.int .i64 a0_0,.bool a0_1,.string a0_2,.slice A0_3 l0_3.length c0_3]) (t:=49) ?hr ?_;(case hd=>rfl);(case hg=>rfl);(case hr=>first|(go_simp;done)|(go_simp;rfl));intro gb205 hg w5 hbox hb;have n0_:=Aside0.mk (below_step (by repeat (first|(with_reducible first|exact HB.out|apply below_alloc|apply pw_below_drewN|apply below_drew1)|exact HB.out)) hb);have n1_:=Aside0.mk (hbox);have n2_:=Aside0.mk ((by rw [hg];exact (below_size (by repeat (first|(with_reducible first|exact HB.out|apply below_alloc|apply pw_below_drewN|apply below_drew1)|exact HB.out))) : w.heap.size ≤ gb205));have n3_:=Aside0.mk ((by rw [hg];exact (below_size (by repeat (first|(with_reducible first|exact HB.out|apply below_alloc|apply pw_below_drewN|apply below_drew1)|exact HB.out))) : w.heap.size ≤ gb205));clear HB;have HB:=n0_;have BK205:=n1_;have GW205:=n2_;have GE205:=n3_;clear n0_ n1_ n2_ n3_;clear hb hbox hg)|((with_reducible refine gate_dst (N:=3) rfl ?_);refine box_event ?hg (N:=3) ?hd (cs:=#[.int .i64 a1_0,.bool a1_1,.string a1_2,.slice A1_3 l1_3.length c1_3]) (t:=49) ?hr ?_;(case hd=>rfl);(case hg=>rfl);(case hr=>first|(go_simp;done)|(go_simp;rfl));intro gb206 hg w6 hbox hb;have n0_:=Aside0.mk (blk_below (g:=gb205) (o:=.cells #[.int .i64 a0_0,.bool a0_1,.string a0_2,.slice A0_3 l0_3.length c0_3] 49 (0,0)) (by (with_reducible repeat (first|refine blk_drewN ?_ _|refine blk_drew ?_|refine blk_alloc ?_ _));exact BK205.out) hb);have n1_:=Aside0.mk (below_step (by repeat (first|(with_reducible first|exact HB.out|apply below_alloc|apply pw_below_drewN|apply below_drew1|refine below_set ?_ GE205.out)|exact HB.out)) hb);have n2_:=Aside0.mk (hbox);have n3_:=Aside0.mk ((by rw [hg];exact (below_size (by repeat (first|(with_reducible first|exact HB.out|apply below_alloc|apply pw_below_drewN|apply below_drew1|refine below_set ?_ GE205.out)|exact HB.out))) : w.heap.size ≤ gb206));have n4_:=Aside0.mk ((by rw [hg];exact (below_size (by repeat (first|(with_reducible first|exact HB.out|apply below_alloc|apply pw_below_drewN|apply below_drew1|refine below_set ?_ GE205.out)|exact HB.out))) : w.heap.size ≤ gb206));have n5_:=Aside0.mk ((by rw [hg];exact Nat.ne_of_lt (blk_lt (g:=gb205) (o:=.cells #[.int .i64 a0_0,.bool a0_1,.string a0_2,.slice A0_3 l0_3.length c0_3] 49 (0,0)) (by (with_reducible repeat (first|refine blk_drewN ?_ _|refine blk_drew ?_|refine blk_alloc ?_ _));exact BK205.out)) : gb205 ≠ gb206));have n6_:=Aside0.mk ((by rw [hg];exact Nat.ne_of_gt (blk_lt (g:=gb205) (o:=.cells #[.int .i64 a0_0,.bool a0_1,.string a0_2,.slice A0_3 l0_3.length c0_3] 49 (0,0)) (by (with_reducible repeat (first|refine blk_drewN ?_ _|refine blk_drew ?_|refine blk_alloc ?_ _));exact BK205.out)) : gb206 ≠ gb205));clear BK205;clear HB;have BK205:=n0_;have HB:=n1_;have BK206:=n2_;have GW206:=n3_;have GE206:=n4_;have NB205_206:=n5_;have NB206_205:=n6_;clear n0_ n1_ n2_ n3_ n4_ n5_ n6_;clear hb hbox hg;have hnb7:=NB205_206.out;have hnc7:=NB206_205.out;have hcz8_0 : w6.cell? ⟨gb205,0,none⟩ = some (.int .i64 a0_0):=(blk_cell BK205.out 0).trans rfl;have hcz8_1 : w6.cell? ⟨gb205,1,none⟩ = some (.bool a0_1):=(blk_cell BK205.out 1).trans rfl;have hcz8_2 : w6.cell? ⟨gb205,2,none⟩ = some (.string a0_2):=(blk_cell BK205.out 2).trans rfl;have hcz8_3 : w6.cell? ⟨gb205,3,none⟩ = some (.slice A0_3 l0_3.length c0_3):=(blk_cell BK205.out 3).trans rfl;have hfz8_0:=blk_frozen BK205.out 0;have hfz8_1:=blk_frozen BK205.out 1;have hfz8_2:=blk_frozen BK205.out 2;have hfz8_3:=blk_frozen BK205.out 3;have hcz9_0 : w6.cell? ⟨gb206,0,none⟩ = some (.int .i64 a1_0):=(blk_cell BK206.out 0).trans rfl;have hcz9_1 : w6.cell? ⟨gb206,1,none⟩ = some (.bool a1_1):=(blk_cell BK206.out 1).trans rfl;have hcz9_2 : w6.cell? ⟨gb206,2,none⟩ = some (.string a1_2):=(blk_cell BK206.out 2).trans rfl;have hcz9_3 : w6.cell? ⟨gb206,3,none⟩ = some (.slice A1_3 l1_3.length c1_3):=(blk_cell BK206.out 3).trans rfl;have hfz9_0:=blk_frozen BK206.out 0;have hfz9_1:=blk_frozen BK206.out 1;have hfz9_2:=blk_frozen BK206.out 2;have hfz9_3:=blk_frozen BK206.out 3))
   go_ret
   exact ⟨by first|rfl|(simp [errW_none,errW_some] <;> rfl)|(simp [*,errW_none,errW_some] <;> rfl),by repeat (first|(with_reducible first|exact HB.out|apply below_alloc|apply pw_below_drewN|apply below_drew1|refine below_set ?_ GE205.out|refine below_set ?_ GE206.out)|exact HB.out)⟩
  ·rw [if_neg c4] at H
   have c4b0 : (a0_1 != a1_1) = false:=by simpa using c4
   (try (have c4b1 : decide (a0_1 = a1_1) = true:=by simpa using c4))
   (try (have c4b2 : (a0_1 == a1_1) = true:=by simpa using c4))
   clear c4
   by_cases c10 : a0_2.toList = a1_2.toList
   ·rw [if_pos c10] at H
    have c10b0 : (a0_2.toList == a1_2.toList) = true:=beq_iff_eq.mpr c10
    have c10b1 : (a0_2.toList != a1_2.toList) = false:=bne_eq_false_iff_eq.mpr c10
    clear c10
    replace H:=Option.bind_eq_some_iff.mp H
    obtain ⟨t207,A110,H⟩:=H
    replace H : (if t207 = true then (some true) else (some false)) = some r:=H
    have A11:=Aside0.mk A110
    clear A110
    by_cases c12 : t207 = true
    ·subst c12
     have H1 : (some true) = some r:=by rw [if_pos rfl] at H;exact H
     clear H
     have H:=H1
     clear H1
     obtain rfl:=Option.some.inj H
     go_enter Tryd.func43,Tryd.ntmps43
     go_wp2_with (first|((with_reducible refine gate_dst (N:=2) rfl ?_);refine box_event ?hg (N:=2) ?hd (cs:=#[.int .i64 a0_0,.bool a0_1,.string a0_2,.slice A0_3 l0_3.length c0_3]) (t:=49) ?hr ?_;(case hd=>rfl);(case hg=>rfl);(case hr=>first|(go_simp;done)|(go_simp;rfl));intro gb205 hg w13 hbox hb;have n0_:=Aside0.mk (below_step (by repeat (first|(with_reducible first|exact HB.out|apply below_alloc|apply pw_below_drewN|apply below_drew1)|exact HB.out)) hb);have n1_:=Aside0.mk (hbox);have n2_:=Aside0.mk ((by rw [hg];exact (below_size (by repeat (first|(with_reducible first|exact HB.out|apply below_alloc|apply pw_below_drewN|apply below_drew1)|exact HB.out))) : w.heap.size ≤ gb205));have n3_:=Aside0.mk ((by rw [hg];exact (below_size (by repeat (first|(with_reducible first|exact HB.out|apply below_alloc|apply pw_below_drewN|apply below_drew1)|exact HB.out))) : w.heap.size ≤ gb205));clear HB;have HB:=n0_;have BK205:=n1_;have GW205:=n2_;have GE205:=n3_;clear n0_ n1_ n2_ n3_;clear hb hbox hg)|((with_reducible refine gate_dst (N:=3) rfl ?_);refine box_event ?hg (N:=3) ?hd (cs:=#[.int .i64 a1_0,.bool a1_1,.string a1_2,.slice A1_3 l1_3.length c1_3]) (t:=49) ?hr ?_;(case hd=>rfl);(case hg=>rfl);(case hr=>first|(go_simp;done)|(go_simp;rfl));intro gb206 hg w14 hbox hb;have n0_:=Aside0.mk (blk_below (g:=gb205) (o:=.cells #[.int .i64 a0_0,.bool a0_1,.string a0_2,.slice A0_3 l0_3.length c0_3] 49 (0,0)) (by (with_reducible repeat (first|refine blk_drewN ?_ _|refine blk_drew ?_|refine blk_alloc ?_ _));exact BK205.out) hb);have n1_:=Aside0.mk (below_step (by repeat (first|(with_reducible first|exact HB.out|apply below_alloc|apply pw_below_drewN|apply below_drew1|refine below_set ?_ GE205.out)|exact HB.out)) hb);have n2_:=Aside0.mk (hbox);have n3_:=Aside0.mk ((by rw [hg];exact (below_size (by repeat (first|(with_reducible first|exact HB.out|apply below_alloc|apply pw_below_drewN|apply below_drew1|refine below_set ?_ GE205.out)|exact HB.out))) : w.heap.size ≤ gb206));have n4_:=Aside0.mk ((by rw [hg];exact (below_size (by repeat (first|(with_reducible first|exact HB.out|apply below_alloc|apply pw_below_drewN|apply below_drew1|refine below_set ?_ GE205.out)|exact HB.out))) : w.heap.size ≤ gb206));have n5_:=Aside0.mk ((by rw [hg];exact Nat.ne_of_lt (blk_lt (g:=gb205) (o:=.cells #[.int .i64 a0_0,.bool a0_1,.string a0_2,.slice A0_3 l0_3.length c0_3] 49 (0,0)) (by (with_reducible repeat (first|refine blk_drewN ?_ _|refine blk_drew ?_|refine blk_alloc ?_ _));exact BK205.out)) : gb205 ≠ gb206));have n6_:=Aside0.mk ((by rw [hg];exact Nat.ne_of_gt (blk_lt (g:=gb205) (o:=.cells #[.int .i64 a0_0,.bool a0_1,.string a0_2,.slice A0_3 l0_3.length c0_3] 49 (0,0)) (by (with_reducible repeat (first|refine blk_drewN ?_ _|refine blk_drew ?_|refine blk_alloc ?_ _));exact BK205.out)) : gb206 ≠ gb205));clear BK205;clear HB;have BK205:=n0_;have HB:=n1_;have BK206:=n2_;have GW206:=n3_;have GE206:=n4_;have NB205_206:=n5_;have NB206_205:=n6_;clear n0_ n1_ n2_ n3_ n4_ n5_ n6_;clear hb hbox hg;have hnb15:=NB205_206.out;have hnc15:=NB206_205.out;have hcz16_0 : w14.cell? ⟨gb205,0,none⟩ = some (.int .i64 a0_0):=(blk_cell BK205.out 0).trans rfl;have hcz16_1 : w14.cell? ⟨gb205,1,none⟩ = some (.bool a0_1):=(blk_cell BK205.out 1).trans rfl;have hcz16_2 : w14.cell? ⟨gb205,2,none⟩ = some (.string a0_2):=(blk_cell BK205.out 2).trans rfl;have hcz16_3 : w14.cell? ⟨gb205,3,none⟩ = some (.slice A0_3 l0_3.length c0_3):=(blk_cell BK205.out 3).trans rfl;have hfz16_0:=blk_frozen BK205.out 0;have hfz16_1:=blk_frozen BK205.out 1;have hfz16_2:=blk_frozen BK205.out 2;have hfz16_3:=blk_frozen BK205.out 3;have hcz17_0 : w14.cell? ⟨gb206,0,none⟩ = some (.int .i64 a1_0):=(blk_cell BK206.out 0).trans rfl;have hcz17_1 : w14.cell? ⟨gb206,1,none⟩ = some (.bool a1_1):=(blk_cell BK206.out 1).trans rfl;have hcz17_2 : w14.cell? ⟨gb206,2,none⟩ = some (.string a1_2):=(blk_cell BK206.out 2).trans rfl;have hcz17_3 : w14.cell? ⟨gb206,3,none⟩ = some (.slice A1_3 l1_3.length c1_3):=(blk_cell BK206.out 3).trans rfl;have hfz17_0:=blk_frozen BK206.out 0;have hfz17_1:=blk_frozen BK206.out 1;have hfz17_2:=blk_frozen BK206.out 2;have hfz17_3:=blk_frozen BK206.out 3)|((with_reducible refine gate_callee (f:=20) rfl ?_);refine goesL_ (some 24) rfl rfl Tryd.func20 (by kernel_rfl) rfl #[.slice A0_3 l0_3.length c0_3,.slice A1_3 l1_3.length c1_3] rfl (by (try simp only [List.map_toArray,List.map_cons,List.map_nil]);first|done|rfl|(simp only [List.length_drop,List.length_take];rfl)) ?_;(with_reducible refine (laws_eqIntS.calls k _ _ l0_3 _ _ l1_3 true _ ?side1 ?side2 ?side3 ?side4 A11.out).mono ?_);(case side1=>repeat (first|exact (Kd.C_below HR0_3.out HB.out)|(with_reducible refine Kd.C_alloc ?_ _)|(with_reducible refine Kd.C_drewN ?_ _)|(with_reducible refine Kd.C_drew ?_)));(case side2=>exact HC0_3.out);(case side3=>repeat (first|exact (Kd.C_below HR1_3.out HB.out)|(with_reducible refine Kd.C_alloc ?_ _)|(with_reducible refine Kd.C_drewN ?_ _)|(with_reducible refine Kd.C_drew ?_)));(case side4=>exact HC1_3.out);rintro e w' ⟨rfl,⟨nd,rfl⟩⟩;refine ⟨_,rfl,?_⟩))
     go_ret
     exact ⟨by first|rfl|(simp [errW_none,errW_some] <;> rfl)|(simp [*,errW_none,errW_some] <;> rfl),by repeat (first|(with_reducible first|exact HB.out|apply below_alloc|apply pw_below_drewN|apply below_drew1|refine below_set ?_ GE205.out|refine below_set ?_ GE206.out)|exact HB.out)⟩
    ·replace c12:=Bool.eq_false_iff.mpr c12
     subst c12
     have H1 : (some false) = some r:=by rw [if_neg (show ¬ (false = true) by decide)] at H;exact H
     clear H
     have H:=H1
     clear H1
     obtain rfl:=Option.some.inj H
     go_enter Tryd.func43,Tryd.ntmps43
     go_wp2_with (first|((with_reducible refine gate_dst (N:=2) rfl ?_);refine box_event ?hg (N:=2) ?hd (cs:=#[.int .i64 a0_0,.bool a0_1,.string a0_2,.slice A0_3 l0_3.length c0_3]) (t:=49) ?hr ?_;(case hd=>rfl);(case hg=>rfl);(case hr=>first|(go_simp;done)|(go_simp;rfl));intro gb205 hg w18 hbox hb;have n0_:=Aside0.mk (below_step (by repeat (first|(with_reducible first|exact HB.out|apply below_alloc|apply pw_below_drewN|apply below_drew1)|exact HB.out)) hb);have n1_:=Aside0.mk (hbox);have n2_:=Aside0.mk ((by rw [hg];exact (below_size (by repeat (first|(with_reducible first|exact HB.out|apply below_alloc|apply pw_below_drewN|apply below_drew1)|exact HB.out))) : w.heap.size ≤ gb205));have n3_:=Aside0.mk ((by rw [hg];exact (below_size (by repeat (first|(with_reducible first|exact HB.out|apply below_alloc|apply pw_below_drewN|apply below_drew1)|exact HB.out))) : w.heap.size ≤ gb205));clear HB;have HB:=n0_;have BK205:=n1_;have GW205:=n2_;have GE205:=n3_;clear n0_ n1_ n2_ n3_;clear hb hbox hg)|((with_reducible refine gate_dst (N:=3) rfl ?_);refine box_event ?hg (N:=3) ?hd (cs:=#[.int .i64 a1_0,.bool a1_1,.string a1_2,.slice A1_3 l1_3.length c1_3]) (t:=49) ?hr ?_;(case hd=>rfl);(case hg=>rfl);(case hr=>first|(go_simp;done)|(go_simp;rfl));intro gb206 hg w19 hbox hb;have n0_:=Aside0.mk (blk_below (g:=gb205) (o:=.cells #[.int .i64 a0_0,.bool a0_1,.string a0_2,.slice A0_3 l0_3.length c0_3] 49 (0,0)) (by (with_reducible repeat (first|refine blk_drewN ?_ _|refine blk_drew ?_|refine blk_alloc ?_ _));exact BK205.out) hb);have n1_:=Aside0.mk (below_step (by repeat (first|(with_reducible first|exact HB.out|apply below_alloc|apply pw_below_drewN|apply below_drew1|refine below_set ?_ GE205.out)|exact HB.out)) hb);have n2_:=Aside0.mk (hbox);have n3_:=Aside0.mk ((by rw [hg];exact (below_size (by repeat (first|(with_reducible first|exact HB.out|apply below_alloc|apply pw_below_drewN|apply below_drew1|refine below_set ?_ GE205.out)|exact HB.out))) : w.heap.size ≤ gb206));have n4_:=Aside0.mk ((by rw [hg];exact (below_size (by repeat (first|(with_reducible first|exact HB.out|apply below_alloc|apply pw_below_drewN|apply below_drew1|refine below_set ?_ GE205.out)|exact HB.out))) : w.heap.size ≤ gb206));have n5_:=Aside0.mk ((by rw [hg];exact Nat.ne_of_lt (blk_lt (g:=gb205) (o:=.cells #[.int .i64 a0_0,.bool a0_1,.string a0_2,.slice A0_3 l0_3.length c0_3] 49 (0,0)) (by (with_reducible repeat (first|refine blk_drewN ?_ _|refine blk_drew ?_|refine blk_alloc ?_ _));exact BK205.out)) : gb205 ≠ gb206));have n6_:=Aside0.mk ((by rw [hg];exact Nat.ne_of_gt (blk_lt (g:=gb205) (o:=.cells #[.int .i64 a0_0,.bool a0_1,.string a0_2,.slice A0_3 l0_3.length c0_3] 49 (0,0)) (by (with_reducible repeat (first|refine blk_drewN ?_ _|refine blk_drew ?_|refine blk_alloc ?_ _));exact BK205.out)) : gb206 ≠ gb205));clear BK205;clear HB;have BK205:=n0_;have HB:=n1_;have BK206:=n2_;have GW206:=n3_;have GE206:=n4_;have NB205_206:=n5_;have NB206_205:=n6_;clear n0_ n1_ n2_ n3_ n4_ n5_ n6_;clear hb hbox hg;have hnb20:=NB205_206.out;have hnc20:=NB206_205.out;have hcz21_0 : w19.cell? ⟨gb205,0,none⟩ = some (.int .i64 a0_0):=(blk_cell BK205.out 0).trans rfl;have hcz21_1 : w19.cell? ⟨gb205,1,none⟩ = some (.bool a0_1):=(blk_cell BK205.out 1).trans rfl;have hcz21_2 : w19.cell? ⟨gb205,2,none⟩ = some (.string a0_2):=(blk_cell BK205.out 2).trans rfl;have hcz21_3 : w19.cell? ⟨gb205,3,none⟩ = some (.slice A0_3 l0_3.length c0_3):=(blk_cell BK205.out 3).trans rfl;have hfz21_0:=blk_frozen BK205.out 0;have hfz21_1:=blk_frozen BK205.out 1;have hfz21_2:=blk_frozen BK205.out 2;have hfz21_3:=blk_frozen BK205.out 3;have hcz22_0 : w19.cell? ⟨gb206,0,none⟩ = some (.int .i64 a1_0):=(blk_cell BK206.out 0).trans rfl;have hcz22_1 : w19.cell? ⟨gb206,1,none⟩ = some (.bool a1_1):=(blk_cell BK206.out 1).trans rfl;have hcz22_2 : w19.cell? ⟨gb206,2,none⟩ = some (.string a1_2):=(blk_cell BK206.out 2).trans rfl;have hcz22_3 : w19.cell? ⟨gb206,3,none⟩ = some (.slice A1_3 l1_3.length c1_3):=(blk_cell BK206.out 3).trans rfl;have hfz22_0:=blk_frozen BK206.out 0;have hfz22_1:=blk_frozen BK206.out 1;have hfz22_2:=blk_frozen BK206.out 2;have hfz22_3:=blk_frozen BK206.out 3)|((with_reducible refine gate_callee (f:=20) rfl ?_);refine goesL_ (some 24) rfl rfl Tryd.func20 (by kernel_rfl) rfl #[.slice A0_3 l0_3.length c0_3,.slice A1_3 l1_3.length c1_3] rfl (by (try simp only [List.map_toArray,List.map_cons,List.map_nil]);first|done|rfl|(simp only [List.length_drop,List.length_take];rfl)) ?_;(with_reducible refine (laws_eqIntS.calls k _ _ l0_3 _ _ l1_3 false _ ?side1 ?side2 ?side3 ?side4 A11.out).mono ?_);(case side1=>repeat (first|exact (Kd.C_below HR0_3.out HB.out)|(with_reducible refine Kd.C_alloc ?_ _)|(with_reducible refine Kd.C_drewN ?_ _)|(with_reducible refine Kd.C_drew ?_)));(case side2=>exact HC0_3.out);(case side3=>repeat (first|exact (Kd.C_below HR1_3.out HB.out)|(with_reducible refine Kd.C_alloc ?_ _)|(with_reducible refine Kd.C_drewN ?_ _)|(with_reducible refine Kd.C_drew ?_)));(case side4=>exact HC1_3.out);rintro e w' ⟨rfl,⟨nd,rfl⟩⟩;refine ⟨_,rfl,?_⟩))
     go_ret
     exact ⟨by first|rfl|(simp [errW_none,errW_some] <;> rfl)|(simp [*,errW_none,errW_some] <;> rfl),by repeat (first|(with_reducible first|exact HB.out|apply below_alloc|apply pw_below_drewN|apply below_drew1|refine below_set ?_ GE205.out|refine below_set ?_ GE206.out)|exact HB.out)⟩
   ·rw [if_neg c10] at H
    have c10b0 : (a0_2.toList == a1_2.toList) = false:=beq_eq_false_iff_ne.mpr c10
    have c10b1 : (a0_2.toList != a1_2.toList) = true:=bne_iff_ne.mpr c10
    obtain rfl:=Option.some.inj H
    go_enter Tryd.func43,Tryd.ntmps43
    go_wp2_with (first|((with_reducible refine gate_dst (N:=2) rfl ?_);refine box_event ?hg (N:=2) ?hd (cs:=#[.int .i64 a0_0,.bool a0_1,.string a0_2,.slice A0_3 l0_3.length c0_3]) (t:=49) ?hr ?_;(case hd=>rfl);(case hg=>rfl);(case hr=>first|(go_simp;done)|(go_simp;rfl));intro gb205 hg w23 hbox hb;have n0_:=Aside0.mk (below_step (by repeat (first|(with_reducible first|exact HB.out|apply below_alloc|apply pw_below_drewN|apply below_drew1)|exact HB.out)) hb);have n1_:=Aside0.mk (hbox);have n2_:=Aside0.mk ((by rw [hg];exact (below_size (by repeat (first|(with_reducible first|exact HB.out|apply below_alloc|apply pw_below_drewN|apply below_drew1)|exact HB.out))) : w.heap.size ≤ gb205));have n3_:=Aside0.mk ((by rw [hg];exact (below_size (by repeat (first|(with_reducible first|exact HB.out|apply below_alloc|apply pw_below_drewN|apply below_drew1)|exact HB.out))) : w.heap.size ≤ gb205));clear HB;have HB:=n0_;have BK205:=n1_;have GW205:=n2_;have GE205:=n3_;clear n0_ n1_ n2_ n3_;clear hb hbox hg)|((with_reducible refine gate_dst (N:=3) rfl ?_);refine box_event ?hg (N:=3) ?hd (cs:=#[.int .i64 a1_0,.bool a1_1,.string a1_2,.slice A1_3 l1_3.length c1_3]) (t:=49) ?hr ?_;(case hd=>rfl);(case hg=>rfl);(case hr=>first|(go_simp;done)|(go_simp;rfl));intro gb206 hg w24 hbox hb;have n0_:=Aside0.mk (blk_below (g:=gb205) (o:=.cells #[.int .i64 a0_0,.bool a0_1,.string a0_2,.slice A0_3 l0_3.length c0_3] 49 (0,0)) (by (with_reducible repeat (first|refine blk_drewN ?_ _|refine blk_drew ?_|refine blk_alloc ?_ _));exact BK205.out) hb);have n1_:=Aside0.mk (below_step (by repeat (first|(with_reducible first|exact HB.out|apply below_alloc|apply pw_below_drewN|apply below_drew1|refine below_set ?_ GE205.out)|exact HB.out)) hb);have n2_:=Aside0.mk (hbox);have n3_:=Aside0.mk ((by rw [hg];exact (below_size (by repeat (first|(with_reducible first|exact HB.out|apply below_alloc|apply pw_below_drewN|apply below_drew1|refine below_set ?_ GE205.out)|exact HB.out))) : w.heap.size ≤ gb206));have n4_:=Aside0.mk ((by rw [hg];exact (below_size (by repeat (first|(with_reducible first|exact HB.out|apply below_alloc|apply pw_below_drewN|apply below_drew1|refine below_set ?_ GE205.out)|exact HB.out))) : w.heap.size ≤ gb206));have n5_:=Aside0.mk ((by rw [hg];exact Nat.ne_of_lt (blk_lt (g:=gb205) (o:=.cells #[.int .i64 a0_0,.bool a0_1,.string a0_2,.slice A0_3 l0_3.length c0_3] 49 (0,0)) (by (with_reducible repeat (first|refine blk_drewN ?_ _|refine blk_drew ?_|refine blk_alloc ?_ _));exact BK205.out)) : gb205 ≠ gb206));have n6_:=Aside0.mk ((by rw [hg];exact Nat.ne_of_gt (blk_lt (g:=gb205) (o:=.cells #[.int .i64 a0_0,.bool a0_1,.string a0_2,.slice A0_3 l0_3.length c0_3] 49 (0,0)) (by (with_reducible repeat (first|refine blk_drewN ?_ _|refine blk_drew ?_|refine blk_alloc ?_ _));exact BK205.out)) : gb206 ≠ gb205));clear BK205;clear HB;have BK205:=n0_;have HB:=n1_;have BK206:=n2_;have GW206:=n3_;have GE206:=n4_;have NB205_206:=n5_;have NB206_205:=n6_;clear n0_ n1_ n2_ n3_ n4_ n5_ n6_;clear hb hbox hg;have hnb25:=NB205_206.out;have hnc25:=NB206_205.out;have hcz26_0 : w24.cell? ⟨gb205,0,none⟩ = some (.int .i64 a0_0):=(blk_cell BK205.out 0).trans rfl;have hcz26_1 : w24.cell? ⟨gb205,1,none⟩ = some (.bool a0_1):=(blk_cell BK205.out 1).trans rfl;have hcz26_2 : w24.cell? ⟨gb205,2,none⟩ = some (.string a0_2):=(blk_cell BK205.out 2).trans rfl;have hcz26_3 : w24.cell? ⟨gb205,3,none⟩ = some (.slice A0_3 l0_3.length c0_3):=(blk_cell BK205.out 3).trans rfl;have hfz26_0:=blk_frozen BK205.out 0;have hfz26_1:=blk_frozen BK205.out 1;have hfz26_2:=blk_frozen BK205.out 2;have hfz26_3:=blk_frozen BK205.out 3;have hcz27_0 : w24.cell? ⟨gb206,0,none⟩ = some (.int .i64 a1_0):=(blk_cell BK206.out 0).trans rfl;have hcz27_1 : w24.cell? ⟨gb206,1,none⟩ = some (.bool a1_1):=(blk_cell BK206.out 1).trans rfl;have hcz27_2 : w24.cell? ⟨gb206,2,none⟩ = some (.string a1_2):=(blk_cell BK206.out 2).trans rfl;have hcz27_3 : w24.cell? ⟨gb206,3,none⟩ = some (.slice A1_3 l1_3.length c1_3):=(blk_cell BK206.out 3).trans rfl;have hfz27_0:=blk_frozen BK206.out 0;have hfz27_1:=blk_frozen BK206.out 1;have hfz27_2:=blk_frozen BK206.out 2;have hfz27_3:=blk_frozen BK206.out 3))
    go_ret
    exact ⟨by first|rfl|(simp [errW_none,errW_some] <;> rfl)|(simp [*,errW_none,errW_some] <;> rfl),by repeat (first|(with_reducible first|exact HB.out|apply below_alloc|apply pw_below_drewN|apply below_drew1|refine below_set ?_ GE205.out|refine below_set ?_ GE206.out)|exact HB.out)⟩
 ·rw [if_neg c3] at H
  have c3b0 : (a0_0 == a1_0) = false:=beq_eq_false_iff_ne.mpr c3
  have c3b1 : (a0_0 != a1_0) = true:=bne_iff_ne.mpr c3
  obtain rfl:=Option.some.inj H
  go_enter Tryd.func43,Tryd.ntmps43
  go_wp2_with (first|((with_reducible refine gate_dst (N:=2) rfl ?_);refine box_event ?hg (N:=2) ?hd (cs:=#[.int .i64 a0_0,.bool a0_1,.string a0_2,.slice A0_3 l0_3.length c0_3]) (t:=49) ?hr ?_;(case hd=>rfl);(case hg=>rfl);(case hr=>first|(go_simp;done)|(go_simp;rfl));intro gb205 hg w28 hbox hb;have n0_:=Aside0.mk (below_step (by repeat (first|(with_reducible first|exact HB.out|apply below_alloc|apply pw_below_drewN|apply below_drew1)|exact HB.out)) hb);have n1_:=Aside0.mk (hbox);have n2_:=Aside0.mk ((by rw [hg];exact (below_size (by repeat (first|(with_reducible first|exact HB.out|apply below_alloc|apply pw_below_drewN|apply below_drew1)|exact HB.out))) : w.heap.size ≤ gb205));have n3_:=Aside0.mk ((by rw [hg];exact (below_size (by repeat (first|(with_reducible first|exact HB.out|apply below_alloc|apply pw_below_drewN|apply below_drew1)|exact HB.out))) : w.heap.size ≤ gb205));clear HB;have HB:=n0_;have BK205:=n1_;have GW205:=n2_;have GE205:=n3_;clear n0_ n1_ n2_ n3_;clear hb hbox hg)|((with_reducible refine gate_dst (N:=3) rfl ?_);refine box_event ?hg (N:=3) ?hd (cs:=#[.int .i64 a1_0,.bool a1_1,.string a1_2,.slice A1_3 l1_3.length c1_3]) (t:=49) ?hr ?_;(case hd=>rfl);(case hg=>rfl);(case hr=>first|(go_simp;done)|(go_simp;rfl));intro gb206 hg w29 hbox hb;have n0_:=Aside0.mk (blk_below (g:=gb205) (o:=.cells #[.int .i64 a0_0,.bool a0_1,.string a0_2,.slice A0_3 l0_3.length c0_3] 49 (0,0)) (by (with_reducible repeat (first|refine blk_drewN ?_ _|refine blk_drew ?_|refine blk_alloc ?_ _));exact BK205.out) hb);have n1_:=Aside0.mk (below_step (by repeat (first|(with_reducible first|exact HB.out|apply below_alloc|apply pw_below_drewN|apply below_drew1|refine below_set ?_ GE205.out)|exact HB.out)) hb);have n2_:=Aside0.mk (hbox);have n3_:=Aside0.mk ((by rw [hg];exact (below_size (by repeat (first|(with_reducible first|exact HB.out|apply below_alloc|apply pw_below_drewN|apply below_drew1|refine below_set ?_ GE205.out)|exact HB.out))) : w.heap.size ≤ gb206));have n4_:=Aside0.mk ((by rw [hg];exact (below_size (by repeat (first|(with_reducible first|exact HB.out|apply below_alloc|apply pw_below_drewN|apply below_drew1|refine below_set ?_ GE205.out)|exact HB.out))) : w.heap.size ≤ gb206));have n5_:=Aside0.mk ((by rw [hg];exact Nat.ne_of_lt (blk_lt (g:=gb205) (o:=.cells #[.int .i64 a0_0,.bool a0_1,.string a0_2,.slice A0_3 l0_3.length c0_3] 49 (0,0)) (by (with_reducible repeat (first|refine blk_drewN ?_ _|refine blk_drew ?_|refine blk_alloc ?_ _));exact BK205.out)) : gb205 ≠ gb206));have n6_:=Aside0.mk ((by rw [hg];exact Nat.ne_of_gt (blk_lt (g:=gb205) (o:=.cells #[.int .i64 a0_0,.bool a0_1,.string a0_2,.slice A0_3 l0_3.length c0_3] 49 (0,0)) (by (with_reducible repeat (first|refine blk_drewN ?_ _|refine blk_drew ?_|refine blk_alloc ?_ _));exact BK205.out)) : gb206 ≠ gb205));clear BK205;clear HB;have BK205:=n0_;have HB:=n1_;have BK206:=n2_;have GW206:=n3_;have GE206:=n4_;have NB205_206:=n5_;have NB206_205:=n6_;clear n0_ n1_ n2_ n3_ n4_ n5_ n6_;clear hb hbox hg;have hnb30:=NB205_206.out;have hnc30:=NB206_205.out;have hcz31_0 : w29.cell? ⟨gb205,0,none⟩ = some (.int .i64 a0_0):=(blk_cell BK205.out 0).trans rfl;have hcz31_1 : w29.cell? ⟨gb205,1,none⟩ = some (.bool a0_1):=(blk_cell BK205.out 1).trans rfl;have hcz31_2 : w29.cell? ⟨gb205,2,none⟩ = some (.string a0_2):=(blk_cell BK205.out 2).trans rfl;have hcz31_3 : w29.cell? ⟨gb205,3,none⟩ = some (.slice A0_3 l0_3.length c0_3):=(blk_cell BK205.out 3).trans rfl;have hfz31_0:=blk_frozen BK205.out 0;have hfz31_1:=blk_frozen BK205.out 1;have hfz31_2:=blk_frozen BK205.out 2;have hfz31_3:=blk_frozen BK205.out 3;have hcz32_0 : w29.cell? ⟨gb206,0,none⟩ = some (.int .i64 a1_0):=(blk_cell BK206.out 0).trans rfl;have hcz32_1 : w29.cell? ⟨gb206,1,none⟩ = some (.bool a1_1):=(blk_cell BK206.out 1).trans rfl;have hcz32_2 : w29.cell? ⟨gb206,2,none⟩ = some (.string a1_2):=(blk_cell BK206.out 2).trans rfl;have hcz32_3 : w29.cell? ⟨gb206,3,none⟩ = some (.slice A1_3 l1_3.length c1_3):=(blk_cell BK206.out 3).trans rfl;have hfz32_0:=blk_frozen BK206.out 0;have hfz32_1:=blk_frozen BK206.out 1;have hfz32_2:=blk_frozen BK206.out 2;have hfz32_3:=blk_frozen BK206.out 3))
  go_ret
  exact ⟨by first|rfl|(simp [errW_none,errW_some] <;> rfl)|(simp [*,errW_none,errW_some] <;> rfl),by repeat (first|(with_reducible first|exact HB.out|apply below_alloc|apply pw_below_drewN|apply below_drew1|refine below_set ?_ GE205.out|refine below_set ?_ GE206.out)|exact HB.out)⟩
end Go.Proofs.YtlakdfbfkbndiaaDoor.Q
namespace Go.Proofs.YtlakdfbfkbndiaaDoor.Q
open Go.RowKit Go.Proofs.YtlakdfbfkbndiaaDoor.Re Go.Proofs.YtlakdfbfkbndiaaDoorW.PrintWords Go.Proofs.YtlakdfbfkbndiaaDoorW.PrintLast Go.Proofs.YtlakdfbfkbndiaaDoorW.PrintMore
def wobj (ws : Nat → Nat) : Obj := .cells #[.int .u64 (ws 0), .int .u64 (ws 1), .int .u64 (ws 2), .int .u64 (ws 3), .int .u64 (ws 4), .int .u64 (ws 5), .int .u64 (ws 6), .int .u64 (ws 7)] 113 (0, 0)
theorem wobj_cell {w : World} {b : Nat} {ws : Nat → Nat} (h : w.heap[b]? = some (wobj ws)) (i : Nat) (hi : i < 8) : w.cell? ⟨b, i, none⟩ = some (.int .u64 (ws i)) := by
  have : i = 0 ∨ i = 1 ∨ i = 2 ∨ i = 3 ∨ i = 4 ∨ i = 5 ∨ i = 6 ∨ i = 7 := by omega
  rcases this with rfl | rfl | rfl | rfl | rfl | rfl | rfl | rfl <;> simp [World.cell?, h, wobj]
theorem wobj_frozen {w : World} {b : Nat} {ws : Nat → Nat} (h : w.heap[b]? = some (wobj ws)) (i : Nat) : w.frozen? ⟨b, i, none⟩ = false := by
  simp [World.frozen?, h, wobj]
theorem wobj_set {w : World} {b : Nat} {ws : Nat → Nat} (h : w.heap[b]? = some (wobj ws)) (i : Nat) (hi : i < 8) (x : Nat) : (w.setCell ⟨b, i, none⟩ (.int .u64 x)).heap[b]? = some (wobj fun j => if j = i then x else ws j) := by
  have : i = 0 ∨ i = 1 ∨ i = 2 ∨ i = 3 ∨ i = 4 ∨ i = 5 ∨ i = 6 ∨ i = 7 := by omega
  rcases this with rfl | rfl | rfl | rfl | rfl | rfl | rfl | rfl <;> simp [World.setCell, Array.getElem?_modify, h, wobj]
theorem and_bit (a x : Nat) (hx : x < 18446744073709551616) : bits .and .u64 ((x : Int) / 2 ^ (a % 64)) 1 = ((x / 2 ^ (a % 64) % 2 : Nat) : Int) := by
  have hsh : (x : Int) / 2 ^ (a % 64) = ((x / 2 ^ (a % 64) : Nat) : Int) := by rw [Int.natCast_ediv]; simp
  have e := bits_and_u64_nat (x / 2 ^ (a % 64)) 1 (Nat.lt_of_le_of_lt (Nat.div_le_self _ _) hx) (by omega)
  rw [Nat.and_one_is_mod] at e
  rw [hsh]; exact e
theorem add_has (b a x : Nat) (ha : a < 512) (hx : x < 18446744073709551616) (w : World) (hc : w.cell? ⟨b, a / 64, none⟩ = some (.int .u64 x)) (h : x / 2 ^ (a % 64) % 2 = 1) :
    Calls Tryd.prog 78 #[.pointer (some ⟨b, 0, none⟩), .int .i64 a] w fun e w' => e = .returned (.bool false) ∧ w' = w := by
  have hand : (bits .and .u64 ((x : Int) / 2 ^ (a % 64)) 1 == 1) = true := by rw [and_bit a x hx, h]; rfl
  have d1 : (a : Int) / 64 < 8 := by omega
  have d2 : (0 : Int) ≤ (a : Int) % 64 := by omega
  have d3 : (a : Int) % 64 ≤ 64 := by omega
  clear h hx
  go_enter Tryd.func78, Tryd.ntmps78
  go_wp2_with fail
  go_ret
  exact ⟨rfl, rfl⟩
set_option maxRecDepth 100000 in
theorem add_new (b a x : Nat) (ha : a < 512) (hx : x < 18446744073709551616) (w : World) (hc : w.cell? ⟨b, a / 64, none⟩ = some (.int .u64 x)) (hz : w.frozen? ⟨b, a / 64, none⟩ = false) (h : x / 2 ^ (a % 64) % 2 ≠ 1) :
    Calls Tryd.prog 78 #[.pointer (some ⟨b, 0, none⟩), .int .i64 a] w fun e w' => e = .returned (.bool true) ∧ w' = (w.setCell ⟨b, a / 64, none⟩ (.int .u64 ((x ||| 2 ^ (a % 64) : Nat) : Int))).drew := by
  have hand : (bits .and .u64 ((x : Int) / 2 ^ (a % 64)) 1 == 1) = false := by rw [and_bit a x hx]; exact beq_eq_false_iff_ne.mpr fun e => h (Int.ofNat.inj e)
  have d1 : (a : Int) / 64 < 8 := by omega
  have d2 : (0 : Int) ≤ (a : Int) % 64 := by omega
  have d3 : (a : Int) % 64 ≤ 64 := by omega
  have hor : bits .or .u64 (x : Int) (IntKind.u64.wrap (2 ^ (a % 64))) = ((x ||| 2 ^ (a % 64) : Nat) : Int) := by
    have hp : 2 ^ (a % 64) < 18446744073709551616 := Nat.pow_lt_pow_right (a := 2) (n := 64) (by omega) (by omega)
    have e : IntKind.u64.wrap (2 ^ (a % 64)) = ((2 ^ (a % 64) : Nat) : Int) := by
      have e2 : (2 : Int) ^ (a % 64) = ((2 ^ (a % 64) : Nat) : Int) := by simp
      rw [IntKind.wrap_u64, e2]
      generalize 2 ^ (a % 64) = p at *
      omega
    rw [e]; exact bits_or_u64_nat x _ hx hp
  clear h
  go_enter Tryd.func78, Tryd.ntmps78
  go_wp2_with fail
  go_region
  go_wp2_with fail
  go_ret
  exact ⟨rfl, rfl⟩
theorem add_calls (b a : Nat) (ha : a < 512) (ws : Nat → Nat) (S : Nat → Prop) (hS : IsSet ws S) (w : World) (hw : w.heap[b]? = some (wobj ws)) :
    Calls Tryd.prog 78 #[.pointer (some ⟨b, 0, none⟩), .int .i64 a] w fun e w' => ∃ r, e = .returned (.bool r) ∧ (r = true ↔ ¬ S a) ∧
      ∃ ws', IsSet ws' (fun j => S j ∨ j = a) ∧ w'.heap[b]? = some (wobj ws') ∧ w.grownBy w' (some b) ∧ w'.heap.size = w.heap.size := by
  have e1 : 64 * (a / 64) + a % 64 = a := by omega
  have h8 : a / 64 < 8 := by omega
  have hh := hS.has (a / 64) (a % 64) h8 (by omega)
  rw [e1] at hh
  have hx := hS.lt (a / 64) h8
  by_cases h : ws (a / 64) / 2 ^ (a % 64) % 2 = 1
  · refine (add_has b a _ ha hx w (wobj_cell hw _ h8) h).mono ?_
    rintro e w' ⟨rfl, rfl⟩
    refine ⟨false, rfl, by simp [hh.mp h], ws, hS.congr fun j _ => ⟨.inl, ?_⟩, hw, ⟨rfl, rfl, rfl, Nat.le_refl _, fun _ _ _ => rfl⟩, rfl⟩
    rintro (h1 | h1)
    · exact h1
    · rw [h1]; exact hh.mp h
  · refine (add_new b a _ ha hx w (wobj_cell hw _ h8) (wobj_frozen hw _) h).mono ?_
    rintro e w' ⟨rfl, rfl⟩
    refine ⟨true, rfl, by simp [mt hh.mpr h], _, ?_, wobj_set hw _ h8 _, ⟨rfl, rfl, rfl, ?_, fun k _ hk => ?_⟩, ?_⟩
    · have g := hS.add (a / 64) (a % 64) h8 (by omega)
      rw [e1] at g
      exact g
    · show w.heap.size ≤ (w.setCell _ _).heap.size
      simp [World.setCell]
    · exact Below.heap_setCell w _ _ k fun e => hk (by rw [e])
    · show (w.setCell _ _).heap.size = _
      simp [World.setCell]
theorem add_zero_calls (b : Nat) (ws : Nat → Nat) (S : Nat → Prop) (hS : IsSet ws S) (w : World) (hw : w.heap[b]? = some (wobj ws)) :
    Calls Tryd.prog 78 #[.pointer (some ⟨b, 0, none⟩), .int .i64 0] w fun e w' => ∃ r, e = .returned (.bool r) ∧ (r = true ↔ ¬ S 0) ∧
      ∃ ws', IsSet ws' (fun j => S j ∨ j = 0) ∧ w'.heap[b]? = some (wobj ws') ∧ w.grownBy w' (some b) ∧ w'.heap.size = w.heap.size := add_calls b 0 (by omega) ws S hS w hw
theorem add_succ_calls (b a : Nat) (ha : a + 1 < 512) (ws : Nat → Nat) (S : Nat → Prop) (hS : IsSet ws S) (w : World) (hw : w.heap[b]? = some (wobj ws)) :
    Calls Tryd.prog 78 #[.pointer (some ⟨b, 0, none⟩), .int .i64 ((a : Int) + 1)] w fun e w' => ∃ r, e = .returned (.bool r) ∧ (r = true ↔ ¬ S (a + 1)) ∧
      ∃ ws', IsSet ws' (fun j => S j ∨ j = a + 1) ∧ w'.heap[b]? = some (wobj ws') ∧ w.grownBy w' (some b) ∧ w'.heap.size = w.heap.size := add_calls b (a + 1) ha ws S hS w hw
def nats (l : List Nat) : List Int := l.map fun n : Nat => (n : Int)
theorem nats_snoc (l : List Nat) (n : Nat) : nats (l ++ [n]) = nats l ++ [(n : Int)] := by simp [nats]
theorem nats_len (l : List Nat) : (nats l).length = l.length := by simp [nats]
theorem and_less (x : Nat) (h0 : x ≠ 0) (h : x < 18446744073709551616) : bits .and .u64 (x : Int) ((x : Int) - 1) = ((x &&& (x - 1) : Nat) : Int) := by
  have e : (x : Int) - 1 = ((x - 1 : Nat) : Int) := by omega
  rw [e]; exact bits_and_u64_nat x _ h (by omega)
set_option maxRecDepth 100000 in
set_option maxHeartbeats 4000000 in
theorem list_calls (b : Nat) (ws : Nat → Nat) (S : Nat → Prop) (hS : IsSet ws S) (w : World) (hw : w.heap[b]? = some (wobj ws)) (hT : Tabs w) :
    Calls Tryd.prog 62 #[.pointer (some ⟨b, 0, none⟩)] w fun e w' => ∃ v, e = .returned v ∧ Kd.R (Kd.int .i64) 3 w' w.heap.size (fun _ => True) v (nats (upto S 512)) ∧ Below w.heap.size w w' := by
  have HC : Aside0 (∀ i, i < 8 → w.cell? ⟨b, i, none⟩ = some (.int .u64 (ws i))) := ⟨fun i hi => wobj_cell hw i hi⟩
  have HT := Aside0.mk hT
  have HS := Aside0.mk hS
  clear hT hS hw
  go_enter Tryd.func62, Tryd.ntmps62
  go_wp2_with fail
  have h0 : Kd.R (Kd.int .i64) 3 (w.alloc (.cells #[] 3)) w.heap.size (fun _ => True) (.slice (some ⟨w.heap.size, 0, none⟩) 0 0) ([] : List Int) := Kd.R_of_own (by simpa [encs] using World.ownsRow_lit (base := w.heap.size) (e := 3) (size := 1) w #[] 0 (Nat.le_refl _) (by unfold maxLen; omega) rfl) (fun _ _ => trivial)
  go_loopg [3, 8] 8 (fun gg v3 v8 wr => ∃ (i : Nat), v8 = .int .i64 i ∧ i ≤ 8 ∧ 8 - i ≤ gg ∧ Aside0 (Kd.R (Kd.int .i64) 3 wr w.heap.size (fun _ => True) v3 (nats (upto S (64 * i)))) ∧ Aside0 (Below w.heap.size w wr))
  case atStart => exact ⟨0, rfl, by omega, by omega, ⟨h0⟩, ⟨below_alloc (Below.refl _ _) _⟩⟩
  case round =>
    clear h0
    obtain ⟨i, rfl, hi, hg, HO, HB⟩ := hrel
    by_cases hlt : i < 8
    · have hlt0 : (i : Int) < 8 := by omega
      have hlt1 : (0 : Int) ≤ (i : Int) := by omega
      have hci := HC.out i hlt
      replace hci := (HB.out.cell (World.block_lt_of_cell? w _ hci)).trans hci
      have hx := HS.out.lt i hlt
      go_wp2_with fail
      go_quiet (fail)
      go_wp2_with fail
      have HX0 := Aside0.mk (Re.Rest.start (ws i) hx)
      replace HO : Aside0 (Kd.R (Kd.int .i64) 3 wr w.heap.size (fun _ => True) u3 (nats (upto S (64 * i + 0)))) := HO
      go_loopg [3, 5] 65 (fun gk2 v3 v5 w2 => ∃ (x t : Nat), v5 = .int .u64 x ∧ t ≤ 64 ∧ 65 - t ≤ gk2 ∧ Aside0 (Re.Rest x (ws i) t) ∧ Aside0 (Kd.R (Kd.int .i64) 3 w2 w.heap.size (fun _ => True) v3 (nats (upto S (64 * i + t)))) ∧ Aside0 (Below w.heap.size w w2))
      case atStart => exact ⟨ws i, 0, rfl, by omega, by omega, HX0, ⟨Kd.R_drewN HO.out _⟩, ⟨pw_below_drewN HB.out _⟩⟩
      case round =>
        clear HX0 HO HB hci hx
        obtain ⟨x, t, rfl, ht, hg2, HX, HO, HB⟩ := hrel
        by_cases hx0 : x = 0
        · subst hx0
          have HL := Aside0.mk (upto_last HS.out i t hlt ht HX.out.done)
          have hz : (((0 : Nat) : Int) != 0) = false := rfl
          go_wp2_with fail
          go_roundg (8 - (i + 1))
          case measure => omega
          case rel => exact ⟨i + 1, by go_num, by omega, by omega, ⟨by rw [HL.out]; exact HO.out⟩, HB⟩
        · obtain ⟨u, hu, htu, hu64, hbit, hgap, hnext⟩ := HX.out.next hx0
          have hz : ((x : Int) != 0) = true := bne_iff_ne.mpr (by omega)
          have hxl := HX.out.lt
          have hcall := tz64_any x hxl hx0 wr (HT.out.below HB.out)
          rw [hu] at hcall
          have hand := and_less x hx0 hxl
          have HU := Aside0.mk (upto_next HS.out i t u hlt htu hu64 hbit hgap)
          have HN := Aside0.mk hnext
          have HLN : Aside0 ((nats (upto S (64 * i + t))).length < 17592186044415) := ⟨by rw [nats_len]; have := upto_len S (64 * i + t); omega⟩
          clear hu hbit hgap hnext
          go_wp2_with fail
          refine hcall.mono ?_
          rintro e w' ⟨rfl, rfl⟩
          clear hcall
          go_wp2_with (first | ((with_reducible refine gate_builtin (b := .append) (xs := #[.tmp 20, .tmp 26]) rfl ?_); at_builtin; refine Kd.R_append (Kd.int .i64) (w0 := w) w.heap.size rfl (.tmp 20) (.tmp 26) 31 3 (.int .i64 0) 8 rfl Tryd.underlying31 info3 rfl (by decide) (by omega) _ (nats (upto S (64 * i + t))) ((64 * i + u : Nat) : Int) [.int .i64 ((64 * i + u : Nat) : Int)] (fun _ => True) (fun _ => False) rfl rfl ?aP (fun _ hk => hk.elim) (fun _ _ => trivial) ?aO ?aB ?aS ?aL ?_; (case aP => exact rfl); (case aO => exact HO.out); (case aB => exact HB.out); (case aS => exact HB.out.size); (case aL => have := HLN.out; omega); intro v159 w24 ho hb hg hat; rw [← nats_snoc] at ho; have HO2 := Aside0.mk ho; have HB2 := Aside0.mk hb; clear ho hb hg hat))
          go_roundg (65 - (u + 1))
          case measure => omega
          case rel => exact ⟨x &&& (x - 1), u + 1, rfl, by omega, by omega, HN, ⟨by rw [HU.out]; exact HO2.out⟩, HB2⟩
    · have hlt0 : ¬ (i : Int) < 8 := by omega
      obtain rfl : i = 8 := by omega
      go_wp2_with fail
      go_ret
      exact ⟨_, rfl, HO.out, HB.out⟩
end Go.Proofs.YtlakdfbfkbndiaaDoor.Q
namespace Go.Proofs.YtlakdfbfkbndiaaDoor.Q
open Go Go.RowKit Go.WideMaps Go.Proofs.YtlakdfbfkbndiaaDoor.Re
open Go.ChangeShapes Go.WideShapes Go.MapKept
open Go.ChangeMaps (setBlock heap_setBlock_same heap_setBlock_other)
theorem pairArr : ArrKey Tryd.prog 72 3 2 := ⟨Tryd.underlying72, by kernel_rfl, by kernel_rfl, by kernel_rfl⟩
theorem pairLaw : KeyLaw Tryd.prog 72 := pairArr.law
theorem pairKey {a b : Int} (wa : (Lit.int .i64 a).wf = true) (wb : (Lit.int .i64 b).wf = true) : ∃ l, keyOf Tryd.prog 72 (.agg #[.int .i64 a, .int .i64 b]) = some l := ⟨_, keyOf_pair pairArr Tryd.underlying3 ⟨_, rfl⟩ wa wb⟩
def pkey (n i : Nat) : Value := .agg #[.int .i64 n, .int .i64 i]
theorem lit_wf {n : Nat} (h : n < 1000) : (Lit.int .i64 (n : Int)).wf = true := by simp [Lit.wf, IntKind.min, IntKind.max, IntKind.signed, IntKind.bits]; omega
theorem pkey_of {n i : Nat} (hn : n < 1000) (hi : i < 1000) : ∃ l, keyOf Tryd.prog 72 (pkey n i) = some l := pairKey (lit_wf hn) (lit_wf hi)
theorem pkey_inj {n i n' i' : Nat} (h : pkey n i = pkey n' i') : n = n' ∧ i = i' := by
  simp [pkey] at h
  exact ⟨by omega, by omega⟩
def MapOk (D : Nat → Nat → Nat → Prop) (N L B0 Bf : Nat) (w : World) : Prop :=
  ∃ es clock, w.heap[Bf]? = some (.map es clock) ∧ (es.toList.map fun e => e.key).Nodup ∧ ∀ e, e ∈ es.toList → ∃ n i b ws, e.key = pkey n i ∧ n < N ∧ i ≤ L ∧ e.val = .pointer (some ⟨b, 0, none⟩) ∧ B0 ≤ b ∧ w.heap[b]? = some (wobj ws) ∧ IsSet ws (D n i)
def Free (Bf r : Nat) (w : World) : Prop := ∀ es clock, w.heap[Bf]? = some (.map es clock) → ∀ e, e ∈ es.toList → e.val ≠ .pointer (some ⟨r, 0, none⟩)
theorem MapOk.keys {D : Nat → Nat → Nat → Prop} {N L B0 : Nat} {es : Array MapEntry} {w : World} (hN : N < 1000) (hL : L < 1000)
    (h : ∀ e, e ∈ es.toList → ∃ n i b ws, e.key = pkey n i ∧ n < N ∧ i ≤ L ∧ e.val = .pointer (some ⟨b, 0, none⟩) ∧ B0 ≤ b ∧ w.heap[b]? = some (wobj ws) ∧ IsSet ws (D n i)) : ∀ e ∈ es.toList, ∃ l, keyOf Tryd.prog 72 e.key = some l := fun e he => by
  obtain ⟨n, i, _, _, hk, hn, hi, _⟩ := h e he
  rw [hk]; exact pkey_of (by omega) (by omega)
theorem key_one : ∀ (l : List MapEntry), (l.map fun e => e.key).Nodup → ∀ e e', e ∈ l → e' ∈ l → e.key = e'.key → e = e'
  | [], _, _, _, h, _, _ => absurd h List.not_mem_nil
  | a :: l, hd, e, e', h, h', hk => by
    rw [List.map_cons, List.nodup_cons] at hd
    rcases List.mem_cons.mp h with rfl | h1
    · rcases List.mem_cons.mp h' with rfl | h2
      · rfl
      · exact absurd (List.mem_map.mpr ⟨e', h2, hk.symm⟩) hd.1
    · rcases List.mem_cons.mp h' with rfl | h2
      · exact absurd (List.mem_map.mpr ⟨e, h1, hk⟩) hd.1
      · exact key_one l hd.2 e e' h1 h2 hk
theorem MapOk.look {D : Nat → Nat → Nat → Prop} {N L B0 Bf : Nat} {w : World} (h : MapOk D N L B0 Bf w) (hN : N < 1000) (hL : L < 1000) {n i : Nat} (hn : n < N) (hi : i ≤ L) :
    (∀ k, (Instr.lookup 88 (.map (some Bf)) (pkey n i) false).run Tryd.prog (w.drewN k) = .ok (.pointer none) (w.drewN k)) ∨
    ∃ b ws, (∀ k, (Instr.lookup 88 (.map (some Bf)) (pkey n i) false).run Tryd.prog (w.drewN k) = .ok (.pointer (some ⟨b, 0, none⟩)) (w.drewN k)) ∧ B0 ≤ b ∧ w.heap[b]? = some (wobj ws) ∧ IsSet ws (D n i) ∧ ¬ Free Bf b w := by
  obtain ⟨es, clock, hb, hd, he⟩ := h
  obtain ⟨l, hl⟩ := pkey_of (n := n) (i := i) (by omega) (by omega)
  have hb' : ∀ k, (w.drewN k).heap[Bf]? = some (.map es clock) := fun _ => hb
  by_cases hin : ∃ e, e ∈ es.toList ∧ e.key = pkey n i
  · obtain ⟨e, hm, hk⟩ := hin
    right
    obtain ⟨n', i', b, ws, g1, _, _, g2, g3, g4, g5⟩ := he e hm
    obtain ⟨rfl, rfl⟩ := pkey_inj (g1.symm.trans hk)
    refine ⟨b, ws, fun k => ?_, g3, g4, g5, fun hf => hf es clock hb e hm g2⟩
    rcases pairLaw.find (w.drewN k) hl es.toList (MapOk.keys hN hL he) with ⟨_, h1⟩ | ⟨j, e', h1, h2, h3⟩
    · exact absurd hk (h1 e hm)
    · obtain rfl := key_one _ hd e' e (List.mem_of_getElem? h2) hm (h3.trans hk.symm)
      simp [Instr.lookup, run_underlying Tryd.underlying88, MapKept.run_getObj_map (hb' k), pairLaw.check (w.drewN k) _ hl, h1, Result.andThen, g2]
  · left
    intro k
    rcases pairLaw.find (w.drewN k) hl es.toList (MapOk.keys hN hL he) with ⟨h1, _⟩ | ⟨j, e', _, h2, h3⟩
    · simp [Instr.lookup, run_underlying Tryd.underlying88, MapKept.run_getObj_map (hb' k), pairLaw.check (w.drewN k) _ hl, h1, Result.andThen]
    · exact absurd ⟨e', List.mem_of_getElem? h2, h3⟩ hin
theorem MapOk.move {D : Nat → Nat → Nat → Prop} {N L B0 Bf : Nat} {w w1 : World} (h : MapOk D N L B0 Bf w) (hm : ∀ k, k < w.heap.size → w1.heap[k]? = w.heap[k]?) : MapOk D N L B0 Bf w1 := by
  obtain ⟨es, clock, hb, hd, he⟩ := h
  refine ⟨es, clock, (hm Bf (Array.getElem?_eq_some_iff.mp hb).1).trans hb, hd, fun e hm' => ?_⟩
  obtain ⟨n, i, b, ws, g1, g2, g3, g4, g5, g6, g7⟩ := he e hm'
  exact ⟨n, i, b, ws, g1, g2, g3, g4, g5, (hm b (Array.getElem?_eq_some_iff.mp g6).1).trans g6, g7⟩
theorem Free.same {Bf r : Nat} {w w1 : World} (h : Free Bf r w) (e : w1.heap[Bf]? = w.heap[Bf]?) : Free Bf r w1 := fun es clock hb => h es clock (e ▸ hb)
theorem MapOk.grown {D : Nat → Nat → Nat → Prop} {N L B0 Bf r : Nat} {w w1 : World} (h : MapOk D N L B0 Bf w) (hg : w.grownBy w1 (some r)) (hr : r ≠ Bf) (hs : Free Bf r w) : MapOk D N L B0 Bf w1 := by
  obtain ⟨es, clock, hb, hd, he⟩ := h
  refine ⟨es, clock, (hg.block Bf (Array.getElem?_eq_some_iff.mp hb).1 (fun e => hr (Option.some.inj e).symm)).trans hb, hd, fun e hm' => ?_⟩
  obtain ⟨n, i, b, ws, g1, g2, g3, g4, g5, g6, g7⟩ := he e hm'
  exact ⟨n, i, b, ws, g1, g2, g3, g4, g5, (hg.block b (Array.getElem?_eq_some_iff.mp g6).1 (fun e2 => hs es clock hb e hm' (by rw [g4, Option.some.inj e2]))).trans g6, g7⟩
theorem MapOk.free {D : Nat → Nat → Nat → Prop} {N L B0 Bf r : Nat} {w : World} (h : MapOk D N L B0 Bf w) (hr : w.heap.size ≤ r) : Free Bf r w := fun es clock hb e hm hv => by
  obtain ⟨es', clock', hb', _, he⟩ := h
  rw [hb] at hb'
  obtain ⟨rfl, rfl⟩ : es = es' ∧ clock = clock' := by simpa using hb'
  obtain ⟨n, i, b, ws, _, _, _, g4, _, g6, _⟩ := he e hm
  rw [hv] at g4
  have hb2 : b = r := by simpa using g4.symm
  have := (Array.getElem?_eq_some_iff.mp g6).1
  omega
theorem MapOk.store {D : Nat → Nat → Nat → Prop} {N L B0 Bf : Nat} {w : World} (h : MapOk D N L B0 Bf w) (hN : N < 1000) (hL : L < 1000) {n i : Nat} (hn : n < N) (hi : i ≤ L) {b : Nat} {ws : Nat → Nat} (hB : B0 ≤ b) (hw : w.heap[b]? = some (wobj ws)) (hS : IsSet ws (D n i)) :
    ∃ o, (Instr.mapUpdate 88 (.map (some Bf)) (pkey n i) (.pointer (some ⟨b, 0, none⟩))).run Tryd.prog w = .ok () (setBlock w Bf o) ∧ MapOk D N L B0 Bf (setBlock w Bf o) ∧ w.grownBy (setBlock w Bf o) (some Bf) ∧ (setBlock w Bf o).heap.size = w.heap.size ∧ ¬ Free Bf b (setBlock w Bf o) ∧ ∀ r, r ≠ b → Free Bf r w → Free Bf r (setBlock w Bf o) := by
  obtain ⟨es, clock, hb, hd, he⟩ := h
  obtain ⟨l, hl⟩ := pkey_of (n := n) (i := i) (by omega) (by omega)
  have hgrown : ∀ o, w.grownBy (setBlock w Bf o) (some Bf) := fun o => ⟨rfl, rfl, rfl, by simp [setBlock], fun k _ hk => heap_setBlock_other hb _ (fun e => hk (by rw [e]))⟩
  have hne : ∀ b' ws', w.heap[b']? = some (wobj ws') → b' ≠ Bf := fun b' ws' hb' e => by
    rw [e, hb] at hb'
    simp [wobj] at hb'
  have old : ∀ o e, e ∈ es.toList → ∃ n i b ws, e.key = pkey n i ∧ n < N ∧ i ≤ L ∧ e.val = .pointer (some ⟨b, 0, none⟩) ∧ B0 ≤ b ∧ (setBlock w Bf o).heap[b]? = some (wobj ws) ∧ IsSet ws (D n i) := fun o e hm => by
    obtain ⟨n, i, b, ws, g1, g2, g3, g4, g5, g6, g7⟩ := he e hm
    exact ⟨n, i, b, ws, g1, g2, g3, g4, g5, (heap_setBlock_other hb _ (hne b ws g6)).trans g6, g7⟩
  rcases pairLaw.find w hl es.toList (MapOk.keys hN hL he) with ⟨h1, hno⟩ | ⟨j, e0, h1, h2, h3⟩
  · refine ⟨.map (es.push ⟨pkey n i, .pointer (some ⟨b, 0, none⟩), clock⟩) (clock + 1), ?_, ⟨_, _, heap_setBlock_same hb _, by
      rw [Array.toList_push, List.map_append, List.nodup_append]
      refine ⟨hd, by simp, fun a ha b' hb2 => ?_⟩
      obtain ⟨e, hm, rfl⟩ := List.mem_map.mp ha
      have hb2 : b' = pkey n i := by simpa using hb2
      rw [hb2]
      exact hno e hm, fun e hm => ?_⟩, hgrown _, by simp [setBlock], fun hf => hf _ _ (heap_setBlock_same hb _) ⟨pkey n i, .pointer (some ⟨b, 0, none⟩), clock⟩ (by simp) rfl, fun r hr hf es2 c2 hb2 e hm hv => ?_⟩
    · simp [Instr.mapUpdate, run_underlying Tryd.underlying88, MapKept.run_getObj_map hb, pairLaw.check w false hl, h1, MapKept.run_setObj_map _ hb, Result.andThen, setBlock]
    · simp only [Array.toList_push, List.mem_append, List.mem_singleton] at hm
      rcases hm with hm | rfl
      · exact old _ e hm
      · exact ⟨n, i, b, ws, rfl, hn, hi, rfl, hB, (heap_setBlock_other hb _ (hne b ws hw)).trans hw, hS⟩
    · rw [heap_setBlock_same hb] at hb2
      obtain ⟨rfl, rfl⟩ : es.push ⟨pkey n i, .pointer (some ⟨b, 0, none⟩), clock⟩ = es2 ∧ clock + 1 = c2 := by simpa using hb2
      simp only [Array.toList_push, List.mem_append, List.mem_singleton] at hm
      rcases hm with hm | rfl
      · exact hf es clock hb e hm hv
      · exact hr (by simpa using hv.symm)
  · have hj : es[j]? = some e0 := by simpa using h2
    have hlist : (es.modify j (fun e' => { e' with key := pkey n i, val := Value.pointer (some ⟨b, 0, none⟩) })).toList = es.toList.set j { e0 with key := pkey n i, val := .pointer (some ⟨b, 0, none⟩) } := by
      rw [Array.toList_modify, ChangeMaps.modify_eq_set _ _ _ _ h2]
    have hjl : j < es.toList.length := (List.getElem?_eq_some_iff.1 h2).1
    refine ⟨.map (es.modify j fun e' => { e' with key := pkey n i, val := .pointer (some ⟨b, 0, none⟩) }) clock, ?_, ⟨_, _, heap_setBlock_same hb _, by
      rw [hlist, List.map_set]
      have hs : (es.toList.map fun e => e.key).set j (pkey n i) = es.toList.map fun e => e.key := by
        apply List.ext_getElem?
        intro m
        rw [List.getElem?_set]
        split
        · rename_i e
          subst e
          rw [List.getElem?_map, h2]
          simp [h3]
          simpa using hjl
        · rfl
      rw [hs]; exact hd, fun e hm => ?_⟩, hgrown _, by simp [setBlock], fun hf => hf _ _ (heap_setBlock_same hb _) { e0 with key := pkey n i, val := .pointer (some ⟨b, 0, none⟩) } (by rw [hlist]; exact List.mem_set hjl _) rfl, fun r hr hf es2 c2 hb2 e hm hv => ?_⟩
    · simp [Instr.mapUpdate, run_underlying Tryd.underlying88, MapKept.run_getObj_map hb, pairLaw.check w false hl, h1, hj, h3, pairLaw.stays w hl, MapKept.run_setObj_map _ hb, Result.andThen, setBlock]
    · rw [hlist] at hm
      rcases List.mem_or_eq_of_mem_set hm with hm | rfl
      · exact old _ e hm
      · exact ⟨n, i, b, ws, rfl, hn, hi, rfl, hB, (heap_setBlock_other hb _ (hne b ws hw)).trans hw, hS⟩
    · rw [heap_setBlock_same hb] at hb2
      obtain ⟨h5, rfl⟩ : (es.modify j fun e' => { e' with key := pkey n i, val := Value.pointer (some ⟨b, 0, none⟩) }) = es2 ∧ clock = c2 := by simpa using hb2
      rw [← h5, hlist] at hm
      rcases List.mem_or_eq_of_mem_set hm with hm | rfl
      · exact hf es clock hb e hm hv
      · exact hr (by simpa using hv.symm)
end Go.Proofs.YtlakdfbfkbndiaaDoor.Q
namespace Go.Proofs.YtlakdfbfkbndiaaDoor.Q
open Go
section
variable {P : Program} {Q : Exit → Act → World → Prop}
def withinB (l : List Oper) : Bool := l.all fun o => o.guard.isNone && o.after.all fun e => decide (e.on < l.length)
theorem within_spec {l : List Oper} (h : withinB l = true) {i : Nat} {o : Oper} (hi : l[i]? = some o) : o.guard = none ∧ ∀ e ∈ o.after, e.on < l.length := by
  have h1 := List.all_eq_true.1 h o (List.mem_of_getElem? hi)
  simp only [Bool.and_eq_true, Array.all_eq_true_iff_forall_mem, decide_eq_true_eq, Option.isNone_iff_eq_none] at h1
  exact h1
theorem getD_push {listed : Array Bool} {j : Nat} {b : Bool} (h : j < listed.size) : (listed.push true).getD j b = listed.getD j b := by
  simp [Array.getD, h, Nat.lt_succ_of_lt h, Array.getElem_push_lt]
theorem push_set {listed : Array Bool} {i : Nat} (h : i < listed.size) : (listed.push true).setIfInBounds i true = (listed.setIfInBounds i true).push true := by
  apply Array.ext'
  simp [List.set_append, h]
theorem set_last (listed : Array Bool) (b : Bool) : (listed.push b).setIfInBounds listed.size true = listed.push true := by
  apply Array.ext'
  simp [List.set_append]
theorem ready_pop {md : Region.Mode} {l : List Oper} {o : Oper} {listed : Array Bool} (hs : listed.size = l.length) (hB : withinB l = true) (j : Nat) :
    j ∈ Region.ready md (l ++ [o]).toArray (listed.push true) ↔ j ∈ Region.ready md l.toArray listed := by
  rw [mem_ready, mem_ready]
  rcases Nat.lt_trichotomy j l.length with hj | hj | hj
  · have e1 : (l ++ [o]).toArray[j]? = l.toArray[j]? := by simp [List.getElem?_append, hj]
    rw [e1, getD_push (by omega)]
    refine and_congr Iff.rfl (exists_congr fun oj => and_congr_right fun hoj => ?_)
    have hw := (within_spec hB (i := j) (o := oj) (by simpa using hoj)).2
    exact forall_congr' fun e => forall_congr' fun he => by rw [getD_push (by have := hw e he; omega)]
  · subst hj
    constructor
    · rintro ⟨h, _⟩
      rw [← hs] at h
      simp [Array.getD] at h
    · rintro ⟨_, oj, h, _⟩
      simp at h
  · constructor
    · rintro ⟨_, oj, h, _⟩
      have h2 := (Array.getElem?_eq_some_iff.1 h).1
      simp at h2
      omega
    · rintro ⟨_, oj, h, _⟩
      have h2 := (Array.getElem?_eq_some_iff.1 h).1
      simp at h2
      omega
theorem wanted_free {ops : Array Oper} {o : Oper} (h : o.guard = none) (a : Act) : Region.wanted o (yielded ops a.tmps) = true := by
  unfold Region.wanted; rw [h]
theorem wpAny_pop {md : Region.Mode} {l : List Oper} {o : Oper} (hB : withinB l = true) : ∀ (f : Nat) (listed : Array Bool) (a : Act) (w : World), listed.size = l.length →
    wpAny P md l.toArray Q f listed a w → wpAny P md (l ++ [o]).toArray Q f (listed.push true) a w
  | 0, listed, a, w, hs, h => by
    refine ⟨List.eq_nil_iff_forall_not_mem.2 fun j hj => ?_, h.2⟩
    rw [ready_pop hs hB, h.1] at hj
    cases hj
  | f + 1, listed, a, w, hs, h => by
    refine ⟨fun h0 => h.1 (List.eq_nil_iff_forall_not_mem.2 fun j hj => ?_), fun i hi => ?_⟩
    · have := (ready_pop (o := o) hs hB j).2 hj
      rw [h0] at this
      cases this
    · have hi' := (ready_pop hs hB i).1 hi
      have h2 := h.2 i hi'
      obtain ⟨_, oi, hoi, _⟩ := mem_ready.1 hi'
      have hil : i < l.length := by
        have := (Array.getElem?_eq_some_iff.1 hoi).1
        simpa using this
      have e1 : (l ++ [o]).toArray[i]? = some oi := by
        rw [← hoi]
        simp [List.getElem?_append, hil]
      have hg := (within_spec hB (i := i) (o := oi) (by simpa using hoi)).1
      unfold wpOp at h2 ⊢
      rw [hoi] at h2
      rw [e1]
      simp only [wanted_free hg, if_true] at h2 ⊢
      have e2 : (listed.push true).setIfInBounds i true = (listed.setIfInBounds i true).push true := push_set (by omega)
      rw [e2]
      refine h2.imp (fun h3 => Oper.wp_mono (fun a' w' h' => wpAny_pop hB f _ a' w' (by simp [hs]) h') h3) id
theorem wpAny_still_tail {a : Act} {w : World} {l : List Oper} (n : Nat) (hB : Region.lexTailB .any l.toArray n = true)
    (h : wpStill P l.toArray w (fun a' => wpList P l.toArray Q (l.drop n) a' w) (l.take n) a) : wpAny P .any l.toArray Q l.length (Array.replicate l.length false) a w := by
  simp only [Region.lexTailB, Bool.and_eq_true, decide_eq_true_eq] at hB
  obtain ⟨⟨⟨⟨hsel, hn⟩, hs⟩, hc⟩, hlex⟩ := hB
  have hn' : n < l.length := by simpa using hn
  have htl : (l.take n).length = n := by simp; omega
  have inv0 : HeadInv .any l.toArray n (Array.replicate l.toArray.size false) :=
    ⟨by simp, fun j oj _ hl => (by rw [getD_replicate_false] at hl; cases hl), fun t _ ht => getD_in (by simpa using ht) (getD_replicate_false _ _)⟩
  have H := wpAnyL_lex (P := P) (w := w) (md := .any) (g := l.toArray.size - n) hsel hs hc hn (l.take n) 0 _ a (fun j hj => by
    have hj' : j < n := by rw [htl] at hj; exact hj
    simp [hj']) (by simpa using htl) inv0 (by rw [htl]; exact hlex) h
  have H2 := wpAny_of_head (Q' := Q) (g := (l.drop n).length) (fun listed a' hL =>
    wpAny_of_seq (P := P) (md := .any) (Q' := Q) (l.drop n) n listed a' w (fun j => by simp [List.getElem?_drop]) (by
      have : (l.drop n).length = l.toArray.size - n := by simp
      rw [this]; exact hL.1) hL.2) _ _ _ H
  have e : (l.take n).length + (l.drop n).length = l.length := by rw [← List.length_append, List.take_append_drop]
  rw [e] at H2
  simpa using H2
theorem wp_region_aside {id : Nat} {a : Act} {w : World} {l : List Oper} {o : Oper} {v : Value} (n : Nat) (hm : P.follows .mixedOrders = true) (hS : Region.noSelect (l ++ [o]).toArray = true)
    (hF : Region.free .any (l ++ [o]).toArray (Array.replicate (l ++ [o]).length false) l.length = true) (hR : (Region.ready .any (l ++ [o]).toArray (Array.replicate (l ++ [o]).length false)).contains l.length = true)
    (hQ : ∀ c a w, Q (.panic c) (a.put o.dst v) w → Q (.panic c) a w) (hy : Yields P (l ++ [o]).toArray o v a)
    (hW : withinB l = true) (hB : Region.lexTailB .any l.toArray n = true)
    (h : wpStill P l.toArray { w with drawn := w.drawn + 1 } (fun a' => wpList P l.toArray Q (l.drop n) a' { w with drawn := w.drawn + 1 }) (l.take n) (a.put o.dst v)) : (Code.region id (l ++ [o]).toArray true).wp P Q a w := by
  refine wp_region_any hm ?_
  have hsz : (l ++ [o]).toArray.size = l.length + 1 := by simp
  rw [hsz]
  have hl : (l ++ [o]).length = l.length + 1 := by simp
  rw [hl] at hF hR
  refine wpAny_take (i := l.length) (oi := o) (v := v) (by simp) hS hF hR hQ hy ?_
  have e : (Array.replicate (l.length + 1) false).setIfInBounds l.length true = (Array.replicate l.length false).push true := by
    have h2 := set_last (Array.replicate l.length false) false
    rw [Array.size_replicate] at h2
    rw [Array.replicate_succ, h2]
  rw [e]
  exact wpAny_pop hW _ _ _ _ (by simp) (wpAny_still_tail n hB h)
theorem wp_region_aside_at {id : Nat} {a : Act} {w : World} {l : List Oper} {o : Oper} {v : Value} (n m : Nat) (hm : P.follows .mixedOrders = true) (hl : l.drop m = [o]) (hS : Region.noSelect l.toArray = true)
    (hF : Region.free .any l.toArray (Array.replicate l.length false) m = true) (hR : (Region.ready .any l.toArray (Array.replicate l.length false)).contains m = true)
    (hQ : ∀ c a w, Q (.panic c) (a.put o.dst v) w → Q (.panic c) a w) (hy : Yields P l.toArray o v a)
    (hW : withinB (l.take m) = true) (hB : Region.lexTailB .any (l.take m).toArray n = true)
    (h : wpStill P (l.take m).toArray { w with drawn := w.drawn + 1 } (fun a' => wpList P (l.take m).toArray Q ((l.take m).drop n) a' { w with drawn := w.drawn + 1 }) ((l.take m).take n) (a.put o.dst v)) : (Code.region id l.toArray true).wp P Q a w := by
  have e : l.take m ++ [o] = l := by rw [← hl, List.take_append_drop]
  have hn : m = (l.take m).length := by
    have h1 : (l.drop m).length = 1 := by rw [hl]; rfl
    simp only [List.length_drop, List.length_take] at h1 ⊢
    omega
  generalize l.take m = l0 at *
  subst e
  rw [hn] at hF hR
  exact wp_region_aside n hm hS hF hR hQ hy hW hB h
end
end Go.Proofs.YtlakdfbfkbndiaaDoor.Q
namespace Go.Proofs.YtlakdfbfkbndiaaDoor.Q
open Go.RowKit Go.Proofs.YtlakdfbfkbndiaaDoor.Re Go.Proofs.YtlakdfbfkbndiaaDoorW.PrintWords Go.Proofs.YtlakdfbfkbndiaaDoorW.PrintLast Go.Proofs.YtlakdfbfkbndiaaDoorW.PrintMore
open Go.ChangeMaps (setBlock)
theorem inSet_l0 (s : ByteArray) (neg : Bool) (c f0 : Int) (f3 : List Int) (hs : s.size ≤ 1099511627776) : ∀ (d i k : Nat), i + 2 * d = s.size → d < k → impl_inSet.l0 k c (i : Int) f0 neg s f3 = some (inFrom s neg c d i)
  | 0, i, 0, _, hk => absurd hk (by omega)
  | 0, i, k + 1, hi, _ => by
    simp only [impl_inSet.l0]
    rw [if_neg (by omega)]; rfl
  | d + 1, i, 0, _, hk => absurd hk (by omega)
  | d + 1, i, k + 1, hi, hk => by
    have w1 : wrap64 ((i : Int) + 1) = ((i + 1 : Nat) : Int) := by unfold wrap64; omega
    have w2 : wrap64 ((i : Int) + 2) = ((i + 2 : Nat) : Int) := by unfold wrap64; omega
    simp only [impl_inSet.l0, inFrom]
    rw [w1, w2, if_pos (by omega), if_pos (by omega), inSet_l0 s neg c f0 f3 hs d (i + 2) k (by omega) (by omega)]
    by_cases h1 : c ≥ bt s (i : Int)
    · rw [if_pos h1, if_pos (by omega), if_pos (by omega)]
      by_cases h2 : c ≤ bt s ((i + 1 : Nat) : Int)
      · rw [if_pos h2, if_pos ⟨h1, h2⟩]
      · rw [if_neg h2, if_neg (fun h => h2 h.2)]
    · rw [if_neg h1, if_neg (fun h => h1 h.1)]
theorem inSet_eq (x : S49) (c : Int) (he : x.f2.size % 2 = 0) (hs : x.f2.size ≤ 1099511627776) : impl_inSet.f (x.f2.size + 1) x.f0 x.f1 x.f2 x.f3 c = some (inS x c) :=
  inSet_l0 x.f2 x.f1 c x.f0 x.f3 hs (x.f2.size / 2) 0 _ (by omega) (by omega)
structure Mem (l : List S49) (s : ByteArray) (A0 : Option Addr) (c0 Bm Bf : Nat) (w0 w : World) : Prop where
  below : Below w0.heap.size w0 w
  bm : w0.heap.size ≤ Bm
  bf : w0.heap.size ≤ Bf
  obj : w.heap[Bm]? = some (.cells #[.slice A0 l.length c0, .string s, .map (some Bf)] 90 (0, 0))
  map : MapOk (meets l s) l.length s.size w0.heap.size Bf w
structure Base (l : List S49) (s : ByteArray) (A0 : Option Addr) (c0 : Nat) (w0 : World) : Prop where
  ok : Valid l
  sz : s.size ≤ 500
  rd : Kd.C k49 w0 A0 l.length l
  cap : l.length ≤ c0
  tabs : Tabs w0
def EndsAt (l : List S49) (s : ByteArray) (A0 : Option Addr) (c0 Bm Bf : Nat) (w0 : World) (n : Nat) : Prop :=
  ∀ (i : Nat), i ≤ s.size → ∀ w, Mem l s A0 c0 Bm Bf w0 w →
    Calls Tryd.prog 61 #[.pointer (some ⟨Bm, 0, none⟩), .int .i64 n, .int .i64 i] w fun e w' =>
      ∃ b ws, e = .returned (.pointer (some ⟨b, 0, none⟩)) ∧ w0.heap.size ≤ b ∧ w'.heap[b]? = some (wobj ws) ∧ IsSet ws (meets l s n i) ∧ Mem l s A0 c0 Bm Bf w0 w' ∧ w.grownBy w' (some Bf) ∧ ¬ Free Bf b w' ∧ ∀ r, r < w.heap.size → Free Bf r w → Free Bf r w'
theorem Mem.cell {l : List S49} {s : ByteArray} {A0 : Option Addr} {c0 Bm Bf : Nat} {w0 w : World} (h : Mem l s A0 c0 Bm Bf w0 w) :
    w.cell? ⟨Bm, 0, none⟩ = some (.slice A0 l.length c0) ∧ w.cell? ⟨Bm, 1, none⟩ = some (.string s) ∧ w.cell? ⟨Bm, 2, none⟩ = some (.map (some Bf)) := by
  have := h.obj
  refine ⟨?_, ?_, ?_⟩ <;> simp [World.cell?, this]
theorem Mem.move {l : List S49} {s : ByteArray} {A0 : Option Addr} {c0 Bm Bf : Nat} {w0 w w1 : World} (h : Mem l s A0 c0 Bm Bf w0 w) (hb : Below w.heap.size w w1) : Mem l s A0 c0 Bm Bf w0 w1 where
  below := h.below.trans (hb.mono h.below.size)
  bm := h.bm
  bf := h.bf
  obj := (hb.block Bm (Array.getElem?_eq_some_iff.mp h.obj).1).trans h.obj
  map := h.map.move hb.block
theorem Mem.grown {l : List S49} {s : ByteArray} {A0 : Option Addr} {c0 Bm Bf r : Nat} {w0 w w1 : World} (h : Mem l s A0 c0 Bm Bf w0 w) (hg : w.grownBy w1 (some r)) (h0 : w0.heap.size ≤ r) (h1 : r ≠ Bm) (h2 : r ≠ Bf) (hf : Free Bf r w) : Mem l s A0 c0 Bm Bf w0 w1 where
  below := h.below.grown hg h.below.size (fun k e => by rw [← Option.some.inj e]; exact h0)
  bm := h.bm
  bf := h.bf
  obj := (hg.block Bm (Array.getElem?_eq_some_iff.mp h.obj).1 (fun e => h1 (Option.some.inj e).symm)).trans h.obj
  map := h.map.grown hg h2 hf
structure Work (l : List S49) (s : ByteArray) (A0 : Option Addr) (c0 Bm Bf : Nat) (w0 w : World) (n i Ln : Nat) (x : S49) (A3 : Option Addr) (c3 : Nat) (wr : World) : Prop where
  mem : Mem l s A0 c0 Bm Bf w0 wr
  lo : w0.heap.size ≤ w.heap.size
  grown : w.grownBy wr (some Bf)
  key : wr.heap[w.heap.size]? = some (.cells #[.int .i64 n, .int .i64 i] 72 (0, 0))
  loc : wr.heap[Ln]? = some (.cells #[.int .i64 x.f0, .bool x.f1, .string x.f2, .slice A3 x.f3.length c3] 49 (0, 0))
  free : ∀ r, r < w.heap.size → Free Bf r w → Free Bf r wr
structure Own (Bf : Nat) (w : World) (b : Nat) (S : Nat → Prop) (ws : Nat → Nat) (wr : World) : Prop where
  lo : w.heap.size ≤ b
  obj : wr.heap[b]? = some (wobj ws)
  free : Free Bf b wr
  set : IsSet ws S
def part (ws vs : Nat → Nat) (q : Nat) : Nat → Nat := fun x => if x < q then ws x ||| vs x else ws x
theorem part_step (ws vs : Nat → Nat) (q : Nat) : (fun j => if j = q then ws q ||| vs q else part ws vs q j) = part ws vs (q + 1) := by
  funext x
  unfold part
  by_cases h : x = q
  · subst h; rw [if_pos rfl, if_pos (by omega)]
  · rw [if_neg h]
    by_cases h2 : x < q
    · rw [if_pos h2, if_pos (by omega)]
    · rw [if_neg h2, if_neg (by omega)]
theorem part_zero (ws vs : Nat → Nat) : part ws vs 0 = ws := by
  funext x
  exact if_neg (by omega)
theorem part_set {ws vs : Nat → Nat} {S T : Nat → Prop} (h : IsSet ws S) (g : IsSet vs T) : IsSet (part ws vs 8) (fun j => S j ∨ T j) :=
  (h.or g).congrW fun b hb => if_pos hb
theorem part_lt {ws vs : Nat → Nat} {S T : Nat → Prop} (h : IsSet ws S) (g : IsSet vs T) (q : Nat) (hq : q < 8) : bits .or .u64 (ws q : Int) (vs q : Int) = ((ws q ||| vs q : Nat) : Int) := bits_or_u64_nat _ _ (h.lt q hq) (g.lt q hq)
end Go.Proofs.YtlakdfbfkbndiaaDoor.Q
namespace Go.Proofs.YtlakdfbfkbndiaaDoor.Q
open Go.RowKit Go.Proofs.YtlakdfbfkbndiaaDoor.Re Go.Proofs.YtlakdfbfkbndiaaDoorW.PrintWords Go.Proofs.YtlakdfbfkbndiaaDoorW.PrintLast Go.Proofs.YtlakdfbfkbndiaaDoorW.PrintMore
open Go.ChangeMaps (setBlock)
section
variable {l : List S49} {s : ByteArray} {A0 : Option Addr} {c0 Bm Bf : Nat} {w0 w : World} {n i Ln : Nat} {x : S49} {A3 : Option Addr} {c3 : Nat} {wr w1 : World} {b : Nat} {S : Nat → Prop} {ws : Nat → Nat}
theorem map_lt (h : Mem l s A0 c0 Bm Bf w0 wr) : Bf < wr.heap.size := by
  obtain ⟨es, clock, hb, _⟩ := h.map
  exact (Array.getElem?_eq_some_iff.mp hb).1
theorem map_ne (h : Mem l s A0 c0 Bm Bf w0 wr) {c : Array Value} {t : TypeId} {f : Nat × Nat} (hb : wr.heap[b]? = some (.cells c t f)) : b ≠ Bf := by
  rintro rfl
  obtain ⟨es, clock, hb', _⟩ := h.map
  rw [hb] at hb'
  simp at hb'
theorem Work.move (h : Work l s A0 c0 Bm Bf w0 w n i Ln x A3 c3 wr) (hb : Below wr.heap.size wr w1) : Work l s A0 c0 Bm Bf w0 w n i Ln x A3 c3 w1 where
  mem := h.mem.move hb
  lo := h.lo
  grown := h.grown.trans ⟨hb.os, hb.tape, hb.output, hb.size, fun k hk _ => hb.block k hk⟩
  key := (hb.block _ (Array.getElem?_eq_some_iff.mp h.key).1).trans h.key
  loc := (hb.block _ (Array.getElem?_eq_some_iff.mp h.loc).1).trans h.loc
  free := fun r hr hf => (h.free r hr hf).same (hb.block _ (map_lt h.mem))
theorem Own.move (h : Own Bf w b S ws wr) (hm : Mem l s A0 c0 Bm Bf w0 wr) (hb : Below wr.heap.size wr w1) : Own Bf w b S ws w1 where
  lo := h.lo
  obj := (hb.block _ (Array.getElem?_eq_some_iff.mp h.obj).1).trans h.obj
  free := h.free.same (hb.block _ (map_lt hm))
  set := h.set
theorem Work.call (h : Work l s A0 c0 Bm Bf w0 w n i Ln x A3 c3 wr) (hm : Mem l s A0 c0 Bm Bf w0 w1) (hg : wr.grownBy w1 (some Bf)) (hf : ∀ r, r < wr.heap.size → Free Bf r wr → Free Bf r w1) : Work l s A0 c0 Bm Bf w0 w n i Ln x A3 c3 w1 where
  mem := hm
  lo := h.lo
  grown := h.grown.trans hg
  key := (hg.block _ (Array.getElem?_eq_some_iff.mp h.key).1 (fun e => map_ne h.mem h.key (Option.some.inj e))).trans h.key
  loc := (hg.block _ (Array.getElem?_eq_some_iff.mp h.loc).1 (fun e => map_ne h.mem h.loc (Option.some.inj e))).trans h.loc
  free := fun r hr hfr => hf r (Nat.lt_of_lt_of_le hr h.grown.size) (h.free r hr hfr)
theorem Own.call (h : Own Bf w b S ws wr) (hm : Mem l s A0 c0 Bm Bf w0 wr) (hg : wr.grownBy w1 (some Bf)) (hf : ∀ r, r < wr.heap.size → Free Bf r wr → Free Bf r w1) : Own Bf w b S ws w1 where
  lo := h.lo
  obj := (hg.block _ (Array.getElem?_eq_some_iff.mp h.obj).1 (fun e => map_ne hm h.obj (Option.some.inj e))).trans h.obj
  free := hf _ (Array.getElem?_eq_some_iff.mp h.obj).1 h.free
  set := h.set
theorem Work.put (h : Work l s A0 c0 Bm Bf w0 w n i Ln x A3 c3 wr) (hlo : w.heap.size ≤ b) (hobj : wr.heap[b]? = some (wobj ws)) (hfr : Free Bf b wr) (hg : wr.grownBy w1 (some b)) : Work l s A0 c0 Bm Bf w0 w n i Ln x A3 c3 w1 := by
  have hbf := map_ne h.mem hobj
  have h0 : w0.heap.size ≤ b := Nat.le_trans h.lo hlo
  exact {
    mem := h.mem.grown hg h0 (fun e => by have := h.mem.obj; rw [← e, hobj] at this; simp [wobj] at this) hbf hfr
    lo := h.lo
    grown := ⟨hg.os.trans h.grown.os, hg.tape.trans h.grown.tape, hg.output.trans h.grown.output, Nat.le_trans h.grown.size hg.size, fun k hk hne => (hg.block k (Nat.lt_of_lt_of_le hk h.grown.size) (fun e => by have := Option.some.inj e; omega)).trans (h.grown.block k hk hne)⟩
    key := (hg.block _ (Array.getElem?_eq_some_iff.mp h.key).1 (fun e => by have := h.key; rw [Option.some.inj e, hobj] at this; simp [wobj] at this)).trans h.key
    loc := (hg.block _ (Array.getElem?_eq_some_iff.mp h.loc).1 (fun e => by have := h.loc; rw [Option.some.inj e, hobj] at this; simp [wobj] at this)).trans h.loc
    free := fun r hr hf => (h.free r hr hf).same (hg.block _ (map_lt h.mem) (fun e => hbf (Option.some.inj e).symm)) }
theorem Work.set (h : Work l s A0 c0 Bm Bf w0 w n i Ln x A3 c3 wr) (ho : Own Bf w b S ws wr) (hg : wr.grownBy w1 (some b)) : Work l s A0 c0 Bm Bf w0 w n i Ln x A3 c3 w1 := h.put ho.lo ho.obj ho.free hg
theorem set_grown (W : World) (b q : Nat) (u : Value) : W.grownBy (W.setCell ⟨b, q, none⟩ u) (some b) :=
  ⟨rfl, rfl, rfl, by simp [World.setCell], fun k _ hk => Below.heap_setCell W _ _ k fun e => hk (by rw [e])⟩
theorem Work.join {vs : Nat → Nat} {b2 q : Nat} (h : Work l s A0 c0 Bm Bf w0 w n i Ln x A3 c3 wr) (hlo : w.heap.size ≤ b) (hne : b2 ≠ b) (hq : q < 8) (hb2 : wr.heap[b2]? = some (wobj vs)) (ho : wr.heap[b]? = some (wobj (part ws vs q)) ∧ Free Bf b wr) (k : Nat) :
    Work l s A0 c0 Bm Bf w0 w n i Ln x A3 c3 ((wr.drewN k).setCell ⟨b, q, none⟩ (.int .u64 ((ws q ||| vs q : Nat) : Int))) ∧ ((wr.drewN k).setCell ⟨b, q, none⟩ (.int .u64 ((ws q ||| vs q : Nat) : Int))).heap[b2]? = some (wobj vs) ∧
      ((wr.drewN k).setCell ⟨b, q, none⟩ (.int .u64 ((ws q ||| vs q : Nat) : Int))).heap[b]? = some (wobj (part ws vs (q + 1))) ∧ Free Bf b ((wr.drewN k).setCell ⟨b, q, none⟩ (.int .u64 ((ws q ||| vs q : Nat) : Int))) := by
  have hd : Below wr.heap.size wr (wr.drewN k) := pw_below_drewN (Below.refl _ _) _
  have hW := h.move hd
  have hob : (wr.drewN k).heap[b]? = some (wobj (part ws vs q)) := ho.1
  have hfr : Free Bf b (wr.drewN k) := ho.2.same rfl
  have hg := set_grown (wr.drewN k) b q (.int .u64 ((ws q ||| vs q : Nat) : Int))
  refine ⟨hW.put hlo hob hfr hg, ?_, ?_, hfr.same (hg.block _ (map_lt hW.mem) (fun e => map_ne hW.mem hob (Option.some.inj e).symm))⟩
  · rw [Below.heap_setCell _ _ _ _ hne]; exact hb2
  · have := wobj_set hob q hq (ws q ||| vs q)
    rw [part_step] at this
    exact this
end
end Go.Proofs.YtlakdfbfkbndiaaDoor.Q
namespace Go.Proofs.YtlakdfbfkbndiaaDoor.Q
open Go.RowKit Go.Proofs.YtlakdfbfkbndiaaDoor.Re Go.Proofs.YtlakdfbfkbndiaaDoorW.PrintWords Go.Proofs.YtlakdfbfkbndiaaDoorW.PrintLast Go.Proofs.YtlakdfbfkbndiaaDoorW.PrintMore
open Go.ChangeMaps (setBlock)
theorem row_notMap {wr : World} {base : Nat} {v : Value} {xs : List Int} {Bf : Nat} {es : Array MapEntry} {clock : Nat} (h : Kd.R (Kd.int .i64) 3 wr base (fun _ => True) v xs) (hb : wr.heap[Bf]? = some (.map es clock)) : Kd.R (Kd.int .i64) 3 wr base (fun k => k ≠ Bf) v xs :=
  Kd.R_mono (Kd.R_bound h) (fun k hk => by
    obtain ⟨_, _, _, q, _, cells', hc⟩ := hk
    rintro rfl
    rw [hc] at hb
    simp at hb)
theorem row_call {l : List S49} {s : ByteArray} {A0 : Option Addr} {c0 Bm Bf : Nat} {w0 wr w1 : World} {base : Nat} {v : Value} {xs : List Int} (h : Kd.R (Kd.int .i64) 3 wr base (fun _ => True) v xs) (hm : Mem l s A0 c0 Bm Bf w0 wr) (hg : wr.grownBy w1 (some Bf)) : Kd.R (Kd.int .i64) 3 w1 base (fun _ => True) v xs := by
  obtain ⟨es, clock, hb, _⟩ := hm.map
  exact Kd.R_mono (Kd.R_grown (row_notMap h hb) hg (fun k hk e => hk (Option.some.inj e))) (fun _ _ => trivial)
theorem row_put {wr : World} {base b q : Nat} {v u : Value} {xs : List Int} {ws : Nat → Nat} (h : Kd.R (Kd.int .i64) 3 wr base (fun _ => True) v xs) (hb : wr.heap[b]? = some (wobj ws)) : Kd.R (Kd.int .i64) 3 (wr.setCell ⟨b, q, none⟩ u) base (fun _ => True) v xs :=
  Kd.R_set h hb (by simp [Kd.int, Kd.scalar]) q u
theorem row_get {wr : World} {base n : Nat} {A : Option Addr} {c : Nat} {xs : List Int} (h : Kd.R (Kd.int .i64) 3 wr base (fun _ => True) (.slice A n c) xs) (p : Nat) (hp : p < xs.length) : ∃ ad, A = some ad ∧ wr.cell? (ad.add p) = some (.int .i64 (xs.getD p 0)) := by
  obtain ⟨A', c', he, hl, hC⟩ := Kd.R_reads h
  obtain ⟨rfl, rfl, rfl⟩ : A = A' ∧ n = xs.length ∧ c = c' := by simpa using he
  obtain ⟨ad, cs, e0, _, hK, hcell⟩ := Kd.C_get hC (0 : Int) p (by omega) (by omega)
  have hK : cs = [.int .i64 (xs.getD ((p : Int)).toNat 0)] := hK
  subst hK
  exact ⟨ad, e0, by simpa [Kd.int, Kd.scalar] using hcell 0 _ rfl⟩
theorem nats_get (L : List Nat) (p : Nat) (hp : p < L.length) : (nats L).getD p 0 = ((L.getD p 0 : Nat) : Int) := by
  unfold nats
  rw [List.getD_eq_getElem?_getD, List.getD_eq_getElem?_getD, List.getElem?_map, List.getElem?_eq_getElem hp]; rfl
theorem take_next (L : List Nat) (p : Nat) (hp : p < L.length) : L.take (p + 1) = L.take p ++ [L.getD p 0] ∧ L.getD p 0 ∈ L := by
  rw [List.getD_eq_getElem?_getD, List.getElem?_eq_getElem hp]
  exact ⟨by rw [List.take_add_one, List.getElem?_eq_getElem hp]; rfl, List.getElem_mem hp⟩
theorem row_ne {wr : World} {base k : Nat} {ok : Nat → Prop} {v : Value} {xs : List Int} {o : Obj} (h : Kd.R (Kd.int .i64) 3 wr base ok v xs) (hb : wr.heap[k]? = some o) (ho : ∀ c, o ≠ .cells c 3 (0, 0)) : some k ≠ v.ownBlock := fun e => by
  obtain ⟨inner, hw⟩ := Kd.R_own h
  obtain ⟨c, hc⟩ := own_typed hw k e.symm
  rw [hb] at hc
  exact ho c (Option.some.inj hc)
end Go.Proofs.YtlakdfbfkbndiaaDoor.Q
namespace Go.Proofs.YtlakdfbfkbndiaaDoor.Q
open Go.RowKit Go.Proofs.YtlakdfbfkbndiaaDoor.Re Go.Proofs.YtlakdfbfkbndiaaDoorW.PrintWords Go.Proofs.YtlakdfbfkbndiaaDoorW.PrintLast Go.Proofs.YtlakdfbfkbndiaaDoorW.PrintMore
open Go.ChangeMaps (setBlock)
section
variable {l : List S49} {s : ByteArray} {A0 : Option Addr} {c0 Bm Bf : Nat} {w0 w : World} {n i Ln : Nat} {x : S49} {A3 : Option Addr} {c3 : Nat} {wr w1 : World} {b base : Nat} {S : Nat → Prop} {ws : Nat → Nat} {v : Value} {xs : List Int}
theorem Own.row (h : Own Bf w b S ws wr) (hm : Mem l s A0 c0 Bm Bf w0 wr) (hR : Kd.R (Kd.int .i64) 3 wr base (fun _ => True) v xs) (hg : wr.grownBy w1 v.ownBlock) : Own Bf w b S ws w1 where
  lo := h.lo
  obj := (hg.block _ (Array.getElem?_eq_some_iff.mp h.obj).1 (row_ne hR h.obj (by simp [wobj]))).trans h.obj
  free := by
    obtain ⟨es, clock, hb, _⟩ := hm.map
    exact h.free.same (hg.block _ (map_lt hm) (row_ne hR hb (by simp)))
  set := h.set
theorem Work.row (h : Work l s A0 c0 Bm Bf w0 w n i Ln x A3 c3 wr) (hR : Kd.R (Kd.int .i64) 3 wr base (fun _ => True) v xs) (hbase : w.heap.size ≤ base) (hg : wr.grownBy w1 v.ownBlock) : Work l s A0 c0 Bm Bf w0 w n i Ln x A3 c3 w1 := by
  obtain ⟨inner, hw⟩ := Kd.R_own hR
  have hlo : ∀ k, v.ownBlock = some k → w.heap.size ≤ k := fun k hk => Nat.le_trans hbase (own_base hw k hk)
  have keep : ∀ {k : Nat} {o : Obj}, wr.heap[k]? = some o → (∀ c, o ≠ .cells c 3 (0, 0)) → w1.heap[k]? = some o := fun {k o} hb ho => (hg.block k (Array.getElem?_eq_some_iff.mp hb).1 (row_ne hR hb ho)).trans hb
  have hmap : w1.heap[Bf]? = wr.heap[Bf]? := by
    obtain ⟨es, clock, hb, _⟩ := h.mem.map
    rw [hb]; exact keep hb (by simp)
  exact {
    mem := {
      below := h.mem.below.grown hg h.mem.below.size (fun k hk => Nat.le_trans h.lo (hlo k hk))
      bm := h.mem.bm
      bf := h.mem.bf
      obj := keep h.mem.obj (by simp)
      map := by
        obtain ⟨es, clock, hb, hd, he⟩ := h.mem.map
        refine ⟨es, clock, hmap.trans hb, hd, fun e hm => ?_⟩
        obtain ⟨n', i', b', ws', g1, g2, g3, g4, g5, g6, g7⟩ := he e hm
        exact ⟨n', i', b', ws', g1, g2, g3, g4, g5, keep g6 (by simp [wobj]), g7⟩ }
    lo := h.lo
    grown := ⟨hg.os.trans h.grown.os, hg.tape.trans h.grown.tape, hg.output.trans h.grown.output, Nat.le_trans h.grown.size hg.size, fun k hk hne => (hg.block k (Nat.lt_of_lt_of_le hk h.grown.size) (fun e => by have := hlo k e.symm; omega)).trans (h.grown.block k hk hne)⟩
    key := keep h.key (by simp)
    loc := keep h.loc (by simp)
    free := fun r hr hf => (h.free r hr hf).same hmap }
end
end Go.Proofs.YtlakdfbfkbndiaaDoor.Q
namespace Go.Proofs.YtlakdfbfkbndiaaDoor.Q
open Go.RowKit Go.Proofs.YtlakdfbfkbndiaaDoor.Re Go.Proofs.YtlakdfbfkbndiaaDoorW.PrintWords Go.Proofs.YtlakdfbfkbndiaaDoorW.PrintLast Go.Proofs.YtlakdfbfkbndiaaDoorW.PrintMore
open Go.ChangeMaps (setBlock)
theorem row_row {W w1 : World} {base2 : Nat} {v v1 v2 : Value} {ys : List Int} (h2 : Kd.R (Kd.int .i64) 3 W base2 (fun k => some k ≠ v.ownBlock) v2 ys) (hg : W.grownBy w1 v.ownBlock) (hat : v1.ownBlock = v.ownBlock ∨ ∃ b, v1.ownBlock = some b ∧ W.heap.size ≤ b) :
    Kd.R (Kd.int .i64) 3 w1 base2 (fun k => some k ≠ v1.ownBlock) v2 ys := by
  have h3 := Kd.R_grown (Kd.R_mono (Kd.R_bound h2) (fun k hk => (⟨hk.1, hk.2.2.1⟩ : some k ≠ v.ownBlock ∧ k < W.heap.size))) hg (fun k hk => hk.1)
  refine Kd.R_mono h3 fun k hk => ?_
  rcases hat with e | ⟨b, e, hb⟩
  · rw [e]; exact hk.1
  · rw [e]
    intro e2
    have := Option.some.inj e2
    have := hk.2
    omega
theorem row_true {w : World} {base : Nat} {ok : Nat → Prop} {v : Value} {xs : List Int} (h : Kd.R (Kd.int .i64) 3 w base ok v xs) : Kd.R (Kd.int .i64) 3 w base (fun _ => True) v xs := Kd.R_mono h (fun _ _ => trivial)
theorem row_grown2 {wr w1 : World} {base b : Nat} {ok : Nat → Prop} {v : Value} {xs : List Int} {ws : Nat → Nat} (h : Kd.R (Kd.int .i64) 3 wr base ok v xs) (hb : wr.heap[b]? = some (wobj ws)) (hg : wr.grownBy w1 (some b)) : Kd.R (Kd.int .i64) 3 w1 base ok v xs :=
  Kd.R_mono (Kd.R_grown (Kd.R_types h hb (by simp [Kd.int, Kd.scalar])) hg (fun k hk e => hk.2 (Option.some.inj e))) (fun _ hk => hk.1)
theorem upto_big {S : Nat → Prop} {n m : Nat} (h : ∀ x, S x → x < n) (hn : n ≤ m) : upto S m = upto S n := by
  obtain ⟨d, rfl⟩ : ∃ d, m = n + d := ⟨m - n, by omega⟩
  exact upto_gap S n d fun j h1 _ hj => by have := h j hj; omega
theorem ext_take (Q L : List Nat) (p : Nat) (hp : p < L.length) : ext Q (L.take (p + 1)) = if L.getD p 0 ∈ ext Q (L.take p) then ext Q (L.take p) else ext Q (L.take p) ++ [L.getD p 0] := by
  rw [(take_next L p hp).1, ext_snoc]
end Go.Proofs.YtlakdfbfkbndiaaDoor.Q
