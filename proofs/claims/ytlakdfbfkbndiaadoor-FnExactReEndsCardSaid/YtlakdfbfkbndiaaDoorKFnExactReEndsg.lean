/- What the row of FnExactReEnds rests on, and the row: for every input that can be read the call returns true and the input reads as it did; condition: what the row lists of the library reads as the program lays it. -/
import Derived.Test.YtlakdfbfkbndiaaDoorKFnExactReEndsf
import Derived.Test.YtlakdfbfkbndiaaDoorCards
import Derived.Test.YtlakdfbfkbndiaaDoorRows
import Derived.Test.YtlakdfbfkbndiaaDoorTie
set_option linter.unusedVariables false
set_option linter.unusedSimpArgs false
namespace Go.Proofs.YtlakdfbfkbndiaaDoor.Q
open Go.RowKit Go.Proofs.YtlakdfbfkbndiaaDoor.Re Go.Proofs.YtlakdfbfkbndiaaDoorW.PrintWords Go.Proofs.YtlakdfbfkbndiaaDoorW.PrintLast Go.Proofs.YtlakdfbfkbndiaaDoorW.PrintMore
section
variable {l : List S49} {s : ByteArray} {E : List Re.Way} {N : Nat}
theorem ends_l1 (K0 : Nat) (hK0 : ∀ (x : S49) (c : Int), x.f2.size % 2 = 0 → x.f2.size ≤ 1099511627776 → ∀ k, K0 ≤ k → spec_l2in.f k x.f0 x.f1 x.f2 x.f3 c = some (inS x c)) (hV : Valid l) (hW : WaysIn l E N) (out : List Int) (t : Nat) (ht : t < s.size) (hs : s.size ≤ 500) (m : List Bool) (hm : m.length = N) : ∀ (d i : Nat), i + d = E.length → ∀ (k : Nat) (x : List Bool), x.length = N → K0 ≤ k →
    spec_l2ends.l1 (k + d + 1) l s out m (t : Int) x (i : Int) (E.map toE) (N : Int) = spec_l2ends.l0 k l s out (nextL l s t m (E.drop i) x) ((t + 1 : Nat) : Int) (E.map toE) (N : Int)
  | 0, i, hi, k, x, hx, hk => by
    simp only [spec_l2ends.l1]
    have wt : wrap64 ((t : Int) + 1) = ((t + 1 : Nat) : Int) := by unfold wrap64; omega
    rw [if_neg (by rw [List.length_map]; omega), List.drop_eq_nil_of_le (by omega), wt]
    rfl
  | d + 1, i, hi, k, x, hx, hk => by
    have hlt : i < E.length := by omega
    have hd : E.drop i = E.getD i (0, 0, 0) :: E.drop (i + 1) := by
      rw [List.drop_eq_getElem_cons hlt, List.getD_eq_getElem?_getD, List.getElem?_eq_getElem hlt]; rfl
    have hmem : E.getD i (0, 0, 0) ∈ E := by
      rw [List.getD_eq_getElem?_getD, List.getElem?_eq_getElem hlt]; exact List.getElem_mem hlt
    have hr := rd_toE E i hlt
    generalize E.getD i (0, 0, 0) = e at hd hmem hr
    obtain ⟨a0, a1, b0, b1⟩ := hW.lo e hmem
    obtain ⟨n1, n2⟩ := hW.node e hmem
    have hlen := hW.len
    have wi : wrap64 ((i : Int) + 1) = ((i + 1 : Nat) : Int) := by clear n1 n2 hd hmem hr; unfold wrap64; omega
    have q1 : (i : Int) < ((E.map toE).length : Int) := by rw [List.length_map]; exact Int.ofNat_lt.mpr hlt
    have q2 : (0 : Int) ≤ (i : Int) := Int.natCast_nonneg i
    have q3 : e.1 < (m.length : Int) := by rw [hm]; exact a1
    have q4 : e.2.1 < (x.length : Int) := by rw [hx]; exact b1
    have q5 : (0 : Int) ≤ (t : Int) := Int.natCast_nonneg t
    have q6 : (t : Int) < (s.size : Int) := Int.ofNat_lt.mpr ht
    clear hlen
    have ih := fun (x : List Bool) (hx : x.length = N) => ends_l1 K0 hK0 hV hW out t ht hs m hm d (i + 1) (by omega) k x hx hk
    have e1 : k + (d + 1) + 1 = (k + d + 1) + 1 := rfl
    have hk2 : K0 ≤ k + d + 1 := Nat.le_trans hk (by rw [Nat.add_assoc]; exact Nat.le_add_right _ _)
    rw [e1]
    generalize k + d + 1 = K at ih hk2 ⊢
    simp only [spec_l2ends.l1]
    have hf : (rd_T85 (E.map toE) (i : Int)).f0 = e.1 ∧ (rd_T85 (E.map toE) (i : Int)).f1 = e.2.1 ∧ (rd_T85 (E.map toE) (i : Int)).f2 = e.2.2 := by rw [hr]; exact ⟨rfl, rfl, rfl⟩
    rw [hf.1, hf.2.1, hf.2.2, if_pos q1, if_pos q2, if_pos a0, if_pos q3, rdOf_get m e.1 a0, wi, hd]
    simp only [nextL]
    by_cases c0 : m.getD e.1.toNat false = true
    · rw [if_pos c0, c0, Bool.true_and]
      by_cases c1 : e.2.2 ≥ 0
      · rw [if_pos c1, if_pos c1, if_pos n1, rd_node]
        by_cases c2 : (nodeAt l e.2.2.toNat).f0 = 0
        · have hnl : e.2.2.toNat < l.length := by omega
          rw [if_pos c2, if_pos q5, if_pos q6, hK0 (nodeAt l e.2.2.toNat) (bt s t) (hV.even _ hnl c2) (hV.txt _ hnl) K hk2, Option.bind_some]
          have hsb : setB l s e t = inS (nodeAt l e.2.2.toNat) (bt s t) := by
            unfold setB
            rw [decide_eq_true c1, decide_eq_true c2]; rfl
          rw [hsb]
          cases c3 : inS (nodeAt l e.2.2.toNat) (bt s t) with
          | true =>
            rw [if_pos rfl, if_pos rfl, if_pos b0, if_pos q4]
            exact ih _ (by rw [List.length_set]; exact hx)
          | false =>
            rw [if_neg (by decide), if_neg (by decide)]
            exact ih _ hx
        · rw [if_neg c2]
          have hsb : setB l s e t = false := by
            unfold setB
            rw [decide_eq_false c2]; simp
          rw [hsb, if_neg (by decide)]
          exact ih _ hx
      · rw [if_neg c1]
        have hsb : setB l s e t = false := by
          unfold setB
          rw [decide_eq_false c1]; rfl
        rw [hsb, if_neg (by decide)]
        exact ih _ hx
    · rw [if_neg c0]
      have c0 : m.getD e.1.toNat false = false := by simpa using c0
      rw [c0, Bool.false_and, if_neg (by decide)]
      exact ih _ hx
theorem stp_iff (hW : WaysIn l E N) {e : Re.Way} (he : e ∈ E) (i j : Nat) : stp (patOf l s) e i j ↔ (epsB l s e i = true ∧ j = i) ∨ (setB l s e i = true ∧ i < s.size ∧ j = i + 1) := by
  obtain ⟨n1, n2⟩ := hW.node e he
  unfold stp epsB setB
  by_cases c : e.2.2 < 0
  · rw [if_pos c, decide_eq_true c, decide_eq_false (show ¬ (0 ≤ e.2.2) by omega)]
    simp [eq_comm]
  · rw [if_neg c, decide_eq_false c, decide_eq_true (show 0 ≤ e.2.2 by omega)]
    obtain ⟨k1, k2⟩ := n2 (by omega)
    show leafR (nodeAt l e.2.2.toNat) s i j ↔ _
    unfold leafR
    by_cases d0 : (nodeAt l e.2.2.toNat).f0 = 0
    · rw [if_pos d0, decide_eq_true d0, decide_eq_false (show ¬ (nodeAt l e.2.2.toNat).f0 = 1 by omega), decide_eq_false (show ¬ (nodeAt l e.2.2.toNat).f0 = 2 by omega)]
      simp
      constructor
      · rintro ⟨a, b, c⟩; exact ⟨b, a, c⟩
      · rintro ⟨a, b, c⟩; exact ⟨b, a, c⟩
    · rw [if_neg d0, decide_eq_false d0]
      by_cases d1 : (nodeAt l e.2.2.toNat).f0 = 1
      · rw [if_pos d1, decide_eq_true d1, decide_eq_false (show ¬ (nodeAt l e.2.2.toNat).f0 = 2 by omega)]
        simp
        omega
      · rw [if_neg d1, decide_eq_false d1, decide_eq_true (show (nodeAt l e.2.2.toNat).f0 = 2 by omega)]
        simp
theorem reach_ge (hW : WaysIn l E N) {i0 q j : Nat} (h : Re.Reach (patOf l s) E 0 i0 q j) : i0 ≤ j := by
  induction h with
  | base => exact Nat.le_refl _
  | step he _ hs ih =>
    rcases (stp_iff hW he _ _).mp hs with ⟨_, rfl⟩ | ⟨_, _, rfl⟩
    · exact ih
    · omega
theorem eps_reach (hW : WaysIn l E N) {i0 t : Nat} {m : List Bool} (h : ∀ q, m.getD q false = true → Re.Reach (patOf l s) E 0 i0 q t) {q : Nat} (g : Eps l s E t m q) : Re.Reach (patOf l s) E 0 i0 q t := by
  induction g with
  | base h1 => exact h _ h1
  | step he hb _ ih => exact .step he ih ((stp_iff hW he _ _).mpr (.inl ⟨hb, rfl⟩))
theorem first_inv (hW : WaysIn l E N) (i0 : Nat) (q : Nat) : Eps l s E i0 ((List.replicate N false).set 0 true) q ↔ Re.Reach (patOf l s) E 0 i0 q i0 := by
  have h2 := hW.two
  have hg : ∀ q, ((List.replicate N false).set 0 true).getD q false = true ↔ q = 0 := fun q => by
    rw [getD_set _ _ _ (by rw [List.length_replicate]; omega)]
    have : (List.replicate N false).getD q false = false := by
      rw [List.getD_eq_getElem?_getD, List.getElem?_replicate]
      split <;> rfl
    rw [this]
    simp
  constructor
  · exact eps_reach hW fun q hq => by rw [(hg q).mp hq]; exact .base
  · intro h
    have key : ∀ q j, Re.Reach (patOf l s) E 0 i0 q j → j = i0 → Eps l s E i0 ((List.replicate N false).set 0 true) q := fun q j h => by
      induction h with
      | base => exact fun _ => .base ((hg 0).mpr rfl)
      | step he hr hs ih =>
        rintro rfl
        rcases (stp_iff hW he _ _).mp hs with ⟨hb, rfl⟩ | ⟨_, _, e2⟩
        · exact .step he hb (ih rfl)
        · have := reach_ge hW hr
          omega
    exact key q i0 h rfl
theorem next_inv (hW : WaysIn l E N) {i0 t : Nat} (ht : i0 ≤ t) (hts : t < s.size) (m' : List Bool) (hinv : ∀ q, m'.getD q false = true ↔ Re.Reach (patOf l s) E 0 i0 q t) (q : Nat) :
    Eps l s E (t + 1) (nextL l s t m' E (List.replicate N false)) q ↔ Re.Reach (patOf l s) E 0 i0 q (t + 1) := by
  have hg := (nextL_spec (l := l) (s := s) (t := t) m' E (List.replicate N false) (fun e he => by rw [List.length_replicate]; have := hW.lo e he; omega)).2
  have hz : ∀ q, (List.replicate N false).getD q false = false := fun q => by
    rw [List.getD_eq_getElem?_getD, List.getElem?_replicate]
    split <;> rfl
  constructor
  · refine eps_reach hW fun q hq => ?_
    rcases (hg q).mp hq with h | ⟨e, he, h1, h2, rfl⟩
    · rw [hz] at h; cases h
    · exact .step he ((hinv _).mp h1) ((stp_iff hW he _ _).mpr (.inr ⟨h2, hts, rfl⟩))
  · intro h
    have key : ∀ q j, Re.Reach (patOf l s) E 0 i0 q j → j = t + 1 → Eps l s E (t + 1) (nextL l s t m' E (List.replicate N false)) q := fun q j h => by
      induction h with
      | base => intro e; omega
      | step he hr hs ih =>
        rintro rfl
        rcases (stp_iff hW he _ _).mp hs with ⟨hb, e2⟩ | ⟨hb, _, e2⟩
        · subst e2; exact .step he hb (ih rfl)
        · obtain rfl := Nat.succ.inj e2
          exact .base ((hg _).mpr (.inr ⟨_, he, (hinv _).mpr hr, hb, rfl⟩))
    exact key q (t + 1) h rfl
theorem nats_snoc1 (L : List Nat) (x : Nat) : nats (L ++ [x]) = nats L ++ [(x : Int)] := by unfold nats; simp
theorem ends_l0 (k : Nat) (out : List Int) (m : List Bool) (t : Int) (E' : List S85) (n : Int) (hm : 1 < m.length) (ho : out.length < 17592186044416) :
    spec_l2ends.l0 (k + 1) l s out m t E' n = (spec_l2close.l0 k l s t m true E' n).bind fun m' => spec_l2ends.j1 k l s (if rdOf false m' 1 = true then out ++ [t] else out) m' t E' n := by
  simp only [spec_l2ends.l0, spec_l2close.f]
  refine congrArg _ (funext fun m' => ?_)
  rw [if_pos (show (1 : Int) < (m.length : Int) by omega)]
  by_cases c : rdOf false m' 1 = true
  · rw [if_pos c, if_pos c, if_pos ho]
  · rw [if_neg c, if_neg c]
theorem run_ev (hV : Valid l) (hW : WaysIn l E N) (hs : s.size ≤ 500) (i0 : Nat) (R : Nat → Prop) (hR : R = Re.Reach (patOf l s) E 0 i0 1) : ∀ (d t : Nat), t + d = s.size → i0 ≤ t → ∀ (m : List Bool), m.length = N → (∀ q, Eps l s E t m q ↔ Re.Reach (patOf l s) E 0 i0 q t) →
    Ev (fun k => spec_l2ends.l0 k l s (nats (upto R t)) m (t : Int) (E.map toE) (N : Int)) (nats (upto R (s.size + 1))) := by
  have h2 := hW.two
  have hcnt := hW.cnt
  have key : ∀ (t : Nat), t ≤ s.size → ∀ (m : List Bool), m.length = N → (∀ q, Eps l s E t m q ↔ Re.Reach (patOf l s) E 0 i0 q t) → (∀ m' : List Bool, m'.length = N → (∀ q, m'.getD q false = true ↔ Re.Reach (patOf l s) E 0 i0 q t) → Ev (fun k => spec_l2ends.j1 k l s (nats (upto R (t + 1))) m' (t : Int) (E.map toE) (N : Int)) (nats (upto R (s.size + 1)))) →
      Ev (fun k => spec_l2ends.l0 k l s (nats (upto R t)) m (t : Int) (E.map toE) (N : Int)) (nats (upto R (s.size + 1))) := by
    intro t hts m hm hinv hj
    obtain ⟨m', h1, h3, h4⟩ := close_ev hW hs t (falses m) m (Nat.le_refl _) hm
    have hinv' : ∀ q, m'.getD q false = true ↔ Re.Reach (patOf l s) E 0 i0 q t := fun q => (h3 q).trans (hinv q)
    have hlen : (nats (upto R t)).length < 17592186044416 := by
      have := upto_len R t
      rw [nats_len]
      omega
    refine Ev.succ (Ev.congr (Ev.bind h4 (g := fun k m' => spec_l2ends.j1 k l s (if rdOf false m' 1 = true then nats (upto R t) ++ [(t : Int)] else nats (upto R t)) m' (t : Int) (E.map toE) (N : Int)) ?_) (fun k => ends_l0 k _ m (t : Int) _ _ (by omega) hlen))
    refine Ev.congr (hj m' h1 hinv') fun k => ?_
    have e : (if rdOf false m' 1 = true then nats (upto R t) ++ [(t : Int)] else nats (upto R t)) = nats (upto R (t + 1)) := by
      rw [rdOf_get m' 1 (by decide)]
      by_cases c : m'.getD (1 : Int).toNat false = true
      · rw [if_pos c, upto_succ_pos R t (by rw [hR]; exact (hinv' 1).mp c), nats_snoc1]
      · rw [if_neg c, upto_succ_neg R t (by rw [hR]; exact fun h => c ((hinv' 1).mpr h))]
    show spec_l2ends.j1 k l s (if rdOf false m' 1 = true then nats (upto R t) ++ [(t : Int)] else nats (upto R t)) m' (t : Int) (E.map toE) (N : Int) = _
    rw [e]
  obtain ⟨K0, hK0⟩ : ∃ K0, ∀ (x : S49) (c : Int), x.f2.size % 2 = 0 → x.f2.size ≤ 1099511627776 → ∀ k, K0 ≤ k → spec_l2in.f k x.f0 x.f1 x.f2 x.f3 c = some (inS x c) := ⟨_, fun x c he hs k hk => l2in_eq x c he hs k hk⟩
  intro d
  induction d with
  | zero =>
    intro t ht hit m hm hinv
    refine key t (by omega) m hm hinv fun m' _ _ => Ev.succ (Ev.mk fun k => ?_)
    simp only [spec_l2ends.j1]
    rw [if_pos (by omega), show t + 1 = s.size + 1 by omega]
  | succ d ih =>
    intro t ht hit m hm hinv
    refine key t (by omega) m hm hinv fun m' hm' hinv' => ?_
    have hrep : (List.replicate N false).length = N := List.length_replicate
    have hnx := (nextL_spec (l := l) (s := s) (t := t) m' E (List.replicate N false) (fun e he => by rw [hrep]; have := hW.lo e he; omega)).1
    obtain ⟨K, hK⟩ := ih (t + 1) (by omega) (by omega) (nextL l s t m' E (List.replicate N false)) (by rw [hnx, hrep]) (next_inv hW hit (by omega) m' hinv')
    refine Ev.succ ⟨K + K0 + (E.length + 1), fun k hk => ?_⟩
    obtain ⟨j, rfl⟩ : ∃ j, k = j + E.length + 1 := ⟨k - (E.length + 1), by omega⟩
    have h1 := ends_l1 K0 hK0 hV hW (nats (upto R (t + 1))) t (by omega) hs m' hm' E.length 0 (by omega) j (List.replicate N false) hrep (by omega)
    rw [List.drop_zero] at h1
    have h3 := hK j (by omega)
    generalize j + E.length + 1 = k at h1
    show spec_l2ends.j1 (k + 1) l s (nats (upto R (t + 1))) m' (t : Int) (E.map toE) (N : Int) = _
    simp only [spec_l2ends.j1]
    rw [if_neg (show ¬ (t : Int) = (s.size : Int) by omega), if_pos (Int.natCast_nonneg N), Int.toNat_natCast, if_pos (by omega)]
    exact h1.trans h3
theorem ends_ev (hV : Valid l) (hW : WaysIn l E N) (hs : s.size ≤ 500) (i0 : Nat) (hi : i0 ≤ s.size) :
    Ev (fun k => spec_l2ends.f k (E.map toE) (N : Int) l s (i0 : Int)) (nats (upto (Re.Reach (patOf l s) E 0 i0 1) (s.size + 1))) := by
  have h2 := hW.two
  have hcnt := hW.cnt
  have h := run_ev hV hW hs i0 _ rfl (s.size - i0) i0 (by omega) (Nat.le_refl _) ((List.replicate N false).set 0 true) (by rw [List.length_set, List.length_replicate]) (first_inv hW i0)
  have e : upto (Re.Reach (patOf l s) E 0 i0 1) i0 = [] := by
    have := upto_gap (Re.Reach (patOf l s) E 0 i0 1) 0 i0 (fun j _ hj hr => by have := reach_ge hW hr; omega)
    rwa [Nat.zero_add] at this
  rw [e] at h
  refine Ev.congr h fun k => ?_
  unfold spec_l2ends.f
  rw [if_pos (Int.natCast_nonneg N), Int.toNat_natCast, if_pos (by omega), Option.bind_some, if_pos (by rw [List.length_replicate]; omega)]
  rfl
theorem bld_nodes (P : Pat) (n0 : Nat) (hw : WF P n0) : ∀ (f n : Nat), n < n0 → ∀ a c m e, e ∈ (bld P f n a c m).1 → e.2.2 = -1 ∨ ∃ q : Nat, e.2.2 = (q : Int) ∧ q ≤ n ∧ P.kd q < 3
  | 0, n, _, a, c, m, e, he => absurd he (by simp [bld])
  | f + 1, n, hn, a, c, m, e, he => by
    simp only [bld] at he
    have hk : ∀ k, k ∈ P.ks n → ∀ a c m e, e ∈ (bld P f k a c m).1 → e.2.2 = -1 ∨ ∃ q : Nat, e.2.2 = (q : Int) ∧ q ≤ n ∧ P.kd q < 3 := fun k hk a c m e he => by
      have hlt := hw.lt n hn k hk
      rcases bld_nodes P n0 hw f k (by omega) a c m e he with h | ⟨q, h1, h2, h3⟩
      · exact .inl h
      · exact .inr ⟨q, h1, by omega, h3⟩
    by_cases h3 : P.kd n < 3
    · rw [if_pos h3] at he
      have : e = ((a : Int), (c : Int), (n : Int)) := by simpa using he
      subst this
      exact .inr ⟨n, rfl, Nat.le_refl _, h3⟩
    · rw [if_neg h3] at he
      by_cases h4 : P.kd n = 3
      · rw [if_pos h4] at he
        have seq : ∀ (L : List Nat), (∀ k, k ∈ L → k ∈ P.ks n) → ∀ a c m, e ∈ (bldSeq (bld P f) L a c m).1 → e.2.2 = -1 ∨ ∃ q : Nat, e.2.2 = (q : Int) ∧ q ≤ n ∧ P.kd q < 3 := by
          intro L
          induction L with
          | nil => intro _ a c m he; simp [bldSeq] at he
          | cons k L ih =>
            intro hL a c m he
            cases L with
            | nil => exact hk k (hL k (by simp)) a c m e he
            | cons k2 L =>
              simp only [bldSeq] at he
              rcases List.mem_append.mp he with h | h
              · exact hk k (hL k (by simp)) _ _ _ e h
              · exact ih (fun k hk => hL k (List.mem_cons_of_mem _ hk)) _ _ _ h
        exact seq _ (fun _ h => h) _ _ _ he
      · rw [if_neg h4] at he
        by_cases h5 : P.kd n = 4
        · rw [if_pos h5] at he
          have alt : ∀ (L : List Nat), (∀ k, k ∈ L → k ∈ P.ks n) → ∀ m, e ∈ (bldAlt (bld P f) a c L m).1 → e.2.2 = -1 ∨ ∃ q : Nat, e.2.2 = (q : Int) ∧ q ≤ n ∧ P.kd q < 3 := by
            intro L
            induction L with
            | nil => intro _ m he; simp [bldAlt] at he
            | cons k L ih =>
              intro hL m he
              simp only [bldAlt] at he
              rcases List.mem_append.mp he with h | h
              · exact hk k (hL k (by simp)) _ _ _ e h
              · exact ih (fun k hk => hL k (List.mem_cons_of_mem _ hk)) _ h
          exact alt _ (fun _ h => h) _ he
        · rw [if_neg h5] at he
          obtain ⟨k, hks⟩ := hw.one n hn (by omega)
          have one : ∀ x y : Int, e ∈ ([(x, y, -1)] : List Re.Way) → e.2.2 = -1 := fun x y h => by
            have : e = (x, y, -1) := by simpa using h
            rw [this]
          rcases List.mem_append.mp he with he | he
          · rcases List.mem_append.mp he with he | he
            · rcases List.mem_append.mp he with he | he
              · rcases List.mem_append.mp he with he | he
                · exact .inl (one _ _ he)
                · rw [hks] at he
                  exact hk k (by rw [hks]; simp) _ _ _ e he
              · exact .inl (one _ _ he)
            · split at he
              · exact .inl (one _ _ he)
              · simp at he
          · split at he
            · exact .inl (one _ _ he)
            · simp at he
theorem ways_in (h : waysOk l) : WaysIn l (allWays l).1 (allWays l).2 := by
  obtain ⟨hV, h1, h2⟩ := h
  have hp := hV.pos
  obtain ⟨g1, g2⟩ := bld_fit (patOf l ⟨#[]⟩) l.length (l.length - 1) 0 1 2 (by omega) (by omega)
  refine ⟨fun e he => g2 e he, fun e he => ?_, h1, h2, g1⟩
  rcases bld_nodes (patOf l ⟨#[]⟩) l.length (hV.wf _) l.length (l.length - 1) (by omega) 0 1 2 e he with h | ⟨q, e1, e2, e3⟩
  · rw [h]
    exact ⟨by omega, fun h => absurd h (by decide)⟩
  · rw [e1]
    have hk := hV.kd q (by omega)
    have e3 : (nodeAt l q).f0.toNat < 3 := e3
    exact ⟨by omega, fun _ => by rw [Int.toNat_natCast]; omega⟩
theorem l2ends_ev (h : waysOk l) (hs : s.size ≤ 500) (i0 : Nat) (hi : i0 ≤ s.size) :
    Ev (fun k => spec_l2ends.f k ((allWays l).1.map toE) ((allWays l).2 : Int) l s (i0 : Int)) (nats (endsL l s i0)) := by
  have hV := h.1
  have h1 := ends_ev hV (ways_in h) hs i0 hi
  have e : upto (Re.Reach (patOf l s) (allWays l).1 0 i0 1) (s.size + 1) = endsL l s i0 := by
    unfold endsL
    refine upto_congr _ fun j _ => ?_
    unfold allWays meets
    rw [bld_same (patOf l ⟨#[]⟩) (patOf l s) rfl rfl]
    exact reach_iff (patOf l s) l.length (hV.wf s) (hV.full s) l.length (l.length - 1) (by have := hV.pos; omega) i0 j
  rw [e] at h1
  exact h1
end
end Go.Proofs.YtlakdfbfkbndiaaDoor.Q
namespace Go.Proofs.YtlakdfbfkbndiaaDoor.Q
open Go.RowKit Go.Proofs.YtlakdfbfkbndiaaDoor.Re Go.Proofs.YtlakdfbfkbndiaaDoorW.PrintWords Go.Proofs.YtlakdfbfkbndiaaDoorW.PrintLast Go.Proofs.YtlakdfbfkbndiaaDoorW.PrintMore
theorem okV_iff {l : List S49} (hF : Fits l) : okV l ↔ okB l = true := by
  obtain ⟨K, hK⟩ := implOk_ev hF
  exact (ok_one (hK K (Nat.le_refl _))).symm
theorem sure {l : List S49} (hF : Fits l) : sureL l := by
  obtain ⟨K, hK⟩ := implOk_ev hF
  exact ⟨⟨K, _, hK K (Nat.le_refl _)⟩, fun h => okB_valid hF ((okV_iff hF).mp h)⟩
def conv (x : S56) : S49 := ⟨x.f0, x.f1, x.f2, x.f3⟩
end Go.Proofs.YtlakdfbfkbndiaaDoor.Q
namespace Go.Proofs.YtlakdfbfkbndiaaDoor.Q
open Go.RowKit Go.Proofs.YtlakdfbfkbndiaaDoor.Re Go.Proofs.YtlakdfbfkbndiaaDoorW.PrintWords Go.Proofs.YtlakdfbfkbndiaaDoorW.PrintLast Go.Proofs.YtlakdfbfkbndiaaDoorW.PrintMore
section
variable (l0 : List S56)
theorem rd_conv (i : Nat) : nodeAt (l0.map conv) i = conv (rd_T56 l0 (i : Int)) := by
  unfold nodeAt rd_T49 rd_T56
  rw [List.getD_eq_getElem?_getD, List.getD_eq_getElem?_getD, List.getElem?_map]
  cases l0[((i : Int)).toNat]? <;> rfl
def Given (l0 : List S56) : Prop := l0.length ≤ 9223372036854775807 ∧ ∀ n, n < l0.length → (nodeAt (l0.map conv) n).f2.size ≤ 9223372036854775807 ∧ (nodeAt (l0.map conv) n).f3.length ≤ 9223372036854775807
theorem sz_node (x : S56) (a : Nat) (ha : a ≤ 1048576) (h2 : x.f2.size ≤ 9223372036854775807) (h3 : x.f3.length ≤ 9223372036854775807) :
    ∃ r : Int, laws_szReNode.f x.f0 x.f1 x.f2 x.f3 (a : Int) = some r ∧ (r < 0 ∨ ∃ m : Nat, r = (m : Int) ∧ m ≤ a ∧ x.f2.size ≤ 1048576 ∧ x.f3.length ≤ 1048576) := by
  unfold laws_szReNode.f laws_szIntS.f
  have w1 : wrap64 ((a : Int) - (x.f2.size : Int)) = (a : Int) - (x.f2.size : Int) := by unfold wrap64; omega
  rw [w1]
  by_cases c : (a : Int) - (x.f2.size : Int) < 0
  · rw [if_pos c]; exact ⟨-1, rfl, .inl (by decide)⟩
  · rw [if_neg c]
    have w2 : wrap64 ((a : Int) - (x.f2.size : Int) - (x.f3.length : Int)) = (a : Int) - (x.f2.size : Int) - (x.f3.length : Int) := by unfold wrap64; omega
    rw [w2]
    by_cases d : (a : Int) - (x.f2.size : Int) - (x.f3.length : Int) < 0
    · rw [if_pos d, Option.bind_some, if_pos (by decide)]; exact ⟨-1, rfl, .inl (by decide)⟩
    · rw [if_neg d, Option.bind_some, if_neg d]
      exact ⟨_, rfl, .inr ⟨a - x.f2.size - x.f3.length, by omega, by omega, by omega, by omega⟩⟩
theorem sz_l0 (hG : Given l0) : ∀ (d i a : Nat), i + d = l0.length → a ≤ 1048576 → ∃ r : Int, Ev (fun k => laws_szReNodeS.l0 k l0 (a : Int) (i : Int)) r ∧ (r < 0 ∨ ∀ n, i ≤ n → n < l0.length → (nodeAt (l0.map conv) n).f2.size ≤ 1048576 ∧ (nodeAt (l0.map conv) n).f3.length ≤ 1048576)
  | 0, i, a, hi, ha => by
    refine ⟨a, Ev.succ (Ev.mk fun k => ?_), .inr fun n h1 h2 => absurd h2 (by omega)⟩
    simp only [laws_szReNodeS.l0]
    rw [if_neg (by omega)]
  | d + 1, i, a, hi, ha => by
    have hlt : i < l0.length := by omega
    have hl := hG.1
    have wi : wrap64 ((i : Int) + 1) = ((i + 1 : Nat) : Int) := by unfold wrap64; omega
    obtain ⟨g2, g3⟩ := hG.2 i hlt
    rw [rd_conv] at g2 g3
    obtain ⟨r1, hr1, hc⟩ := sz_node (rd_T56 l0 (i : Int)) a ha g2 g3
    have hu : ∀ k, laws_szReNodeS.l0 (k + 1) l0 (a : Int) (i : Int) = if r1 < 0 then some (-1) else laws_szReNodeS.l0 k l0 r1 ((i + 1 : Nat) : Int) := fun k => by
      conv => lhs; simp only [laws_szReNodeS.l0]
      rw [if_pos (show (i : Int) < (l0.length : Int) by omega), if_pos (Int.natCast_nonneg i), hr1, Option.bind_some, wi]
    rcases hc with c | ⟨m, rfl, hm, s2, s3⟩
    · refine ⟨-1, Ev.succ (Ev.mk fun k => ?_), .inl (by decide)⟩
      rw [hu, if_pos c]
    · obtain ⟨r, h1, h2⟩ := sz_l0 hG d (i + 1) m (by omega) (by omega)
      refine ⟨r, Ev.succ (Ev.congr h1 fun k => by rw [hu, if_neg (by omega)]), ?_⟩
      rcases h2 with h2 | h2
      · exact .inl h2
      · refine .inr fun n n1 n2 => ?_
        by_cases c : n = i
        · subst c; rw [rd_conv]; exact ⟨s2, s3⟩
        · exact h2 n (by omega) n2
theorem sz_ev (hG : Given l0) : ∃ r : Int, Ev (fun k => laws_szReNodeS.f k l0 1048576) r ∧ (r < 0 ∨ (l0.length ≤ 1048576 ∧ Fits (l0.map conv))) := by
  have hl := hG.1
  have w1 : wrap64 (1048576 - (l0.length : Int)) = 1048576 - (l0.length : Int) := by unfold wrap64; omega
  by_cases c : (1048576 : Int) - (l0.length : Int) < 0
  · refine ⟨-1, Ev.mk fun k => ?_, .inl (by decide)⟩
    show laws_szReNodeS.f k l0 1048576 = _
    unfold laws_szReNodeS.f
    rw [w1, if_pos c]
  · obtain ⟨r, h1, h2⟩ := sz_l0 l0 hG l0.length 0 (1048576 - l0.length) (by omega) (by omega)
    refine ⟨r, Ev.congr h1 fun k => ?_, ?_⟩
    · unfold laws_szReNodeS.f
      rw [w1, if_neg c, show (1048576 : Int) - (l0.length : Int) = ((1048576 - l0.length : Nat) : Int) by omega]
      rfl
    · rcases h2 with h2 | h2
      · exact .inl h2
      · exact .inr ⟨by omega, ⟨fun n hn => (h2 n (Nat.zero_le _) (by rwa [List.length_map] at hn)).2, fun n hn => (h2 n (Nat.zero_le _) (by rwa [List.length_map] at hn)).1⟩⟩
end
end Go.Proofs.YtlakdfbfkbndiaaDoor.Q
namespace Go.Proofs.YtlakdfbfkbndiaaDoor.Q
open Go.RowKit Go.Proofs.YtlakdfbfkbndiaaDoor.Re Go.Proofs.YtlakdfbfkbndiaaDoorW.PrintWords Go.Proofs.YtlakdfbfkbndiaaDoorW.PrintLast Go.Proofs.YtlakdfbfkbndiaaDoorW.PrintMore
def half {α : Type} (z : α) (xs : List α) (i : Nat) : List α := xs.take i ++ List.replicate (xs.length - i) z
theorem half_len {α : Type} (z : α) (xs : List α) (i : Nat) (hi : i ≤ xs.length) : (half z xs i).length = xs.length := by
  unfold half
  rw [List.length_append, List.length_take, List.length_replicate]
  omega
theorem half_set {α : Type} (z : α) (xs : List α) (i : Nat) (hi : i < xs.length) : (half z xs i).set i (xs[i]'hi) = half z xs (i + 1) := by
  apply List.ext_getElem?
  intro j
  unfold half
  rw [List.getElem?_set]
  by_cases c : i = j
  · subst c
    rw [if_pos rfl, if_pos (by rw [List.length_append, List.length_take, List.length_replicate]; omega), List.getElem?_append_left (by rw [List.length_take]; omega), List.getElem?_take_of_lt (by omega), List.getElem?_eq_getElem hi]
  · rw [if_neg c]
    by_cases d : j < i
    · rw [List.getElem?_append_left (by rw [List.length_take]; omega), List.getElem?_append_left (by rw [List.length_take]; omega), List.getElem?_take_of_lt d, List.getElem?_take_of_lt (by omega)]
    · rw [List.getElem?_append_right (by rw [List.length_take]; omega), List.getElem?_append_right (by rw [List.length_take]; omega), List.length_take, List.length_take, List.getElem?_replicate, List.getElem?_replicate]
      by_cases e : j < xs.length
      · rw [if_pos (by omega), if_pos (by omega)]
      · rw [if_neg (by omega), if_neg (by omega)]
theorem half_zero {α : Type} (z : α) (xs : List α) : half z xs 0 = List.replicate xs.length z := by unfold half; simp
theorem half_all {α : Type} (z : α) (xs : List α) : half z xs xs.length = xs := by unfold half; simp
theorem toInts_l0 (ks : List Int) (hk : ks.length ≤ 1048576) : ∀ (d i k : Nat), i + d = ks.length → d < k → laws_toIntS.l0 k ks (half 0 ks i) (i : Int) = some ks
  | 0, i, 0, _, h => absurd h (by omega)
  | 0, i, k + 1, hi, _ => by
    have e : i = ks.length := by omega
    subst e
    simp only [laws_toIntS.l0]
    rw [if_neg (by omega), half_all]
  | d + 1, i, 0, _, h => absurd h (by omega)
  | d + 1, i, k + 1, hi, h => by
    have wi : wrap64 ((i : Int) + 1) = ((i + 1 : Nat) : Int) := by unfold wrap64; omega
    have hr : rd ks (i : Int) = ks[i]'(by omega) := by
      unfold rd
      rw [Int.toNat_natCast, List.getD_eq_getElem?_getD, List.getElem?_eq_getElem (by omega)]; rfl
    simp only [laws_toIntS.l0]
    rw [if_pos (by omega), if_pos (by omega), if_pos (by rw [half_len 0 ks i (by omega)]; omega), wi, Int.toNat_natCast, hr, half_set 0 ks i (by omega)]
    exact toInts_l0 ks hk d (i + 1) k (by omega) (by omega)
theorem toInts_ev (ks : List Int) (hk : ks.length ≤ 1048576) : ∀ k, 1048577 ≤ k → laws_toIntS.f k ks = some ks := fun k h => by
  unfold laws_toIntS.f
  rw [if_pos (Int.natCast_nonneg _), Int.toNat_natCast, if_pos (by omega), ← half_zero]
  exact toInts_l0 ks hk ks.length 0 k (by omega) (by omega)
end Go.Proofs.YtlakdfbfkbndiaaDoor.Q
namespace Go.Proofs.YtlakdfbfkbndiaaDoor.Q
open Go.RowKit Go.Proofs.YtlakdfbfkbndiaaDoor.Re Go.Proofs.YtlakdfbfkbndiaaDoorW.PrintWords Go.Proofs.YtlakdfbfkbndiaaDoorW.PrintLast Go.Proofs.YtlakdfbfkbndiaaDoorW.PrintMore
section
variable {l0 : List S56}
theorem toNodes_l0 (hl : l0.length ≤ 1048576) (hF : Fits (l0.map conv)) : ∀ (d i k : Nat), i + d = l0.length → 1048577 + d ≤ k → laws_toReNodeS.l0 k l0 (half z49 (l0.map conv) i) (i : Int) = some (l0.map conv)
  | 0, i, 0, _, h => absurd h (by omega)
  | 0, i, k + 1, hi, _ => by
    have e : i = (l0.map conv).length := by rw [List.length_map]; omega
    simp only [laws_toReNodeS.l0]
    rw [if_neg (by omega), e, half_all]
  | d + 1, i, 0, _, h => absurd h (by omega)
  | d + 1, i, k + 1, hi, h => by
    have hlt : i < (l0.map conv).length := by rw [List.length_map]; omega
    have wi : wrap64 ((i : Int) + 1) = ((i + 1 : Nat) : Int) := by unfold wrap64; omega
    have hk := hF.kids i hlt
    rw [rd_conv] at hk
    have hr : (l0.map conv)[i]'hlt = conv (rd_T56 l0 (i : Int)) := by
      rw [← rd_conv]
      unfold nodeAt rd_T49
      rw [Int.toNat_natCast, List.getD_eq_getElem?_getD, List.getElem?_eq_getElem hlt]; rfl
    have ht : laws_toIntS.f k (rd_T56 l0 (i : Int)).f3 = some (rd_T56 l0 (i : Int)).f3 := toInts_ev _ hk k (by omega)
    have ih := toNodes_l0 hl hF d (i + 1) k (by omega) (by omega)
    rw [← half_set _ _ i hlt, hr] at ih
    simp only [laws_toReNodeS.l0]
    unfold laws_toReNode.f
    rw [if_pos (by omega), if_pos (by omega), ht, Option.bind_some, Option.bind_some, if_pos (by rw [half_len _ _ i (by omega), List.length_map]; omega), wi, Int.toNat_natCast]
    exact ih
theorem toNodes_ev (hl : l0.length ≤ 1048576) (hF : Fits (l0.map conv)) : Ev (fun k => laws_toReNodeS.f k l0) (l0.map conv) := by
  refine ⟨2097154, fun k hk => ?_⟩
  show laws_toReNodeS.f k l0 = _
  unfold laws_toReNodeS.f
  have h := toNodes_l0 hl hF l0.length 0 k (by omega) (by omega)
  rw [half_zero, List.length_map] at h
  rw [if_pos (Int.natCast_nonneg _), Int.toNat_natCast, if_pos (by omega)]
  exact h
end
end Go.Proofs.YtlakdfbfkbndiaaDoor.Q
namespace Go.Proofs.YtlakdfbfkbndiaaDoor.Q
open Go.RowKit Go.Proofs.YtlakdfbfkbndiaaDoor.Re Go.Proofs.YtlakdfbfkbndiaaDoorW.PrintWords Go.Proofs.YtlakdfbfkbndiaaDoorW.PrintLast Go.Proofs.YtlakdfbfkbndiaaDoorW.PrintMore
theorem eqInts_l0 (ks : List Int) (hk : ks.length ≤ 1048576) : ∀ (d i k : Nat), i + d = ks.length → d < k → laws_eqIntS.l0 k ks ks (i : Int) = some true
  | 0, i, 0, _, h => absurd h (by omega)
  | 0, i, k + 1, hi, _ => by
    simp only [laws_eqIntS.l0]
    rw [if_neg (by omega)]
  | d + 1, i, 0, _, h => absurd h (by omega)
  | d + 1, i, k + 1, hi, h => by
    have wi : wrap64 ((i : Int) + 1) = ((i + 1 : Nat) : Int) := by unfold wrap64; omega
    simp only [laws_eqIntS.l0, if_true]
    rw [if_pos (by omega), if_pos (by omega), if_pos (by omega), wi]
    exact eqInts_l0 ks hk d (i + 1) k (by omega) (by omega)
end Go.Proofs.YtlakdfbfkbndiaaDoor.Q
namespace Go.Proofs.YtlakdfbfkbndiaaDoor.Q
open Go.RowKit Go.Proofs.YtlakdfbfkbndiaaDoor.Re Go.Proofs.YtlakdfbfkbndiaaDoorW.PrintWords Go.Proofs.YtlakdfbfkbndiaaDoorW.PrintLast Go.Proofs.YtlakdfbfkbndiaaDoorW.PrintMore
section
variable {l : List S49}
theorem eqNodes_l0 (hl : l.length ≤ 1048576) (hF : Fits l) : ∀ (d i k : Nat), i + d = l.length → 1048577 + d ≤ k → laws_eqReNodeS.l0 k l l (i : Int) = some true
  | 0, i, 0, _, h => absurd h (by omega)
  | 0, i, k + 1, hi, _ => by
    simp only [laws_eqReNodeS.l0]
    rw [if_neg (by omega)]
  | d + 1, i, 0, _, h => absurd h (by omega)
  | d + 1, i, k + 1, hi, h => by
    have wi : wrap64 ((i : Int) + 1) = ((i + 1 : Nat) : Int) := by unfold wrap64; omega
    have hk := hF.kids i (by omega)
    have he : ∀ x : S49, x.f3.length ≤ 1048576 → laws_eqReNode.f k x.f0 x.f1 x.f2 x.f3 x.f0 x.f1 x.f2 x.f3 = some true := fun x hx => by
      unfold laws_eqReNode.f laws_eqIntS.f
      rw [if_pos rfl, if_neg (by simp), if_pos rfl, if_pos rfl, show (0 : Int) = ((0 : Nat) : Int) from rfl, eqInts_l0 x.f3 hx x.f3.length 0 k (by omega) (by omega), Option.bind_some, if_pos rfl]
    simp only [laws_eqReNodeS.l0]
    rw [if_pos (by omega), if_pos (by omega), if_pos (by omega), rdn, he _ hk, Option.bind_some, if_pos rfl, wi]
    exact eqNodes_l0 hl hF d (i + 1) k (by omega) (by omega)
theorem eqNodes_ev (hl : l.length ≤ 1048576) (hF : Fits l) : Ev (fun k => laws_eqReNodeS.f k l l) true := by
  refine ⟨2097154, fun k hk => ?_⟩
  show laws_eqReNodeS.f k l l = _
  unfold laws_eqReNodeS.f
  rw [if_pos rfl]
  exact eqNodes_l0 hl hF l.length 0 k (by omega) (by omega)
end
end Go.Proofs.YtlakdfbfkbndiaaDoor.Q
namespace Go.Proofs.YtlakdfbfkbndiaaDoor.Pure
open Go Go.RowKit Go.Proofs.YtlakdfbfkbndiaaDoor.Q Go.Proofs.YtlakdfbfkbndiaaDoorW.PrintWords Go.Proofs.YtlakdfbfkbndiaaDoorW.PrintLast Go.Proofs.YtlakdfbfkbndiaaDoorW.PrintMore
def NodesOk (l0 : List S56) : Prop := ∀ a ∈ l0, okInt .i64 a.f0 ∧ okBool a.f1 ∧ okStr a.f2 ∧ (a.f3.length ≤ maxLen ∧ ∀ b_ ∈ a.f3, okInt .i64 b_)
theorem given (l0 : List S56) (h1 : l0.length ≤ maxLen) (h2 : NodesOk l0) : Given l0 := by
  refine ⟨h1, fun n hn => ?_⟩
  have e : nodeAt (l0.map conv) n = conv (l0[n]'hn) := by
    unfold nodeAt rd_T49
    rw [Int.toNat_natCast, List.getD_eq_getElem?_getD, List.getElem?_map, List.getElem?_eq_getElem hn]; rfl
  rw [e]
  obtain ⟨_, _, h3, h4, _⟩ := h2 _ (List.getElem_mem hn)
  exact ⟨h3, h4⟩
end Go.Proofs.YtlakdfbfkbndiaaDoor.Pure
namespace Go.Proofs.YtlakdfbfkbndiaaDoor.Q
open Go.RowKit Go.Proofs.YtlakdfbfkbndiaaDoor.Re Go.Proofs.YtlakdfbfkbndiaaDoorW.PrintWords Go.Proofs.YtlakdfbfkbndiaaDoorW.PrintLast Go.Proofs.YtlakdfbfkbndiaaDoorW.PrintMore
section
variable {l : List S49}
open Classical in
noncomputable def endsA (l : List S49) (s : ByteArray) (i : Int) : List Int := if okB l = true ∧ s.size ≤ 500 ∧ 0 ≤ i ∧ i ≤ (s.size : Int) then nats (endsL l s i.toNat) else []
theorem implEnds_eq (hF : Fits l) (s : ByteArray) (i : Int) : impl_ReEnds.f l s i = some (endsA l s i) := by
  unfold impl_ReEnds.f endsA
  rw [if_pos (sure hF)]
  by_cases c : okB l = true ∧ s.size ≤ 500 ∧ 0 ≤ i ∧ i ≤ (s.size : Int)
  · rw [if_pos c, if_pos ⟨⟨(okV_iff hF).mpr c.1, c.2.1⟩, c.2.2⟩]
  · rw [if_neg c, if_neg fun h => c ⟨(okV_iff hF).mp h.1.1, h.1.2, h.2⟩]
theorem specEnds_ev (hF : Fits l) (s : ByteArray) (i : Int) : Ev (fun k => spec_ReEnds.f k l s i) (endsA l s i) := by
  unfold endsA
  refine Ev.congr (Ev.bind (specOk_ev hF) (g := fun k t => if t = true then (if (s.size : Int) > 500 then (spec_ReEnds.j0 k l s i true) else (if i < 0 then (spec_ReEnds.j0 k l s i true) else (spec_ReEnds.j0 k l s i (decide (i > (s.size : Int)))))) else (spec_ReEnds.j0 k l s i true)) ?_) (fun k => rfl)
  have hno : Ev (fun k => spec_ReEnds.j0 k l s i true) ([] : List Int) := Ev.succ (Ev.mk fun k => by simp only [spec_ReEnds.j0, if_true])
  by_cases c : okB l = true
  · rw [c]
    refine Ev.congr (f := fun k => (if (s.size : Int) > 500 then (spec_ReEnds.j0 k l s i true) else (if i < 0 then (spec_ReEnds.j0 k l s i true) else (spec_ReEnds.j0 k l s i (decide (i > (s.size : Int))))))) ?_ (fun k => if_pos rfl)
    by_cases hs : s.size ≤ 500
    · refine Ev.congr (f := fun k => (if i < 0 then (spec_ReEnds.j0 k l s i true) else (spec_ReEnds.j0 k l s i (decide (i > (s.size : Int)))))) ?_ (fun k => if_neg (by omega))
      by_cases h0 : 0 ≤ i
      · refine Ev.congr (f := fun k => (spec_ReEnds.j0 k l s i (decide (i > (s.size : Int))))) ?_ (fun k => if_neg (by omega))
        by_cases h1 : i ≤ (s.size : Int)
        · rw [if_pos ⟨rfl, hs, h0, h1⟩, decide_eq_false (show ¬ i > (s.size : Int) by omega)]
          have hWB := okB_ways hF c
          have hends := l2ends_ev (waysOkB_ok hWB) hs i.toNat (by omega)
          rw [Int.toNat_of_nonneg h0] at hends
          refine Ev.succ (Ev.congr hends fun k => ?_)
          simp only [spec_ReEnds.j0]
          unfold spec_l2ways.f
          rw [if_neg (by decide), if_pos hWB, Option.bind_some]
          generalize spec_l2ends.f k ((allWays l).1.map toE) ((allWays l).2 : Int) l s i = o
          cases o <;> rfl
        · rw [if_neg (fun h => h1 h.2.2.2), decide_eq_true (show i > (s.size : Int) by omega)]
          exact hno
      · rw [if_neg (fun h => h0 h.2.2.1)]
        exact Ev.congr hno fun k => if_pos (by omega)
    · rw [if_neg (fun h => hs h.2.1)]
      exact Ev.congr hno fun k => if_pos (by omega)
  · rw [if_neg (fun h => c h.1)]
    exact Ev.congr hno fun k => if_neg c
theorem endsA_len (s : ByteArray) (i : Int) : (endsA l s i).length ≤ 501 := by
  unfold endsA
  split
  · rename_i h
    rw [nats_len]
    have := upto_len (meets l s (l.length - 1) i.toNat) (s.size + 1)
    unfold endsL
    omega
  · decide
end
end Go.Proofs.YtlakdfbfkbndiaaDoor.Q
namespace Go.Proofs.YtlakdfbfkbndiaaDoor.Q
open Go.RowKit Go.Proofs.YtlakdfbfkbndiaaDoor.Re Go.Proofs.YtlakdfbfkbndiaaDoorW.PrintWords Go.Proofs.YtlakdfbfkbndiaaDoorW.PrintLast Go.Proofs.YtlakdfbfkbndiaaDoorW.PrintMore
def marks (n : Nat) : List Int := (List.range n).map fun j : Nat => ((j : Int) + 1)
theorem marks_len (n : Nat) : (marks n).length = n := by unfold marks; simp
theorem marks_get {n i : Nat} (h : i < n) : (marks n)[i]? = some ((i : Int) + 1) := by unfold marks; simp [h]
theorem marks_l0 (ks : List Int) (hk : ks.length ≤ 1048576) : ∀ (d i k : Nat), i + d = ks.length → d < k → laws_markIntS.l0 k (marks i ++ ks.drop i) ((i : Int) + 1) (i : Int) = some ((ks.length : Int) + 1, marks ks.length)
  | 0, i, 0, _, h => absurd h (by omega)
  | 0, i, k + 1, hi, _ => by
    simp only [laws_markIntS.l0]
    have e : (marks i ++ ks.drop i).length = ks.length := by rw [List.length_append, marks_len, List.length_drop]; omega
    rw [e, if_neg (by omega)]
    obtain rfl : i = ks.length := by omega
    rw [List.drop_length, List.append_nil]
  | d + 1, i, 0, _, h => absurd h (by omega)
  | d + 1, i, k + 1, hi, h => by
    have hlt : i < ks.length := by omega
    have wi : wrap64 ((i : Int) + 1) = ((i + 1 : Nat) : Int) := by unfold wrap64; omega
    have wk : wrap64 ((i : Int) + 1 + 1) = ((i + 1 : Nat) : Int) + 1 := by unfold wrap64; omega
    have e : (marks i ++ ks.drop i).length = ks.length := by rw [List.length_append, marks_len, List.length_drop]; omega
    simp only [laws_markIntS.l0]
    rw [e, if_pos (by omega), if_pos (by omega), wi, wk, Int.toNat_natCast]
    have e2 : (marks i ++ ks.drop i).set i ((i : Int) + 1) = marks (i + 1) ++ ks.drop (i + 1) := by
      rw [List.set_append_right _ _ (by rw [marks_len]; exact Nat.le_refl _), marks_len, Nat.sub_self, List.drop_eq_getElem_cons hlt, List.set_cons_zero]
      unfold marks
      rw [List.range_succ, List.map_append, List.append_assoc]
      rfl
    rw [e2]
    exact marks_l0 ks hk d (i + 1) k (by omega) (by omega)
theorem held_l0 (n : Nat) (hn : n ≤ 1048576) : ∀ (d i k : Nat), i + d = n → d < k → laws_heldIntS.l0 k (marks n) ((i : Int) + 1) (i : Int) = some ((n : Int) + 1)
  | 0, i, 0, _, h => absurd h (by omega)
  | 0, i, k + 1, hi, _ => by
    simp only [laws_heldIntS.l0]
    rw [marks_len, if_neg (by omega)]
    congr 2; omega
  | d + 1, i, 0, _, h => absurd h (by omega)
  | d + 1, i, k + 1, hi, h => by
    have wi : wrap64 ((i : Int) + 1) = ((i + 1 : Nat) : Int) := by unfold wrap64; omega
    have wk : wrap64 ((i : Int) + 1 + 1) = ((i + 1 : Nat) : Int) + 1 := by unfold wrap64; omega
    have hr : rd (marks n) (i : Int) = (i : Int) + 1 := by
      unfold rd
      rw [Int.toNat_natCast, List.getD_eq_getElem?_getD, marks_get (by omega)]
      rfl
    simp only [laws_heldIntS.l0]
    rw [marks_len, if_pos (by omega), if_pos (by omega), hr, if_pos rfl, wi, wk]
    exact held_l0 n hn d (i + 1) k (by omega) (by omega)
theorem markI_pos : ∀ (n : Nat) (k : Int), 0 ≤ k → k + (n : Int) ≤ 4611686018427387904 → markIK n k = k + (n : Int)
  | 0, k, _, _ => by simp [markIK]
  | n + 1, k, h0, h => by
    unfold markIK
    have : wrap64 (k + 1) = k + 1 := by unfold wrap64; omega
    rw [this, markI_pos n (k + 1) (by omega) (by omega)]
    omega
theorem markN_pos : ∀ (L : List Nat) (k : Int), (∀ n, n ∈ L → n ≤ 1048576) → 0 ≤ k → k + (L.length : Int) * 2097152 ≤ 4611686018427387904 → 0 ≤ markNK L k
  | [], k, _, h0, _ => h0
  | n :: L, k, hL, h0, h => by
    have hn := hL n List.mem_cons_self
    rw [List.length_cons] at h
    have e1 : wrap64 (k + 1) = k + 1 := by unfold wrap64; omega
    have e2 : wrap64 (k + 1 + 1) = k + 2 := by unfold wrap64; omega
    have e3 : wrap64 (k + 2 + 1) = k + 3 := by unfold wrap64; omega
    unfold markNK
    rw [e1, e2, e3, markI_pos n (k + 3) (by omega) (by omega)]
    exact markN_pos L _ (fun m hm => hL m (List.mem_cons_of_mem _ hm)) (by omega) (by omega)
end Go.Proofs.YtlakdfbfkbndiaaDoor.Q
namespace Go.Proofs.YtlakdfbfkbndiaaDoor.Pure
open Go Go.RowKit Go.Proofs.YtlakdfbfkbndiaaDoor.Q Go.Proofs.YtlakdfbfkbndiaaDoorW.PrintWords Go.Proofs.YtlakdfbfkbndiaaDoorW.PrintLast Go.Proofs.YtlakdfbfkbndiaaDoorW.PrintMore
theorem FnExactReEnds (l0 : List S56) (a1 : ByteArray) (a2 : Int) (hm : l0.length ≤ maxLen) (hg : NodesOk l0) (_ : a1.size ≤ maxLen) : ∃ k, laws_FnExactReEnds.f k l0 a1 a2 = some true := by
  by_cases hs : (a1.size : Int) > 1048576
  · exact ⟨0, if_pos (.inl hs)⟩
  obtain ⟨z, ⟨K1, hz⟩, hr⟩ := sz_ev l0 (given l0 hm hg)
  by_cases hz0 : z < 0
  · exact ⟨K1, if_pos (.inr ⟨by omega, z, hz K1 (Nat.le_refl _), .inl hz0⟩)⟩
  rcases hr with hr | ⟨hl, hF⟩
  · exact absurd hr hz0
  obtain ⟨K2, h2⟩ := toNodes_ev hl hF
  obtain ⟨K3, h3⟩ := specEnds_ev hF a1 a2
  obtain ⟨K4, h4⟩ := eqNodes_ev (by rw [List.length_map]; exact hl) hF
  have hlen := endsA_len (l := l0.map conv) a1 a2
  generalize hr : endsA (l0.map conv) a1 a2 = r at *
  refine ⟨K1 + K2 + K3 + K4 + 1000, if_pos (.inr ⟨by omega, z, hz _ (by omega), .inr ⟨by omega, l0.map conv, r, marks r.length, markNK ((l0.map conv).map fun x => x.f3.length) 1, (r.length : Int) + 1, h2 _ (by omega), h3 _ (by omega), ?_, ?_, h4 _ (by omega), ?_, ?_, ?_, ?_, by omega⟩⟩)⟩
  · rw [implEnds_eq hF, hr]
  · unfold laws_eqIntS.f
    rw [if_pos rfl]
    exact eqInts_l0 r (by omega) r.length 0 _ (by omega) (by omega)
  · unfold laws_markReNodeS.f
    rw [if_pos]
    refine ⟨by rw [List.length_map]; exact hl, fun x hx => ?_, by omega, by omega⟩
    obtain ⟨i, hi, rfl⟩ := List.getElem_of_mem hx
    have := hF.kids i hi
    unfold nodeAt at this
    unfold rd_T49 at this
    rw [Int.toNat_natCast, List.getD_eq_getElem?_getD, List.getElem?_eq_getElem hi] at this
    exact this
  · refine markN_pos _ 1 (fun n hn => ?_) (by omega) (by rw [List.length_map, List.length_map]; omega)
    obtain ⟨x, hx, rfl⟩ := List.mem_map.mp hn
    obtain ⟨i, hi, rfl⟩ := List.getElem_of_mem hx
    have := hF.kids i hi
    unfold nodeAt at this
    unfold rd_T49 at this
    rw [Int.toNat_natCast, List.getD_eq_getElem?_getD, List.getElem?_eq_getElem hi] at this
    exact this
  · have := marks_l0 r (by omega) r.length 0 (K1 + K2 + K3 + K4 + 1000) (by omega) (by omega)
    exact this
  · exact held_l0 r.length (by omega) r.length 0 _ (by omega) (by omega)
end Go.Proofs.YtlakdfbfkbndiaaDoor.Pure
namespace Go.Proofs.YtlakdfbfkbndiaaDoor.fnExactReEnds
open Go.ChangeShapes Go.WideShapes Go.ChangeAt Go.RowKit
open Go.ChangeMaps (open_string shut_string)
open Go.Lib
open Go.Proofs.YtlakdfbfkbndiaaDoorW.PrintWords
set_option linter.unusedVariables false
theorem own : ownKnob Tryd.prog.godebug = none := by kernel_rfl
theorem laidOut : laidOutB Tryd.prog = true := by kernel_rfl
theorem one3 : Q.Opens Tryd.prog 3 (Kd.int .i64) (fun x => Q.okInt .i64 x) := (Q.open_int_ok Tryd.underlying3 (by kernel_rfl))
theorem one4 : Q.Opens Tryd.prog 4 Kd.bool (fun x => Q.okBool x) := (Q.open_bool_ok Tryd.underlying4 (by kernel_rfl))
theorem one9 : Q.Opens Tryd.prog 9 Kd.string (fun x => Q.okStr x) := (Q.open_str_ok Tryd.underlying9 (by kernel_rfl))
theorem one31 : Q.Opens Tryd.prog 31 (Kd.slice 3 (Kd.int .i64)) (fun x => (x.length ≤ maxLen ∧ ∀ b_ ∈ x, Q.okInt .i64 b_)) := (Q.opens_slice Tryd.underlying31 (by kernel_rfl) one3)
theorem opens56 : Q.Opens Tryd.prog 56 Q.k56 (fun x => (Q.okInt .i64 x.f0 ∧ (Q.okBool x.f1 ∧ (Q.okStr x.f2 ∧ (x.f3.length ≤ maxLen ∧ ∀ b_ ∈ x.f3, Q.okInt .i64 b_))))) := by
  refine Q.opens_struct (good := fun p : Int × Bool × ByteArray × List Int => (Q.okInt .i64 p.1 ∧ (Q.okBool p.2.1 ∧ (Q.okStr p.2.2.1 ∧ (p.2.2.2.length ≤ maxLen ∧ ∀ b_ ∈ p.2.2.2, Q.okInt .i64 b_))))) (fun x : Q.S56 => (x.f0, x.f1, x.f2, x.f3)) (fun p => ⟨p.1, p.2.1, p.2.2.1, p.2.2.2⟩) (fun _ => rfl) Tryd.underlying56 ?_ ?_ ?_ ?_
  · kernel_rfl
  · kernel_rfl
  · rfl
  · refine Q.opensF_cons (good := fun p : Int => Q.okInt .i64 p) (good' := fun p : Bool × ByteArray × List Int => (Q.okBool p.1 ∧ (Q.okStr p.2.1 ∧ (p.2.2.length ≤ maxLen ∧ ∀ b_ ∈ p.2.2, Q.okInt .i64 b_)))) one3 ?_
    refine Q.opensF_cons (good := fun p : Bool => Q.okBool p) (good' := fun p : ByteArray × List Int => (Q.okStr p.1 ∧ (p.2.length ≤ maxLen ∧ ∀ b_ ∈ p.2, Q.okInt .i64 b_))) one4 ?_
    refine Q.opensF_cons (good := fun p : ByteArray => Q.okStr p) (good' := fun p : List Int => (p.length ≤ maxLen ∧ ∀ b_ ∈ p, Q.okInt .i64 b_)) one9 ?_
    exact Q.opensF_one one31
set_option maxRecDepth 100000 in
theorem lifted (os : Os) (started : os.Started) (H : Type) (enc : TypeId × Value → H) :
    ReturnsInHanded {} Tryd.checked os 5 .any (fun w args => (Rows.fnExactReEndsSpec.pre enc Tryd.prog Tryd.f5 [] false w args ∧ laidMetH Tryd.prog Rows.fnExactReEndsRow.laid w) ∧ sizedMet enc Tryd.prog Tryd.f5 (OpenSpec.ofChange Rows.fnExactReEndsSpec) false w args)
      (Rows.fnExactReEndsSpec.post enc Tryd.prog Tryd.f5 false true false false) := by
  refine returnsInHanded_of_change_and_shaped_ytlakdfbfkbndiaadoor (C := Tryd.checked) (X := fun w _ => laidMetH Tryd.prog Rows.fnExactReEndsRow.laid w) (fun _ _ _ hh h => h.of_heap hh) own started (by kernel_rfl) Tryd.func5
    (ChangeSpec.witness_shaped (enc := enc) (C := Tryd.checked) (os := os) (X := fun w _ => laidMetH Tryd.prog Rows.fnExactReEndsRow.laid w) false (World.laidAll Tryd.prog os Rows.fnExactReEndsRow.laid) #[.slice none 0 0, .string ByteArray.empty, .int .i64 0] 8 (World.laidAll_os _ _ _)
      (World.shaped_of_ZipB (by kernel_rfl) (by kernel_rfl)) (by kernel_rfl) (by kernel_rfl) (by kernel_rfl)
      (by rw [MakeChecks.laidMetH_plain _ _ _ (by kernel_rfl)]; exact laidMet_laidAll _ (by kernel_rfl) (by kernel_rfl))) ?_
  intro W base args ds gs before hval0 hW hcnd hsz0 hL hS _
  have hsz : (DataW.weightsEach Tryd.prog (Tryd.f5.params.toList ++ Rows.fnExactReEndsSpec.plain.varTypes Tryd.prog) (ds ++ gs)).all (· ≤ reachBytes) = true := hsz0
  have hval : ∀ (j : Nat) t v, Tryd.f5.params[j]? = some t → args[j]? = some v → Value.okWide Tryd.prog W .any base t v := hval0
  have hW' := hW
  obtain ⟨p, q, hA0, hV, rfl, hfz, hnd⟩ := hW
  have hA : DataW.TrodAll enc Tryd.prog W 0 (fun _ => true) true Tryd.f5.params.toList args.toList ds p := hA0
  rw [Tryd.params5] at hA hval hsz
  obtain ⟨v0, vs0, d0, ds0, p0, q0, hargs, rfl, rfl, h0, r0⟩ := trodAll_cons hA
  obtain ⟨v1, vs1, d1, ds1, p1, q1, rfl, rfl, rfl, h1, r1⟩ := trodAll_cons r0
  obtain ⟨v2, vs2, d2, ds2, p2, q2, rfl, rfl, rfl, h2, r2⟩ := trodAll_cons r1
  obtain ⟨rfl, rfl, rfl⟩ := trodAll_nil r2
  obtain rfl : args = #[v0, v1, v2] := by cases args; simp_all
  obtain ⟨rfl, rfl⟩ := trodVars_none hV
  have k0 := h0
  have lt0 : ∀ x ∈ p0, x.block < W.heap.size := by obtain ⟨m, hm⟩ := k0; exact DataW.trod_lt m _ _ _ hm
  obtain ⟨a0, len0, cap0, rfl⟩ := okWide_slice Tryd.underlying22 (hval 0 22 v0 rfl rfl)
  obtain ⟨f0, hf0⟩ := h0
  obtain ⟨A0, c0, l0, e0, hl0, hC0, hm0, hg0⟩ := Q.slice_reads Tryd.underlying22 opens56 hf0
  simp [Value.cells] at e0
  obtain ⟨rfl, rfl, rfl⟩ := e0
  have k1 := h1
  have lt1 : ∀ x ∈ p1, x.block < W.heap.size := by obtain ⟨m, hm⟩ := k1; exact DataW.trod_lt m _ _ _ hm
  obtain ⟨a1, rfl⟩ := okWide_string Tryd.underlying9 (hval 1 9 v1 rfl rfl)
  have m1 : a1.size ≤ maxLen := by
    obtain ⟨fuel, hf⟩ := h1
    obtain ⟨s_, e_, _, hs_⟩ := DataW.trod_string Tryd.underlying9 hf
    simp [Value.cells] at e_
    rw [e_]; exact hs_
  have k2 := h2
  have lt2 : ∀ x ∈ p2, x.block < W.heap.size := by obtain ⟨m, hm⟩ := k2; exact DataW.trod_lt m _ _ _ hm
  obtain ⟨a2, rfl⟩ := okWide_int Tryd.underlying3 (hval 2 3 v2 rfl rfl)
  clear hA0 hval0 hsz0 hsz
  rw [MakeChecks.laidMetH_plain _ _ _ (by kernel_rfl)] at hL
  have hTabs : Q.Tabs W := Q.tabs_of_laid hL (.head _) hS
  obtain ⟨k, hk⟩ := Pure.FnExactReEnds l0 a1 a2 hm0 hg0 m1
  refine (Q.laws_FnExactReEnds.calls k _ _ l0 a1 a2 true W hC0 hl0 hk hTabs).mono fun e W' ⟨he, bel⟩ => ?_
  subst he
  exact ⟨_, rfl, _, _, _, [], _, [], hW', trodAll_mk1 (shut_bool Tryd.underlying4 _), (trodAll_cons_mk (Below.trod laidOut (by kernel_rfl) (of_decide_eq_true (by kernel_rfl)) k0 bel lt0) (trodAll_cons_mk (Below.trod laidOut (by kernel_rfl) (of_decide_eq_true (by kernel_rfl)) k1 bel lt1) (trodAll_cons_mk (Below.trod laidOut (by kernel_rfl) (of_decide_eq_true (by kernel_rfl)) k2 bel lt2) trodAll_mk0))), rfl, bel.frame _, fun h => by cases h⟩
theorem over : Rows.fnExactReEndsRow.holds Tryd.pinned (OpenSpec.ofChange Rows.fnExactReEndsSpec) :=
  OpenClaim.holds_of_wide 5 Tryd.f5 rfl rfl rfl rfl rfl rfl rfl ⟨rfl, rfl, rfl, rfl, rfl⟩ rfl rfl rfl rfl rfl (by kernel_rfl) Tryd.func5 (by kernel_rfl)
    (of_decide_eq_true (by kernel_rfl)) (by unfold Func.isWrapper; first | (rw [if_pos (by decide +kernel)]; kernel_rfl) | (rw [if_neg (by decide +kernel)]; exact ⟨rfl, rfl⟩))
    (fun os started H enc _ => lifted os started H enc)
theorem proved : Rows.FnExactReEndsCardSaid :=
  Claim7.holds_tied_plain_at .later [] [.data] true (true, "653ba40917454f3c57c45bf7bd6e7a755b8c14dc4c6435c6eceb616f191040d8") false over (fun _ h => by cases h) (by kernel_rfl) (fun _ h => by cases h) fnExactReEnds_row_tie rfl ⟨rfl, rfl⟩ (by kernel_rfl) rfl
    (fun f fn hf hfn => by
      obtain rfl : f = 5 := Option.some.inj ((show Tryd.prog.funcNamed Rows.fnExactReEndsRow.func = some 5 by kernel_rfl).symm.trans hf) |>.symm
      obtain rfl : fn = Tryd.f5 := (Option.some.inj (Tryd.func5.symm.trans hfn)).symm
      exact ⟨by kernel_rfl, fun j t ht => by
        rw [Tryd.params5] at ht
        have hm : t ∈ [22, 9, 3] := by simpa using Array.mem_of_getElem? ht
        have hall : ([22, 9, 3].all fun u => !Tryd.prog.wantsStandIn u) = true := by kernel_rfl
        exact (show Tryd.prog.wantsStandIn t = false by simpa using List.all_eq_true.1 hall t hm)⟩)
    (by kernel_rfl)
#print axioms proved
end Go.Proofs.YtlakdfbfkbndiaaDoor.fnExactReEnds
namespace Go.Proofs.YtlakdfbfkbndiaaDoor
theorem fnExactReEnds_holds : Rows.FnExactReEndsCardSaid := fnExactReEnds.proved
end Go.Proofs.YtlakdfbfkbndiaaDoor
