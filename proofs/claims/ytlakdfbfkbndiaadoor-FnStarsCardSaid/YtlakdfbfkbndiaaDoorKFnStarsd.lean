/- What the row of FnStars rests on, and the row: for every input that can be read the call returns true and the input reads as it did; condition: what the row lists of the library reads as the program lays it. -/
import Derived.Test.YtlakdfbfkbndiaaDoorKFnStarsc
set_option linter.unusedVariables false
set_option linter.unusedSimpArgs false
set_option linter.unusedSectionVars false
namespace Go.Proofs.YtlakdfbfkbndiaaDoor.Re
theorem Closed.congr {P : Pat} {E : List Way} {I J : Nat → Nat → Prop} {n : Nat} (hu : Under E n) (hij : ∀ q,q < n → J q = I q) (h : Closed P E I) : Closed P E J:=fun e he i j hi hs=>by
 have u:=hu e he
 rw [hij _ (by omega)] at hi
 rw [hij _ (by omega)]
 exact h e he i j hi hs
inductive Reach (P : Pat) (E : List Way) (s0 i0 : Nat) : Nat → Nat → Prop
 | base : Reach P E s0 i0 s0 i0
 | step {e : Way} {i j : Nat} : e ∈ E → Reach P E s0 i0 e.1.toNat i → stp P e i j → Reach P E s0 i0 e.2.1.toNat j
theorem Reach.closed (P : Pat) (E : List Way) (s0 i0 : Nat) : Closed P E (Reach P E s0 i0):=fun _ he _ _ hi hs=>.step he hi hs
structure IsSet (ws : Nat → Nat) (S : Nat → Prop) : Prop where
 lt : ∀ b,b < 8 → ws b < 18446744073709551616
 bit : ∀ b t,b < 8 → t < 64 → ((ws b).testBit t = true ↔ S (64 * b + t))
theorem IsSet.empty : IsSet (fun _=>0) (fun _=>False):=⟨fun _ _=>by decide,fun b t _ _=>by simp⟩
theorem IsSet.congr {ws : Nat → Nat} {S T : Nat → Prop} (h : IsSet ws S) (e : ∀ j,j < 512 → (S j ↔ T j)) : IsSet ws T :=
 ⟨h.lt,fun b t hb ht=>(h.bit b t hb ht).trans (e _ (by omega))⟩
theorem IsSet.congrW {ws vs : Nat → Nat} {S : Nat → Prop} (h : IsSet ws S) (e : ∀ b,b < 8 → vs b = ws b) : IsSet vs S :=
 ⟨fun b hb=>by rw [e b hb];exact h.lt b hb,fun b t hb ht=>by rw [e b hb];exact h.bit b t hb ht⟩
theorem or_lt64 {a b : Nat} (ha : a < 18446744073709551616) (hb : b < 18446744073709551616) : a ||| b < 18446744073709551616 :=
 Nat.or_lt_two_pow (n:=64) ha hb
theorem IsSet.add {ws : Nat → Nat} {S : Nat → Prop} (h : IsSet ws S) (b t : Nat) (hb : b < 8) (ht : t < 64) :
  IsSet (fun x=>if x = b then ws b ||| 2 ^ t else ws x) (fun j=>S j ∨ j = 64 * b + t) where
 lt:=fun x hx=>by
  split
  ·exact or_lt64 (h.lt b hb) (Nat.pow_lt_pow_right (a:=2) (by omega) ht)
  ·exact h.lt x hx
 bit:=fun x u hx hu=>by
  split
  ·rename_i e
   subst e
   rw [Nat.testBit_or,Bool.or_eq_true,h.bit x u hx hu,Nat.testBit_two_pow]
   simp only [decide_eq_true_eq]
   constructor
   ·rintro (h1|h1)
    ·exact .inl h1
    ·exact .inr (by omega)
   ·rintro (h1|h1)
    ·exact .inl h1
    ·exact .inr (by omega)
  ·rename_i e
   rw [h.bit x u hx hu]
   constructor
   ·exact .inl
   ·rintro (h1|h1)
    ·exact h1
    ·exact absurd h1 (by omega)
theorem IsSet.or {ws vs : Nat → Nat} {S T : Nat → Prop} (h : IsSet ws S) (g : IsSet vs T) : IsSet (fun x=>ws x ||| vs x) (fun j=>S j ∨ T j) where
 lt:=fun x hx=>or_lt64 (h.lt x hx) (g.lt x hx)
 bit:=fun x u hx hu=>by
  rw [Nat.testBit_or,Bool.or_eq_true,h.bit x u hx hu,g.bit x u hx hu]
theorem IsSet.has {ws : Nat → Nat} {S : Nat → Prop} (h : IsSet ws S) (b t : Nat) (hb : b < 8) (ht : t < 64) : (ws b / 2 ^ t % 2 = 1 ↔ S (64 * b + t)):=by
 rw [← h.bit b t hb ht,Nat.testBit_eq_decide_div_mod_eq]
 simp
noncomputable def upto (S : Nat → Prop) (n : Nat) : List Nat:=(List.range n).filter fun j=>@decide (S j) (Classical.propDecidable _)
theorem mem_upto {S : Nat → Prop} {n j : Nat} : j ∈ upto S n ↔ j < n ∧ S j:=by
 unfold upto
 simp
theorem upto_succ_pos (S : Nat → Prop) (n : Nat) (h : S n) : upto S (n + 1) = upto S n ++ [n]:=by
 unfold upto
 rw [List.range_succ,List.filter_append]
 simp [h]
theorem upto_succ_neg (S : Nat → Prop) (n : Nat) (h : ¬ S n) : upto S (n + 1) = upto S n:=by
 unfold upto
 rw [List.range_succ,List.filter_append]
 simp [h]
theorem upto_gap (S : Nat → Prop) (n : Nat) : ∀ d,(∀ j,n ≤ j → j < n + d → ¬ S j) → upto S (n + d) = upto S n
 | 0,_=>rfl
 | d + 1,h=>by
  rw [show n + (d + 1) = (n + d) + 1 from rfl,upto_succ_neg S _ (h _ (by omega) (by omega))]
  exact upto_gap S n d fun j h1 h2=>h j h1 (by omega)
theorem upto_len (S : Nat → Prop) (n : Nat) : (upto S n).length ≤ n:=by
 unfold upto
 refine Nat.le_trans (List.length_filter_le _ _) (by simp)
structure Rest (w w0 t : Nat) : Prop where
 bit : ∀ u,w.testBit u = (w0.testBit u && decide (t ≤ u))
 lt : w < 18446744073709551616
theorem Rest.start (w : Nat) (h : w < 18446744073709551616) : Rest w w 0:=⟨fun u=>by simp,h⟩
theorem low_bits (k m : Nat) : (2 ^ k * (2 * m + 1)).testBit k = true ∧ ∀ u,u < k → (2 ^ k * (2 * m + 1)).testBit u = false:=by
 constructor
 ·rw [Nat.testBit_two_pow_mul]
  simp
 ·intro u hu
  rw [Nat.testBit_two_pow_mul]
  simp;omega
theorem and_pred (k m : Nat) (u : Nat) : ((2 ^ k * (2 * m + 1)) &&& (2 ^ k * (2 * m + 1) - 1)).testBit u = ((2 ^ k * (2 * m + 1)).testBit u && decide (u ≠ k)):=by
 have e : 2 ^ k * (2 * m + 1) - 1 = 2 ^ k * (2 * m) + (2 ^ k - 1):=by
  have:=Nat.two_pow_pos k
  rw [Nat.mul_add,Nat.mul_one];omega
 have hlt : 2 ^ k - 1 < 2 ^ k:=by have:=Nat.two_pow_pos k;omega
 rw [Nat.testBit_and,e,Nat.testBit_two_pow_mul_add _ hlt,Nat.testBit_two_pow_mul]
 by_cases h1 : u < k
 ·have h1' : ¬ k ≤ u:=by omega
  simp [h1,h1']
 ·by_cases h2 : u = k
  ·subst h2
   simp
  ·obtain ⟨d,rfl⟩ : ∃ d,u = k + (d + 1):=⟨u - k - 1,by omega⟩
   have e3 : k + (d + 1) - k = d + 1:=by omega
   simp only [e3,Nat.testBit_succ]
   have d1 : (2 * m + 1) / 2 = m:=by omega
   have d2 : 2 * m / 2 = m:=by omega
   rw [d1,d2]
   have n1 : ¬ k + (d + 1) < k:=by omega
   have n2 : k ≤ k + (d + 1):=by omega
   have n3 : k + (d + 1) ≠ k:=by omega
   simp [n1,n2,n3]
theorem Rest.next {w w0 t : Nat} (h : Rest w w0 t) (hw : w ≠ 0) : ∃ u,Lib.ctz 64 w = u ∧ t ≤ u ∧ u < 64 ∧ w0.testBit u = true ∧ (∀ v,t ≤ v → v < u → w0.testBit v = false) ∧ Rest (w &&& (w - 1)) w0 (u + 1):=by
 obtain ⟨m,hm,hk⟩:=Lib.ctzFrom_spec 64 w (by omega) h.lt
 have e : Lib.ctz 64 w = Lib.ctzFrom 64 w:=by simp [Lib.ctz,hw]
 generalize Lib.ctzFrom 64 w = k at *
 obtain ⟨l1,l2⟩:=low_bits k m
 rw [← hm] at l1 l2
 have b:=h.bit k
 rw [l1] at b
 have b:=b.symm
 rw [Bool.and_eq_true,decide_eq_true_eq] at b
 refine ⟨k,e,b.2,hk,b.1,fun v h1 h2=>?_,fun u=>?_,?_⟩
 ·have:=l2 v h2
  rw [h.bit v] at this
  simpa [h1] using this
 ·rw [hm,and_pred k m u,← hm,h.bit u,Bool.and_assoc]
  by_cases h3 : w0.testBit u = true
  ·rw [h3,Bool.true_and,Bool.true_and,Bool.eq_iff_iff,Bool.and_eq_true,decide_eq_true_eq,decide_eq_true_eq,decide_eq_true_eq]
   by_cases h4 : u < k
   ·have h5:=l2 u h4
    rw [h.bit u,h3,Bool.true_and,decide_eq_false_iff_not] at h5
    omega
   ·omega
  ·have h3 : w0.testBit u = false:=by simpa using h3
   rw [h3];simp
 ·exact Nat.lt_of_le_of_lt Nat.and_le_left h.lt
theorem Rest.done {w0 t : Nat} (h : Rest 0 w0 t) : ∀ u,t ≤ u → w0.testBit u = false:=fun u hu=>by
 have:=h.bit u
 simp [hu] at this
 simpa using this.symm
theorem upto_next {ws : Nat → Nat} {S : Nat → Prop} (h : IsSet ws S) (b t u : Nat) (hb : b < 8) (ht : t ≤ u) (hu : u < 64) (h1 : (ws b).testBit u = true) (h2 : ∀ v,t ≤ v → v < u → (ws b).testBit v = false) : upto S (64 * b + (u + 1)) = upto S (64 * b + t) ++ [64 * b + u]:=by
 rw [show 64 * b + (u + 1) = (64 * b + u) + 1 from rfl,upto_succ_pos S _ ((h.bit b u hb hu).mp h1)]
 congr 1
 obtain ⟨d,rfl⟩ : ∃ d,u = t + d:=⟨u - t,by omega⟩
 rw [← Nat.add_assoc]
 refine upto_gap S _ d fun j hj1 hj2=>?_
 obtain ⟨v,rfl⟩ : ∃ v,j = 64 * b + v:=⟨j - 64 * b,by omega⟩
 rw [← h.bit b v hb (by omega),h2 v (by omega) (by omega)]
 simp
theorem upto_last {ws : Nat → Nat} {S : Nat → Prop} (h : IsSet ws S) (b t : Nat) (hb : b < 8) (ht : t ≤ 64) (h2 : ∀ v,t ≤ v → (ws b).testBit v = false) : upto S (64 * (b + 1)) = upto S (64 * b + t):=by
 obtain ⟨d,hd⟩ : ∃ d,64 = t + d:=⟨64 - t,by omega⟩
 rw [show 64 * (b + 1) = 64 * b + t + d by omega]
 refine upto_gap S _ d fun j hj1 hj2=>?_
 obtain ⟨v,rfl⟩ : ∃ v,j = 64 * b + v:=⟨j - 64 * b,by omega⟩
 rw [← h.bit b v hb (by omega),h2 v (by omega)]
 simp
structure Queue (R : Rel) (i0 n : Nat) (Q : List Nat) (i : Nat) : Prop where
 nd : Q.Nodup
 lt : ∀ q,q ∈ Q → q < n
 met : ∀ q,q ∈ Q → Plus R i0 q
 first : ∀ x,R i0 x → x ∈ Q
 closed : ∀ k,k < i → ∀ x,R (Q.getD k 0) x → x ∈ Q
def ext (Q : List Nat) (l : List Nat) : List Nat:=l.foldl (fun Q x=>if x ∈ Q then Q else Q ++ [x]) Q
theorem ext_snoc (Q l : List Nat) (x : Nat) : ext Q (l ++ [x]) = if x ∈ ext Q l then ext Q l else ext Q l ++ [x]:=by
 unfold ext
 rw [List.foldl_append];rfl
theorem ext_mem : ∀ (l Q : List Nat) (x : Nat),x ∈ ext Q l ↔ x ∈ Q ∨ x ∈ l
 | [],Q,x=>by simp [ext]
 | y :: l,Q,x=>by
  show x ∈ ext (if y ∈ Q then Q else Q ++ [y]) l ↔ _
  rw [ext_mem l _ x]
  split
  ·rename_i h
   constructor
   ·rintro (h1|h1)
    ·exact .inl h1
    ·exact .inr (List.mem_cons_of_mem _ h1)
   ·rintro (h1|h1)
    ·exact .inl h1
    ·rcases List.mem_cons.mp h1 with rfl|h2
     ·exact .inl h
     ·exact .inr h2
  ·simp [or_assoc]
theorem ext_nodup : ∀ (l Q : List Nat),Q.Nodup → (ext Q l).Nodup
 | [],_,h=>h
 | y :: l,Q,h=>by
  show (ext (if y ∈ Q then Q else Q ++ [y]) l).Nodup
  refine ext_nodup l _ ?_
  split
  ·exact h
  ·rename_i hy
   rw [List.nodup_append]
   refine ⟨h,by simp,fun a ha b hb=>?_⟩
   have : b = y:=by simpa using hb
   subst this
   intro e;subst e;exact hy ha
theorem ext_head : ∀ (l Q : List Nat),∃ m,ext Q l = Q ++ m
 | [],Q=>⟨[],by simp [ext]⟩
 | y :: l,Q=>by
  show ∃ m,ext (if y ∈ Q then Q else Q ++ [y]) l = Q ++ m
  obtain ⟨m,hm⟩:=ext_head l (if y ∈ Q then Q else Q ++ [y])
  rw [hm]
  split
  ·exact ⟨m,rfl⟩
  ·exact ⟨[y] ++ m,by simp⟩
theorem Queue.start {R : Rel} {i0 n : Nat} (hR : ∀ x,R i0 x → x < n) : Queue R i0 n (upto (R i0) n) 0 where
 nd:=List.nodup_range.filter _
 lt:=fun q hq=>(mem_upto.mp hq).1
 met:=fun q hq=>⟨i0,.refl i0,(mem_upto.mp hq).2⟩
 first:=fun x hx=>mem_upto.mpr ⟨hR x hx,hx⟩
 closed:=fun k hk=>absurd hk (by omega)
theorem Queue.step {R : Rel} {i0 n i : Nat} {Q : List Nat} (h : Queue R i0 n Q i) (hi : i < Q.length) (hR : ∀ q x,q < n → R q x → x < n) : Queue R i0 n (ext Q (upto (R (Q.getD i 0)) n)) (i + 1):=by
 have hq : Q.getD i 0 ∈ Q:=by
  rw [List.getD_eq_getElem?_getD,List.getElem?_eq_getElem hi];simp
 have hlt:=h.lt _ hq
 obtain ⟨m,hm⟩:=ext_head (upto (R (Q.getD i 0)) n) Q
 refine ⟨ext_nodup _ _ h.nd,fun q hq'=>?_,fun q hq'=>?_,fun x hx=>(ext_mem _ _ _).mpr (.inl (h.first x hx)),fun k hk x hx=>?_⟩
 ·rcases (ext_mem _ _ _).mp hq' with h1|h1
  ·exact h.lt q h1
  ·exact (mem_upto.mp h1).1
 ·rcases (ext_mem _ _ _).mp hq' with h1|h1
  ·exact h.met q h1
  ·obtain ⟨p,hs,hr⟩:=h.met _ hq
   exact ⟨_,.tail hs hr,(mem_upto.mp h1).2⟩
 ·have hk2 : (ext Q (upto (R (Q.getD i 0)) n)).getD k 0 = Q.getD k 0:=by
   rw [hm,List.getD_eq_getElem?_getD,List.getD_eq_getElem?_getD,List.getElem?_append_left (by omega)]
  rw [hk2] at hx
  rw [ext_mem]
  by_cases e : k = i
  ·subst e
   exact .inr (mem_upto.mpr ⟨hR _ _ hlt hx,hx⟩)
  ·exact .inl (h.closed k (by omega) x hx)
theorem nodup_len : ∀ (n : Nat) (Q : List Nat),Q.Nodup → (∀ q,q ∈ Q → q < n) → Q.length ≤ n
 | 0,[],_,_=>Nat.le_refl _
 | 0,q :: _,_,h=>absurd (h q (by simp)) (by omega)
 | n + 1,Q,hd,h=>by
  by_cases hm : n ∈ Q
  ·have h1:=nodup_len n (Q.erase n) (hd.erase n) (fun q hq=>by
    have h2:=(hd.mem_erase_iff).mp hq
    have h3:=h q h2.2
    have h4:=h2.1
    omega)
   rw [List.length_erase_of_mem hm] at h1
   omega
  ·have h1:=nodup_len n Q hd (fun q hq=>by
    have h3:=h q hq
    have h4 : q ≠ n:=fun e=>hm (e ▸ hq)
    omega)
   omega
theorem Queue.len {R : Rel} {i0 n i : Nat} {Q : List Nat} (h : Queue R i0 n Q i) : Q.length ≤ n:=nodup_len n Q h.nd h.lt
theorem Queue.done {R : Rel} {i0 n : Nat} {Q : List Nat} (h : Queue R i0 n Q Q.length) (x : Nat) : x ∈ Q ↔ Plus R i0 x:=by
 constructor
 ·exact h.met x
 ·have key : ∀ y,Star R i0 y → ∀ z,R y z → z ∈ Q:=fun y hs=>by
   induction hs with
   | refl=>exact h.first
   | tail hs hr ih =>
    intro z hz
    have hy:=ih _ hr
    obtain ⟨k,hk,he⟩:=List.getElem_of_mem hy
    refine h.closed k hk z ?_
    rw [List.getD_eq_getElem?_getD,List.getElem?_eq_getElem hk,he]
    exact hz
  rintro ⟨m,hs,hr⟩
  exact key m hs x hr
theorem plus_star {R : Rel} {i j : Nat} : Star R i j ↔ Plus R i j ∨ j = i:=by
 constructor
 ·intro h
  cases h with
  | refl=>exact .inr rfl
  | tail hs hr=>exact .inl ⟨_,hs,hr⟩
 ·rintro (⟨m,hs,hr⟩|e)
  ·exact .tail hs hr
  ·subst e;exact .refl _
theorem seqR_snoc (l : List Rel) (R : Rel) (i j : Nat) : seqR (l ++ [R]) i j ↔ ∃ m,seqR l i m ∧ R m j:=by
 induction l generalizing i with
 | nil =>
  simp only [List.nil_append,seqR]
  constructor
  ·rintro ⟨m,h,e⟩;subst e;exact ⟨i,rfl,h⟩
  ·rintro ⟨m,e,h⟩;subst e;exact ⟨j,h,rfl⟩
 | cons A l ih =>
  simp only [List.cons_append,seqR]
  constructor
  ·rintro ⟨m,h,g⟩
   obtain ⟨p,g1,g2⟩:=(ih m).mp g
   exact ⟨p,⟨m,h,g1⟩,g2⟩
  ·rintro ⟨p,⟨m,h,g1⟩,g2⟩
   exact ⟨m,h,(ih m).mpr ⟨p,g1,g2⟩⟩
end Go.Proofs.YtlakdfbfkbndiaaDoor.Re
namespace Go.Proofs.YtlakdfbfkbndiaaDoor.Q
open Go.RowKit Go.Proofs.YtlakdfbfkbndiaaDoor.Re Go.Proofs.YtlakdfbfkbndiaaDoorW.PrintWords Go.Proofs.YtlakdfbfkbndiaaDoorW.PrintLast Go.Proofs.YtlakdfbfkbndiaaDoorW.PrintMore
theorem bt_nat {s : ByteArray} {j : Nat} (h : j < s.size) : bt s (j : Int) = (s[j].toNat : Int):=by
 unfold bt
 rw [dif_pos (by simpa using h)]
 simp
def inFrom (s : ByteArray) (neg : Bool) (c : Int) : Nat → Nat → Bool
 | 0,_=>neg
 | k + 1,i=>if bt s i ≤ c ∧ c ≤ bt s (i + 1 : Nat) then !neg else inFrom s neg c k (i + 2)
def inS (n : S49) (c : Int) : Bool:=inFrom n.f2 n.f1 c (n.f2.size / 2) 0
def nodeAt (l : List S49) (n : Nat) : S49:=rd_T49 l n
def leafR (x : S49) (s : ByteArray) : Rel:=fun i j =>
 if x.f0 = 0 then i < s.size ∧ inS x (bt s i) = true ∧ j = i + 1 else if x.f0 = 1 then i = 0 ∧ j = 0 else i = s.size ∧ j = i
def patOf (l : List S49) (s : ByteArray) : Pat where
 kd n:=(nodeAt l n).f0.toNat
 ks n:=(nodeAt l n).f3.map Int.toNat
 st n:=leafR (nodeAt l n) s
structure Valid (l : List S49) : Prop where
 pos : 1 ≤ l.length
 len : l.length ≤ 200
 kd : ∀ n,n < l.length → 0 ≤ (nodeAt l n).f0 ∧ (nodeAt l n).f0 ≤ 7
 kid : ∀ n,n < l.length → ∀ k,k ∈ (nodeAt l n).f3 → 0 ≤ k ∧ k < n
 one : ∀ n,n < l.length → 5 ≤ (nodeAt l n).f0 → ∃ k,(nodeAt l n).f3 = [k]
 two : ∀ n,n < l.length → (nodeAt l n).f0 = 3 → (nodeAt l n).f3 ≠ []
 even : ∀ n,n < l.length → (nodeAt l n).f0 = 0 → (nodeAt l n).f2.size % 2 = 0
 txt : ∀ n,n < l.length → (nodeAt l n).f2.size ≤ 1099511627776
theorem Valid.wf {l : List S49} (h : Valid l) (s : ByteArray) : WF (patOf l s) l.length where
 lt:=fun n hn k hk=>by
  obtain ⟨z,hz,rfl⟩:=List.mem_map.mp hk
  have:=h.kid n hn z hz
  omega
 one:=fun n hn h5=>by
  have h5 : 5 ≤ (nodeAt l n).f0.toNat:=h5
  obtain ⟨k,hk⟩:=h.one n hn (by omega)
  exact ⟨k.toNat,by show (nodeAt l n).f3.map Int.toNat = _;rw [hk];rfl⟩
def meets (l : List S49) (s : ByteArray) (n : Nat) : Rel:=den (patOf l s) l.length n
def kidsR (l : List S49) (s : ByteArray) (n : Nat) : List Rel:=(nodeAt l n).f3.map fun k=>meets l s k.toNat
theorem meets_eq {l : List S49} (h : Valid l) (s : ByteArray) (n : Nat) (hn : n < l.length) : meets l s n =
  (if (nodeAt l n).f0 < 3 then leafR (nodeAt l n) s
  else if (nodeAt l n).f0 = 3 then seqR (kidsR l s n)
  else if (nodeAt l n).f0 = 4 then fun i j=>∃ k,k ∈ (nodeAt l n).f3 ∧ meets l s k.toNat i j
  else if (nodeAt l n).f0 = 5 then Star (meets l s ((nodeAt l n).f3.headD 0).toNat)
  else if (nodeAt l n).f0 = 6 then Plus (meets l s ((nodeAt l n).f3.headD 0).toNat)
  else fun i j=>i = j ∨ meets l s ((nodeAt l n).f3.headD 0).toNat i j):=by
 obtain ⟨N,hN⟩ : ∃ N,l.length = N + 1:=⟨l.length - 1,by omega⟩
 have hkd:=h.kd n hn
 have hw:=h.wf s
 have ek : ∀ k,k ∈ (nodeAt l n).f3 → den (patOf l s) N k.toNat = meets l s k.toNat:=fun k hk=>by
  have:=h.kid n hn k hk
  exact den_fuel (patOf l s) l.length hw N l.length k.toNat (by omega) (by omega) (by omega)
 have e1 : ((patOf l s).ks n).map (den (patOf l s) N) = kidsR l s n:=by
  show ((nodeAt l n).f3.map Int.toNat).map _ = _
  rw [List.map_map]
  exact List.map_congr_left fun k hk=>ek k hk
 have e2 : 5 ≤ (nodeAt l n).f0 → den (patOf l s) N (((patOf l s).ks n).headD 0) = meets l s ((nodeAt l n).f3.headD 0).toNat:=fun h5=>by
  obtain ⟨k,hk⟩:=h.one n hn h5
  have e : (patOf l s).ks n = [k.toNat]:=by show (nodeAt l n).f3.map Int.toNat = _;rw [hk];rfl
  rw [e,hk]
  exact ek k (by rw [hk];simp)
 have k3 : (patOf l s).kd n = (nodeAt l n).f0.toNat:=rfl
 have e0 : meets l s n = den (patOf l s) (N + 1) n:=by unfold meets;rw [hN]
 rw [e0]
 simp only [den]
 rw [k3,e1]
 by_cases c3 : (nodeAt l n).f0 < 3
 ·rw [if_pos (by omega),if_pos c3];rfl
 rw [if_neg (by omega),if_neg c3]
 by_cases c4 : (nodeAt l n).f0 = 3
 ·rw [if_pos (by omega),if_pos c4]
 rw [if_neg (by omega),if_neg c4]
 by_cases c5 : (nodeAt l n).f0 = 4
 ·rw [if_pos (by omega),if_pos c5]
  funext i j
  refine propext ⟨?_,?_⟩
  ·rintro ⟨k,hk,hd⟩
   obtain ⟨z,hz,rfl⟩:=List.mem_map.mp hk
   rw [ek z hz] at hd
   exact ⟨z,hz,hd⟩
  ·rintro ⟨z,hz,hd⟩
   refine ⟨z.toNat,List.mem_map.mpr ⟨z,hz,rfl⟩,?_⟩
   rw [ek z hz]
   exact hd
 rw [if_neg (by omega),if_neg c5,e2 (by omega)]
 by_cases c6 : (nodeAt l n).f0 = 5
 ·rw [if_pos (by omega),if_pos c6]
 rw [if_neg (by omega),if_neg c6]
 by_cases c7 : (nodeAt l n).f0 = 6
 ·rw [if_pos (by omega),if_pos c7]
 ·rw [if_neg (by omega),if_neg c7]
def Fwd (R : Rel) (L : Nat) : Prop:=∀ i j,i ≤ L → R i j → i ≤ j ∧ j ≤ L
theorem fwd_seq (L : Nat) : ∀ (l : List Rel),(∀ R,R ∈ l → Fwd R L) → Fwd (seqR l) L
 | [],_=>fun i j hi h=>by
  have h : i = j:=h
  omega
 | R :: l,hR=>fun i j hi ⟨m,h1,h2⟩=>by
  have a:=hR R (by simp) i m hi h1
  have b:=fwd_seq L l (fun R h=>hR R (List.mem_cons_of_mem _ h)) m j a.2 h2
  omega
theorem fwd_star {R : Rel} {L : Nat} (h : Fwd R L) : Fwd (Star R) L:=fun i j hi hs=>by
 induction hs with
 | refl=>omega
 | tail _ hr ih=>have:=h _ _ ih.2 hr;omega
theorem fwd_plus {R : Rel} {L : Nat} (h : Fwd R L) : Fwd (Plus R) L:=fun i j hi ⟨m,hs,hr⟩=>by
 have a:=fwd_star h i m hi hs
 have b:=h m j a.2 hr
 omega
theorem meets_fwd {l : List S49} (h : Valid l) (s : ByteArray) (n : Nat) : n < l.length → Fwd (meets l s n) s.size:=by
 induction n using Nat.strongRecOn with
 | _ n ih =>
  intro hn
  rw [meets_eq h s n hn]
  have hk : ∀ k,k ∈ (nodeAt l n).f3 → Fwd (meets l s k.toNat) s.size:=fun k hk=>by
   have:=h.kid n hn k hk
   exact ih _ (by omega) (by omega)
  have h1 : 5 ≤ (nodeAt l n).f0 → Fwd (meets l s ((nodeAt l n).f3.headD 0).toNat) s.size:=fun h5=>by
   obtain ⟨k,e⟩:=h.one n hn h5
   rw [e]
   exact hk k (by rw [e];simp)
  by_cases c3 : (nodeAt l n).f0 < 3
  ·rw [if_pos c3]
   intro i j hi hr
   unfold leafR at hr
   split at hr
   ·omega
   ·split at hr <;> omega
  rw [if_neg c3]
  by_cases c4 : (nodeAt l n).f0 = 3
  ·rw [if_pos c4]
   refine fwd_seq _ _ fun R hR=>?_
   obtain ⟨k,hk',rfl⟩:=List.mem_map.mp hR
   exact hk k hk'
  rw [if_neg c4]
  by_cases c5 : (nodeAt l n).f0 = 4
  ·rw [if_pos c5]
   exact fun i j hi ⟨k,hk',hr⟩=>hk k hk' i j hi hr
  rw [if_neg c5]
  by_cases c6 : (nodeAt l n).f0 = 5
  ·rw [if_pos c6];exact fwd_star (h1 (by omega))
  rw [if_neg c6]
  by_cases c7 : (nodeAt l n).f0 = 6
  ·rw [if_pos c7];exact fwd_plus (h1 (by omega))
  rw [if_neg c7]
  have:=h.kd n hn
  intro i j hi hr
  rcases hr with e|hr
  ·omega
  ·exact h1 (by omega) i j hi hr
def wobj (ws : Nat → Nat) : Obj:=.cells #[.int .u64 (ws 0),.int .u64 (ws 1),.int .u64 (ws 2),.int .u64 (ws 3),.int .u64 (ws 4),.int .u64 (ws 5),.int .u64 (ws 6),.int .u64 (ws 7)] 113 (0,0)
theorem wobj_cell {w : World} {b : Nat} {ws : Nat → Nat} (h : w.heap[b]? = some (wobj ws)) (i : Nat) (hi : i < 8) : w.cell? ⟨b,i,none⟩ = some (.int .u64 (ws i)):=by
 have : i = 0 ∨ i = 1 ∨ i = 2 ∨ i = 3 ∨ i = 4 ∨ i = 5 ∨ i = 6 ∨ i = 7:=by omega
 rcases this with rfl|rfl|rfl|rfl|rfl|rfl|rfl|rfl <;> simp [World.cell?,h,wobj]
theorem wobj_frozen {w : World} {b : Nat} {ws : Nat → Nat} (h : w.heap[b]? = some (wobj ws)) (i : Nat) : w.frozen? ⟨b,i,none⟩ = false:=by
 simp [World.frozen?,h,wobj]
theorem wobj_set {w : World} {b : Nat} {ws : Nat → Nat} (h : w.heap[b]? = some (wobj ws)) (i : Nat) (hi : i < 8) (x : Nat) : (w.setCell ⟨b,i,none⟩ (.int .u64 x)).heap[b]? = some (wobj fun j=>if j = i then x else ws j):=by
 have : i = 0 ∨ i = 1 ∨ i = 2 ∨ i = 3 ∨ i = 4 ∨ i = 5 ∨ i = 6 ∨ i = 7:=by omega
 rcases this with rfl|rfl|rfl|rfl|rfl|rfl|rfl|rfl <;> simp [World.setCell,Array.getElem?_modify,h,wobj]
theorem and_bit (a x : Nat) (hx : x < 18446744073709551616) : bits .and .u64 ((x : Int) / 2 ^ (a % 64)) 1 = ((x / 2 ^ (a % 64) % 2 : Nat) : Int):=by
 have hsh : (x : Int) / 2 ^ (a % 64) = ((x / 2 ^ (a % 64) : Nat) : Int):=by rw [Int.natCast_ediv];simp
 have e:=bits_and_u64_nat (x / 2 ^ (a % 64)) 1 (Nat.lt_of_le_of_lt (Nat.div_le_self _ _) hx) (by omega)
 rw [Nat.and_one_is_mod] at e
 rw [hsh];exact e
theorem add_has (b a x : Nat) (ha : a < 512) (hx : x < 18446744073709551616) (w : World) (hc : w.cell? ⟨b,a / 64,none⟩ = some (.int .u64 x)) (h : x / 2 ^ (a % 64) % 2 = 1) :
  Calls Tryd.prog 78 #[.pointer (some ⟨b,0,none⟩),.int .i64 a] w fun e w'=>e = .returned (.bool false) ∧ w' = w:=by
 have hand : (bits .and .u64 ((x : Int) / 2 ^ (a % 64)) 1 == 1) = true:=by rw [and_bit a x hx,h];rfl
 have d1 : (a : Int) / 64 < 8:=by omega
 have d2 : (0 : Int) ≤ (a : Int) % 64:=by omega
 have d3 : (a : Int) % 64 ≤ 64:=by omega
 clear h hx
 go_enter Tryd.func78,Tryd.ntmps78
 go_wp2_with fail
 go_ret
 exact ⟨rfl,rfl⟩
set_option maxRecDepth 100000 in
theorem add_new (b a x : Nat) (ha : a < 512) (hx : x < 18446744073709551616) (w : World) (hc : w.cell? ⟨b,a / 64,none⟩ = some (.int .u64 x)) (hz : w.frozen? ⟨b,a / 64,none⟩ = false) (h : x / 2 ^ (a % 64) % 2 ≠ 1) :
  Calls Tryd.prog 78 #[.pointer (some ⟨b,0,none⟩),.int .i64 a] w fun e w'=>e = .returned (.bool true) ∧ w' = (w.setCell ⟨b,a / 64,none⟩ (.int .u64 ((x ||| 2 ^ (a % 64) : Nat) : Int))).drew:=by
 have hand : (bits .and .u64 ((x : Int) / 2 ^ (a % 64)) 1 == 1) = false:=by rw [and_bit a x hx];exact beq_eq_false_iff_ne.mpr fun e=>h (Int.ofNat.inj e)
 have d1 : (a : Int) / 64 < 8:=by omega
 have d2 : (0 : Int) ≤ (a : Int) % 64:=by omega
 have d3 : (a : Int) % 64 ≤ 64:=by omega
 have hor : bits .or .u64 (x : Int) (IntKind.u64.wrap (2 ^ (a % 64))) = ((x ||| 2 ^ (a % 64) : Nat) : Int):=by
  have hp : 2 ^ (a % 64) < 18446744073709551616:=Nat.pow_lt_pow_right (a:=2) (n:=64) (by omega) (by omega)
  have e : IntKind.u64.wrap (2 ^ (a % 64)) = ((2 ^ (a % 64) : Nat) : Int):=by
   have e2 : (2 : Int) ^ (a % 64) = ((2 ^ (a % 64) : Nat) : Int):=by simp
   rw [IntKind.wrap_u64,e2]
   generalize 2 ^ (a % 64) = p at *
   omega
  rw [e];exact bits_or_u64_nat x _ hx hp
 clear h
 go_enter Tryd.func78,Tryd.ntmps78
 go_wp2_with fail
 go_region
 go_wp2_with fail
 go_ret
 exact ⟨rfl,rfl⟩
theorem add_calls (b a : Nat) (ha : a < 512) (ws : Nat → Nat) (S : Nat → Prop) (hS : IsSet ws S) (w : World) (hw : w.heap[b]? = some (wobj ws)) :
  Calls Tryd.prog 78 #[.pointer (some ⟨b,0,none⟩),.int .i64 a] w fun e w'=>∃ r,e = .returned (.bool r) ∧ (r = true ↔ ¬ S a) ∧
   ∃ ws',IsSet ws' (fun j=>S j ∨ j = a) ∧ w'.heap[b]? = some (wobj ws') ∧ w.grownBy w' (some b) ∧ w'.heap.size = w.heap.size:=by
 have e1 : 64 * (a / 64) + a % 64 = a:=by omega
 have h8 : a / 64 < 8:=by omega
 have hh:=hS.has (a / 64) (a % 64) h8 (by omega)
 rw [e1] at hh
 have hx:=hS.lt (a / 64) h8
 by_cases h : ws (a / 64) / 2 ^ (a % 64) % 2 = 1
 ·refine (add_has b a _ ha hx w (wobj_cell hw _ h8) h).mono ?_
  rintro e w' ⟨rfl,rfl⟩
  refine ⟨false,rfl,by simp [hh.mp h],ws,hS.congr fun j _=>⟨.inl,?_⟩,hw,⟨rfl,rfl,rfl,Nat.le_refl _,fun _ _ _=>rfl⟩,rfl⟩
  rintro (h1|h1)
  ·exact h1
  ·rw [h1];exact hh.mp h
 ·refine (add_new b a _ ha hx w (wobj_cell hw _ h8) (wobj_frozen hw _) h).mono ?_
  rintro e w' ⟨rfl,rfl⟩
  refine ⟨true,rfl,by simp [mt hh.mpr h],_,?_,wobj_set hw _ h8 _,⟨rfl,rfl,rfl,?_,fun k _ hk=>?_⟩,?_⟩
  ·have g:=hS.add (a / 64) (a % 64) h8 (by omega)
   rw [e1] at g
   exact g
  ·show w.heap.size ≤ (w.setCell _ _).heap.size
   simp [World.setCell]
  ·exact Below.heap_setCell w _ _ k fun e=>hk (by rw [e])
  ·show (w.setCell _ _).heap.size = _
   simp [World.setCell]
theorem add_zero_calls (b : Nat) (ws : Nat → Nat) (S : Nat → Prop) (hS : IsSet ws S) (w : World) (hw : w.heap[b]? = some (wobj ws)) :
  Calls Tryd.prog 78 #[.pointer (some ⟨b,0,none⟩),.int .i64 0] w fun e w'=>∃ r,e = .returned (.bool r) ∧ (r = true ↔ ¬ S 0) ∧
   ∃ ws',IsSet ws' (fun j=>S j ∨ j = 0) ∧ w'.heap[b]? = some (wobj ws') ∧ w.grownBy w' (some b) ∧ w'.heap.size = w.heap.size:=add_calls b 0 (by omega) ws S hS w hw
theorem add_succ_calls (b a : Nat) (ha : a + 1 < 512) (ws : Nat → Nat) (S : Nat → Prop) (hS : IsSet ws S) (w : World) (hw : w.heap[b]? = some (wobj ws)) :
  Calls Tryd.prog 78 #[.pointer (some ⟨b,0,none⟩),.int .i64 ((a : Int) + 1)] w fun e w'=>∃ r,e = .returned (.bool r) ∧ (r = true ↔ ¬ S (a + 1)) ∧
   ∃ ws',IsSet ws' (fun j=>S j ∨ j = a + 1) ∧ w'.heap[b]? = some (wobj ws') ∧ w.grownBy w' (some b) ∧ w'.heap.size = w.heap.size:=add_calls b (a + 1) ha ws S hS w hw
def nats (l : List Nat) : List Int:=l.map fun n : Nat=>(n : Int)
theorem nats_snoc (l : List Nat) (n : Nat) : nats (l ++ [n]) = nats l ++ [(n : Int)]:=by simp [nats]
theorem nats_len (l : List Nat) : (nats l).length = l.length:=by simp [nats]
theorem and_less (x : Nat) (h0 : x ≠ 0) (h : x < 18446744073709551616) : bits .and .u64 (x : Int) ((x : Int) - 1) = ((x &&& (x - 1) : Nat) : Int):=by
 have e : (x : Int) - 1 = ((x - 1 : Nat) : Int):=by omega
 rw [e];exact bits_and_u64_nat x _ h (by omega)
set_option maxRecDepth 100000 in
set_option maxHeartbeats 4000000 in
theorem list_calls (b : Nat) (ws : Nat → Nat) (S : Nat → Prop) (hS : IsSet ws S) (w : World) (hw : w.heap[b]? = some (wobj ws)) (hT : Tabs w) :
  Calls Tryd.prog 62 #[.pointer (some ⟨b,0,none⟩)] w fun e w'=>∃ v,e = .returned v ∧ Kd.R (Kd.int .i64) 3 w' w.heap.size (fun _=>True) v (nats (upto S 512)) ∧ Below w.heap.size w w':=by
 have HC : Aside0 (∀ i,i < 8 → w.cell? ⟨b,i,none⟩ = some (.int .u64 (ws i))):=⟨fun i hi=>wobj_cell hw i hi⟩
 have HT:=Aside0.mk hT
 have HS:=Aside0.mk hS
 clear hT hS hw
 go_enter Tryd.func62,Tryd.ntmps62
 go_wp2_with fail
 have h0 : Kd.R (Kd.int .i64) 3 (w.alloc (.cells #[] 3)) w.heap.size (fun _=>True) (.slice (some ⟨w.heap.size,0,none⟩) 0 0) ([] : List Int):=Kd.R_of_own (by simpa [encs] using World.ownsRow_lit (base:=w.heap.size) (e:=3) (size:=1) w #[] 0 (Nat.le_refl _) (by unfold maxLen;omega) rfl) (fun _ _=>trivial)
 go_loopg [3,8] 8 (fun gg v3 v8 wr=>∃ (i : Nat),v8 = .int .i64 i ∧ i ≤ 8 ∧ 8 - i ≤ gg ∧ Aside0 (Kd.R (Kd.int .i64) 3 wr w.heap.size (fun _=>True) v3 (nats (upto S (64 * i)))) ∧ Aside0 (Below w.heap.size w wr))
 case atStart=>exact ⟨0,rfl,by omega,by omega,⟨h0⟩,⟨below_alloc (Below.refl _ _) _⟩⟩
 case round =>
  clear h0
  obtain ⟨i,rfl,hi,hg,HO,HB⟩:=hrel
  by_cases hlt : i < 8
  ·have hlt0 : (i : Int) < 8:=by omega
   have hlt1 : (0 : Int) ≤ (i : Int):=by omega
   have hci:=HC.out i hlt
   replace hci:=(HB.out.cell (World.block_lt_of_cell? w _ hci)).trans hci
   have hx:=HS.out.lt i hlt
   go_wp2_with fail
   go_quiet (fail)
   go_wp2_with fail
   have HX0:=Aside0.mk (Re.Rest.start (ws i) hx)
   replace HO : Aside0 (Kd.R (Kd.int .i64) 3 wr w.heap.size (fun _=>True) u3 (nats (upto S (64 * i + 0)))):=HO
   go_loopg [3,5] 65 (fun gk2 v3 v5 w2=>∃ (x t : Nat),v5 = .int .u64 x ∧ t ≤ 64 ∧ 65 - t ≤ gk2 ∧ Aside0 (Re.Rest x (ws i) t) ∧ Aside0 (Kd.R (Kd.int .i64) 3 w2 w.heap.size (fun _=>True) v3 (nats (upto S (64 * i + t)))) ∧ Aside0 (Below w.heap.size w w2))
   case atStart=>exact ⟨ws i,0,rfl,by omega,by omega,HX0,⟨Kd.R_drewN HO.out _⟩,⟨pw_below_drewN HB.out _⟩⟩
   case round =>
    clear HX0 HO HB hci hx
    obtain ⟨x,t,rfl,ht,hg2,HX,HO,HB⟩:=hrel
    by_cases hx0 : x = 0
    ·subst hx0
     have HL:=Aside0.mk (upto_last HS.out i t hlt ht HX.out.done)
     have hz : (((0 : Nat) : Int) != 0) = false:=rfl
     go_wp2_with fail
     go_roundg (8 - (i + 1))
     case measure=>omega
     case rel=>exact ⟨i + 1,by go_num,by omega,by omega,⟨by rw [HL.out];exact HO.out⟩,HB⟩
    ·obtain ⟨u,hu,htu,hu64,hbit,hgap,hnext⟩:=HX.out.next hx0
     have hz : ((x : Int) != 0) = true:=bne_iff_ne.mpr (by omega)
     have hxl:=HX.out.lt
     have hcall:=tz64_any x hxl hx0 wr (HT.out.below HB.out)
     rw [hu] at hcall
     have hand:=and_less x hx0 hxl
     have HU:=Aside0.mk (upto_next HS.out i t u hlt htu hu64 hbit hgap)
     have HN:=Aside0.mk hnext
     have HLN : Aside0 ((nats (upto S (64 * i + t))).length < 17592186044415):=⟨by rw [nats_len];have:=upto_len S (64 * i + t);omega⟩
     clear hu hbit hgap hnext
     go_wp2_with fail
     refine hcall.mono ?_
     rintro e w' ⟨rfl,rfl⟩
     clear hcall
     go_wp2_with (first|((with_reducible refine gate_builtin (b:=.append) (xs:=#[.tmp 20,.tmp 26]) rfl ?_);at_builtin;refine Kd.R_append (Kd.int .i64) (w0:=w) w.heap.size rfl (.tmp 20) (.tmp 26) 31 3 (.int .i64 0) 8 rfl Tryd.underlying31 info3 rfl (by decide) (by omega) _ (nats (upto S (64 * i + t))) ((64 * i + u : Nat) : Int) [.int .i64 ((64 * i + u : Nat) : Int)] (fun _=>True) (fun _=>False) rfl rfl ?aP (fun _ hk=>hk.elim) (fun _ _=>trivial) ?aO ?aB ?aS ?aL ?_;(case aP=>exact rfl);(case aO=>exact HO.out);(case aB=>exact HB.out);(case aS=>exact HB.out.size);(case aL=>have:=HLN.out;omega);intro v159 w24 ho hb hg hat;rw [← nats_snoc] at ho;have HO2:=Aside0.mk ho;have HB2:=Aside0.mk hb;clear ho hb hg hat))
     go_roundg (65 - (u + 1))
     case measure=>omega
     case rel=>exact ⟨x &&& (x - 1),u + 1,rfl,by omega,by omega,HN,⟨by rw [HU.out];exact HO2.out⟩,HB2⟩
  ·have hlt0 : ¬ (i : Int) < 8:=by omega
   obtain rfl : i = 8:=by omega
   go_wp2_with fail
   go_ret
   exact ⟨_,rfl,HO.out,HB.out⟩
end Go.Proofs.YtlakdfbfkbndiaaDoor.Q
namespace Go.Proofs.YtlakdfbfkbndiaaDoor.Q
open Go Go.RowKit Go.WideMaps Go.Proofs.YtlakdfbfkbndiaaDoor.Re
open Go.ChangeShapes Go.WideShapes Go.MapKept
open Go.ChangeMaps (setBlock heap_setBlock_same heap_setBlock_other)
theorem pairArr : ArrKey Tryd.prog 72 3 2:=⟨Tryd.underlying72,by kernel_rfl,by kernel_rfl,by kernel_rfl⟩
theorem pairLaw : KeyLaw Tryd.prog 72:=pairArr.law
theorem pairKey {a b : Int} (wa : (Lit.int .i64 a).wf = true) (wb : (Lit.int .i64 b).wf = true) : ∃ l,keyOf Tryd.prog 72 (.agg #[.int .i64 a,.int .i64 b]) = some l:=⟨_,keyOf_pair pairArr Tryd.underlying3 ⟨_,rfl⟩ wa wb⟩
def pkey (n i : Nat) : Value:=.agg #[.int .i64 n,.int .i64 i]
theorem lit_wf {n : Nat} (h : n < 1000) : (Lit.int .i64 (n : Int)).wf = true:=by simp [Lit.wf,IntKind.min,IntKind.max,IntKind.signed,IntKind.bits];omega
theorem pkey_of {n i : Nat} (hn : n < 1000) (hi : i < 1000) : ∃ l,keyOf Tryd.prog 72 (pkey n i) = some l:=pairKey (lit_wf hn) (lit_wf hi)
theorem pkey_inj {n i n' i' : Nat} (h : pkey n i = pkey n' i') : n = n' ∧ i = i':=by
 simp [pkey] at h
 exact ⟨by omega,by omega⟩
def MapOk (D : Nat → Nat → Nat → Prop) (N L B0 Bf : Nat) (w : World) : Prop :=
 ∃ es clock,w.heap[Bf]? = some (.map es clock) ∧ (es.toList.map fun e=>e.key).Nodup ∧ ∀ e,e ∈ es.toList → ∃ n i b ws,e.key = pkey n i ∧ n < N ∧ i ≤ L ∧ e.val = .pointer (some ⟨b,0,none⟩) ∧ B0 ≤ b ∧ w.heap[b]? = some (wobj ws) ∧ IsSet ws (D n i)
def Free (Bf r : Nat) (w : World) : Prop:=∀ es clock,w.heap[Bf]? = some (.map es clock) → ∀ e,e ∈ es.toList → e.val ≠ .pointer (some ⟨r,0,none⟩)
theorem MapOk.keys {D : Nat → Nat → Nat → Prop} {N L B0 : Nat} {es : Array MapEntry} {w : World} (hN : N < 1000) (hL : L < 1000)
  (h : ∀ e,e ∈ es.toList → ∃ n i b ws,e.key = pkey n i ∧ n < N ∧ i ≤ L ∧ e.val = .pointer (some ⟨b,0,none⟩) ∧ B0 ≤ b ∧ w.heap[b]? = some (wobj ws) ∧ IsSet ws (D n i)) : ∀ e ∈ es.toList,∃ l,keyOf Tryd.prog 72 e.key = some l:=fun e he=>by
 obtain ⟨n,i,_,_,hk,hn,hi,_⟩:=h e he
 rw [hk];exact pkey_of (by omega) (by omega)
theorem key_one : ∀ (l : List MapEntry),(l.map fun e=>e.key).Nodup → ∀ e e',e ∈ l → e' ∈ l → e.key = e'.key → e = e'
 | [],_,_,_,h,_,_=>absurd h List.not_mem_nil
 | a :: l,hd,e,e',h,h',hk=>by
  rw [List.map_cons,List.nodup_cons] at hd
  rcases List.mem_cons.mp h with rfl|h1
  ·rcases List.mem_cons.mp h' with rfl|h2
   ·rfl
   ·exact absurd (List.mem_map.mpr ⟨e',h2,hk.symm⟩) hd.1
  ·rcases List.mem_cons.mp h' with rfl|h2
   ·exact absurd (List.mem_map.mpr ⟨e,h1,hk⟩) hd.1
   ·exact key_one l hd.2 e e' h1 h2 hk
theorem MapOk.look {D : Nat → Nat → Nat → Prop} {N L B0 Bf : Nat} {w : World} (h : MapOk D N L B0 Bf w) (hN : N < 1000) (hL : L < 1000) {n i : Nat} (hn : n < N) (hi : i ≤ L) :
  (∀ k,(Instr.lookup 88 (.map (some Bf)) (pkey n i) false).run Tryd.prog (w.drewN k) = .ok (.pointer none) (w.drewN k)) ∨
  ∃ b ws,(∀ k,(Instr.lookup 88 (.map (some Bf)) (pkey n i) false).run Tryd.prog (w.drewN k) = .ok (.pointer (some ⟨b,0,none⟩)) (w.drewN k)) ∧ B0 ≤ b ∧ w.heap[b]? = some (wobj ws) ∧ IsSet ws (D n i) ∧ ¬ Free Bf b w:=by
 obtain ⟨es,clock,hb,hd,he⟩:=h
 obtain ⟨l,hl⟩:=pkey_of (n:=n) (i:=i) (by omega) (by omega)
 have hb' : ∀ k,(w.drewN k).heap[Bf]? = some (.map es clock):=fun _=>hb
 by_cases hin : ∃ e,e ∈ es.toList ∧ e.key = pkey n i
 ·obtain ⟨e,hm,hk⟩:=hin
  right
  obtain ⟨n',i',b,ws,g1,_,_,g2,g3,g4,g5⟩:=he e hm
  obtain ⟨rfl,rfl⟩:=pkey_inj (g1.symm.trans hk)
  refine ⟨b,ws,fun k=>?_,g3,g4,g5,fun hf=>hf es clock hb e hm g2⟩
  rcases pairLaw.find (w.drewN k) hl es.toList (MapOk.keys hN hL he) with ⟨_,h1⟩|⟨j,e',h1,h2,h3⟩
  ·exact absurd hk (h1 e hm)
  ·obtain rfl:=key_one _ hd e' e (List.mem_of_getElem? h2) hm (h3.trans hk.symm)
   simp [Instr.lookup,run_underlying Tryd.underlying88,MapKept.run_getObj_map (hb' k),pairLaw.check (w.drewN k) _ hl,h1,Result.andThen,g2]
 ·left
  intro k
  rcases pairLaw.find (w.drewN k) hl es.toList (MapOk.keys hN hL he) with ⟨h1,_⟩|⟨j,e',_,h2,h3⟩
  ·simp [Instr.lookup,run_underlying Tryd.underlying88,MapKept.run_getObj_map (hb' k),pairLaw.check (w.drewN k) _ hl,h1,Result.andThen]
  ·exact absurd ⟨e',List.mem_of_getElem? h2,h3⟩ hin
theorem MapOk.move {D : Nat → Nat → Nat → Prop} {N L B0 Bf : Nat} {w w1 : World} (h : MapOk D N L B0 Bf w) (hm : ∀ k,k < w.heap.size → w1.heap[k]? = w.heap[k]?) : MapOk D N L B0 Bf w1:=by
 obtain ⟨es,clock,hb,hd,he⟩:=h
 refine ⟨es,clock,(hm Bf (Array.getElem?_eq_some_iff.mp hb).1).trans hb,hd,fun e hm'=>?_⟩
 obtain ⟨n,i,b,ws,g1,g2,g3,g4,g5,g6,g7⟩:=he e hm'
 exact ⟨n,i,b,ws,g1,g2,g3,g4,g5,(hm b (Array.getElem?_eq_some_iff.mp g6).1).trans g6,g7⟩
theorem Free.same {Bf r : Nat} {w w1 : World} (h : Free Bf r w) (e : w1.heap[Bf]? = w.heap[Bf]?) : Free Bf r w1:=fun es clock hb=>h es clock (e ▸ hb)
theorem MapOk.grown {D : Nat → Nat → Nat → Prop} {N L B0 Bf r : Nat} {w w1 : World} (h : MapOk D N L B0 Bf w) (hg : w.grownBy w1 (some r)) (hr : r ≠ Bf) (hs : Free Bf r w) : MapOk D N L B0 Bf w1:=by
 obtain ⟨es,clock,hb,hd,he⟩:=h
 refine ⟨es,clock,(hg.block Bf (Array.getElem?_eq_some_iff.mp hb).1 (fun e=>hr (Option.some.inj e).symm)).trans hb,hd,fun e hm'=>?_⟩
 obtain ⟨n,i,b,ws,g1,g2,g3,g4,g5,g6,g7⟩:=he e hm'
 exact ⟨n,i,b,ws,g1,g2,g3,g4,g5,(hg.block b (Array.getElem?_eq_some_iff.mp g6).1 (fun e2=>hs es clock hb e hm' (by rw [g4,Option.some.inj e2]))).trans g6,g7⟩
theorem MapOk.free {D : Nat → Nat → Nat → Prop} {N L B0 Bf r : Nat} {w : World} (h : MapOk D N L B0 Bf w) (hr : w.heap.size ≤ r) : Free Bf r w:=fun es clock hb e hm hv=>by
 obtain ⟨es',clock',hb',_,he⟩:=h
 rw [hb] at hb'
 obtain ⟨rfl,rfl⟩ : es = es' ∧ clock = clock':=by simpa using hb'
 obtain ⟨n,i,b,ws,_,_,_,g4,_,g6,_⟩:=he e hm
 rw [hv] at g4
 have hb2 : b = r:=by simpa using g4.symm
 have:=(Array.getElem?_eq_some_iff.mp g6).1
 omega
theorem MapOk.store {D : Nat → Nat → Nat → Prop} {N L B0 Bf : Nat} {w : World} (h : MapOk D N L B0 Bf w) (hN : N < 1000) (hL : L < 1000) {n i : Nat} (hn : n < N) (hi : i ≤ L) {b : Nat} {ws : Nat → Nat} (hB : B0 ≤ b) (hw : w.heap[b]? = some (wobj ws)) (hS : IsSet ws (D n i)) :
  ∃ o,(Instr.mapUpdate 88 (.map (some Bf)) (pkey n i) (.pointer (some ⟨b,0,none⟩))).run Tryd.prog w = .ok () (setBlock w Bf o) ∧ MapOk D N L B0 Bf (setBlock w Bf o) ∧ w.grownBy (setBlock w Bf o) (some Bf) ∧ (setBlock w Bf o).heap.size = w.heap.size ∧ ¬ Free Bf b (setBlock w Bf o) ∧ ∀ r,r ≠ b → Free Bf r w → Free Bf r (setBlock w Bf o):=by
 obtain ⟨es,clock,hb,hd,he⟩:=h
 obtain ⟨l,hl⟩:=pkey_of (n:=n) (i:=i) (by omega) (by omega)
 have hgrown : ∀ o,w.grownBy (setBlock w Bf o) (some Bf):=fun o=>⟨rfl,rfl,rfl,by simp [setBlock],fun k _ hk=>heap_setBlock_other hb _ (fun e=>hk (by rw [e]))⟩
 have hne : ∀ b' ws',w.heap[b']? = some (wobj ws') → b' ≠ Bf:=fun b' ws' hb' e=>by
  rw [e,hb] at hb'
  simp [wobj] at hb'
 have old : ∀ o e,e ∈ es.toList → ∃ n i b ws,e.key = pkey n i ∧ n < N ∧ i ≤ L ∧ e.val = .pointer (some ⟨b,0,none⟩) ∧ B0 ≤ b ∧ (setBlock w Bf o).heap[b]? = some (wobj ws) ∧ IsSet ws (D n i):=fun o e hm=>by
  obtain ⟨n,i,b,ws,g1,g2,g3,g4,g5,g6,g7⟩:=he e hm
  exact ⟨n,i,b,ws,g1,g2,g3,g4,g5,(heap_setBlock_other hb _ (hne b ws g6)).trans g6,g7⟩
 rcases pairLaw.find w hl es.toList (MapOk.keys hN hL he) with ⟨h1,hno⟩|⟨j,e0,h1,h2,h3⟩
 ·refine ⟨.map (es.push ⟨pkey n i,.pointer (some ⟨b,0,none⟩),clock⟩) (clock + 1),?_,⟨_,_,heap_setBlock_same hb _,by
   rw [Array.toList_push,List.map_append,List.nodup_append]
   refine ⟨hd,by simp,fun a ha b' hb2=>?_⟩
   obtain ⟨e,hm,rfl⟩:=List.mem_map.mp ha
   have hb2 : b' = pkey n i:=by simpa using hb2
   rw [hb2]
   exact hno e hm,fun e hm=>?_⟩,hgrown _,by simp [setBlock],fun hf=>hf _ _ (heap_setBlock_same hb _) ⟨pkey n i,.pointer (some ⟨b,0,none⟩),clock⟩ (by simp) rfl,fun r hr hf es2 c2 hb2 e hm hv=>?_⟩
  ·simp [Instr.mapUpdate,run_underlying Tryd.underlying88,MapKept.run_getObj_map hb,pairLaw.check w false hl,h1,MapKept.run_setObj_map _ hb,Result.andThen,setBlock]
  ·simp only [Array.toList_push,List.mem_append,List.mem_singleton] at hm
   rcases hm with hm|rfl
   ·exact old _ e hm
   ·exact ⟨n,i,b,ws,rfl,hn,hi,rfl,hB,(heap_setBlock_other hb _ (hne b ws hw)).trans hw,hS⟩
  ·rw [heap_setBlock_same hb] at hb2
   obtain ⟨rfl,rfl⟩ : es.push ⟨pkey n i,.pointer (some ⟨b,0,none⟩),clock⟩ = es2 ∧ clock + 1 = c2:=by simpa using hb2
   simp only [Array.toList_push,List.mem_append,List.mem_singleton] at hm
   rcases hm with hm|rfl
   ·exact hf es clock hb e hm hv
   ·exact hr (by simpa using hv.symm)
 ·have hj : es[j]? = some e0:=by simpa using h2
  have hlist : (es.modify j (fun e'=>{ e' with key:=pkey n i,val:=Value.pointer (some ⟨b,0,none⟩) })).toList = es.toList.set j { e0 with key:=pkey n i,val:=.pointer (some ⟨b,0,none⟩) }:=by
   rw [Array.toList_modify,ChangeMaps.modify_eq_set _ _ _ _ h2]
  have hjl : j < es.toList.length:=(List.getElem?_eq_some_iff.1 h2).1
  refine ⟨.map (es.modify j fun e'=>{ e' with key:=pkey n i,val:=.pointer (some ⟨b,0,none⟩) }) clock,?_,⟨_,_,heap_setBlock_same hb _,by
   rw [hlist,List.map_set]
   have hs : (es.toList.map fun e=>e.key).set j (pkey n i) = es.toList.map fun e=>e.key:=by
    apply List.ext_getElem?
    intro m
    rw [List.getElem?_set]
    split
    ·rename_i e
     subst e
     rw [List.getElem?_map,h2]
     simp [h3]
     simpa using hjl
    ·rfl
   rw [hs];exact hd,fun e hm=>?_⟩,hgrown _,by simp [setBlock],fun hf=>hf _ _ (heap_setBlock_same hb _) { e0 with key:=pkey n i,val:=.pointer (some ⟨b,0,none⟩) } (by rw [hlist];exact List.mem_set hjl _) rfl,fun r hr hf es2 c2 hb2 e hm hv=>?_⟩
  ·simp [Instr.mapUpdate,run_underlying Tryd.underlying88,MapKept.run_getObj_map hb,pairLaw.check w false hl,h1,hj,h3,pairLaw.stays w hl,MapKept.run_setObj_map _ hb,Result.andThen,setBlock]
  ·rw [hlist] at hm
   rcases List.mem_or_eq_of_mem_set hm with hm|rfl
   ·exact old _ e hm
   ·exact ⟨n,i,b,ws,rfl,hn,hi,rfl,hB,(heap_setBlock_other hb _ (hne b ws hw)).trans hw,hS⟩
  ·rw [heap_setBlock_same hb] at hb2
   obtain ⟨h5,rfl⟩ : (es.modify j fun e'=>{ e' with key:=pkey n i,val:=Value.pointer (some ⟨b,0,none⟩) }) = es2 ∧ clock = c2:=by simpa using hb2
   rw [← h5,hlist] at hm
   rcases List.mem_or_eq_of_mem_set hm with hm|rfl
   ·exact hf es clock hb e hm hv
   ·exact hr (by simpa using hv.symm)
end Go.Proofs.YtlakdfbfkbndiaaDoor.Q
namespace Go.Proofs.YtlakdfbfkbndiaaDoor.Q
open Go.RowKit Go.Proofs.YtlakdfbfkbndiaaDoorW.PrintWords Go.Proofs.YtlakdfbfkbndiaaDoorW.PrintLast Go.Proofs.YtlakdfbfkbndiaaDoorW.PrintMore
attribute [local go_sem] max2_int min2_int max_two min_two max_three min_three max_four min_four   -- for this text's walks alone
set_option linter.unusedVariables false
set_option linter.unusedSimpArgs false
def impl_between.f (a0 : Int) (a1 : Int) (a2 : Int) : Option (Bool):=if a0 ≥ a1 then (some (decide (a0 ≤ a2))) else (some false)
set_option maxHeartbeats 8000000 in
set_option maxRecDepth 100000 in
theorem impl_between.calls (a0 : Int) (a1 : Int) (a2 : Int) (r : Bool) (w : World) (h : impl_between.f a0 a1 a2 = some r) :
  Calls Tryd.prog 44 #[.int .i64 a0,.int .i64 a1,.int .i64 a2] w fun e w'=>e = .returned (.bool r) ∧ Drawn0 w w':=by
 have H : (if a0 ≥ a1 then (some (decide (a0 ≤ a2))) else (some false)) = some r:=h
 clear h
 by_cases c4 : a0 ≥ a1
 ·rw [if_pos c4] at H
  have c4b0 : decide (a1 ≤ a0) = true:=decide_eq_true c4
  clear c4
  obtain rfl:=Option.some.inj H
  go_enter Tryd.func44,Tryd.ntmps44
  go_wp2
  go_ret
  exact ⟨by first|rfl|(simp;done)|(simp [*];done),by repeat (first|exact Drawn0.refl _|apply Drawn0.step)⟩
 ·rw [if_neg c4] at H
  have c4b0 : decide (a1 ≤ a0) = false:=decide_eq_false c4
  clear c4
  obtain rfl:=Option.some.inj H
  go_enter Tryd.func44,Tryd.ntmps44
  go_wp2
  go_ret
  exact ⟨by first|rfl|(simp;done)|(simp [*];done),by repeat (first|exact Drawn0.refl _|apply Drawn0.step)⟩
mutual
def impl_isReNode.j3 : Nat → Bool → Int → Bool → ByteArray → List Int → Option (Bool)
 | 0,_,_,_,_,_=>none
 | k + 1,x58,x102000,x102001,x102002,x102003=>if x58 = true then (some false) else (impl_isReNode.l0 k 0 x102000 x102001 x102002 x102003)
def impl_isReNode.l0 : Nat → Int → Int → Bool → ByteArray → List Int → Option (Bool)
 | 0,_,_,_,_,_=>none
 | k + 1,x3,x102000,x102001,x102002,x102003=>if x3 < (x102002.size : Int) then (if 0 ≤ (wrap64 (x3 + 1)) then (if (wrap64 (x3 + 1)) < (x102002.size : Int) then (if 0 ≤ x3 then (if (bt x102002 (wrap64 (x3 + 1))) < (bt x102002 x3) then (some false) else (impl_isReNode.l0 k (wrap64 (x3 + 2)) x102000 x102001 x102002 x102003)) else (none)) else (none)) else (none)) else (some true)
def impl_isReNode.j0 : Nat → Bool → Int → Bool → ByteArray → List Int → Option (Bool)
 | 0,_,_,_,_,_=>none
 | k + 1,x13,x102000,x102001,x102002,x102003=>if x13 = true then (some false) else (if x102000 = 1 then (impl_isReNode.j1 k x102000 (x102000 == 1) x102000 x102001 x102002 x102003) else (impl_isReNode.j1 k x102000 (x102000 == 2) x102000 x102001 x102002 x102003))
def impl_isReNode.j1 : Nat → Int → Bool → Int → Bool → ByteArray → List Int → Option (Bool)
 | 0,_,_,_,_,_,_=>none
 | k + 1,x15,x16,x102000,x102001,x102002,x102003=>if x16 = true then (some ((x102003.length : Int) == 0)) else (if x15 = 3 then (impl_isReNode.j2 k x15 (x15 == 3) x102000 x102001 x102002 x102003) else (impl_isReNode.j2 k x15 (x15 == 4) x102000 x102001 x102002 x102003))
def impl_isReNode.j2 : Nat → Int → Bool → Int → Bool → ByteArray → List Int → Option (Bool)
 | 0,_,_,_,_,_,_=>none
 | k + 1,x15,x23,x102000,x102001,x102002,x102003=>if x23 = true then (some (decide ((x102003.length : Int) ≥ 2))) else (if x15 = 5 then (some ((x102003.length : Int) == 1)) else (if x15 = 6 then (some ((x102003.length : Int) == 1)) else (if x15 = 7 then (some ((x102003.length : Int) == 1)) else (some false))))
end
def impl_isReNode.f (k : Nat) (a0_0 : Int) (a0_1 : Bool) (a0_2 : ByteArray) (l0_3 : List Int) : Option (Bool):=if a0_0 = 0 then (if ((a0_2.size : Int) % 2) = 0 then (if (l0_3.length : Int) > 0 then (impl_isReNode.j3 k true a0_0 a0_1 a0_2 l0_3) else (if a0_2.toList = ([] : List UInt8) then (impl_isReNode.j3 k (!a0_1) a0_0 a0_1 a0_2 l0_3) else (impl_isReNode.j3 k false a0_0 a0_1 a0_2 l0_3))) else (impl_isReNode.j3 k true a0_0 a0_1 a0_2 l0_3)) else (if a0_1 = true then (impl_isReNode.j0 k true a0_0 a0_1 a0_2 l0_3) else (impl_isReNode.j0 k (a0_2.toList != ([] : List UInt8)) a0_0 a0_1 a0_2 l0_3))
theorem impl_isReNode.mono_l : ∀ k,(∀ y0 y1 y2 y3 y4,LeO (impl_isReNode.j3 k y0 y1 y2 y3 y4) (impl_isReNode.j3 (k + 1) y0 y1 y2 y3 y4)) ∧ (∀ y0 y1 y2 y3 y4,LeO (impl_isReNode.l0 k y0 y1 y2 y3 y4) (impl_isReNode.l0 (k + 1) y0 y1 y2 y3 y4)) ∧ (∀ y0 y1 y2 y3 y4,LeO (impl_isReNode.j0 k y0 y1 y2 y3 y4) (impl_isReNode.j0 (k + 1) y0 y1 y2 y3 y4)) ∧ (∀ y0 y1 y2 y3 y4 y5,LeO (impl_isReNode.j1 k y0 y1 y2 y3 y4 y5) (impl_isReNode.j1 (k + 1) y0 y1 y2 y3 y4 y5)) ∧ (∀ y0 y1 y2 y3 y4 y5,LeO (impl_isReNode.j2 k y0 y1 y2 y3 y4 y5) (impl_isReNode.j2 (k + 1) y0 y1 y2 y3 y4 y5))
 | 0=>⟨fun _ _ _ _ _ r h=>by simp [impl_isReNode.j3] at h,fun _ _ _ _ _ r h=>by simp [impl_isReNode.l0] at h,fun _ _ _ _ _ r h=>by simp [impl_isReNode.j0] at h,fun _ _ _ _ _ _ r h=>by simp [impl_isReNode.j1] at h,fun _ _ _ _ _ _ r h=>by simp [impl_isReNode.j2] at h⟩
 | k + 1=>by
  obtain ⟨ih0,ih1,ih2,ih3,ih4⟩:=impl_isReNode.mono_l k
  refine ⟨?_,?_,?_,?_,?_⟩
  ·intro y0 y1 y2 y3 y4
   unfold impl_isReNode.j3
   repeat' first
   | (with_reducible exact ih0 _ _ _ _ _)
   | (with_reducible exact ih1 _ _ _ _ _)
   | (with_reducible exact ih2 _ _ _ _ _)
   | (with_reducible exact ih3 _ _ _ _ _ _)
   | (with_reducible exact ih4 _ _ _ _ _ _)
   | (with_reducible exact LeO.refl _)
   | (with_reducible exact LeO.none _)
   | (with_reducible refine LeO.ite ?_ ?_)
   | (with_reducible refine LeO.bind ?_ (fun _=>?_))
   | exact ih0 _ _ _ _ _
   | exact ih1 _ _ _ _ _
   | exact ih2 _ _ _ _ _
   | exact ih3 _ _ _ _ _ _
   | exact ih4 _ _ _ _ _ _
   | exact LeO.none _
   | refine LeO.ite ?_ ?_
   | refine LeO.bind ?_ (fun _=>?_)
  ·intro y0 y1 y2 y3 y4
   unfold impl_isReNode.l0
   repeat' first
   | (with_reducible exact ih0 _ _ _ _ _)
   | (with_reducible exact ih1 _ _ _ _ _)
   | (with_reducible exact ih2 _ _ _ _ _)
   | (with_reducible exact ih3 _ _ _ _ _ _)
   | (with_reducible exact ih4 _ _ _ _ _ _)
   | (with_reducible exact LeO.refl _)
   | (with_reducible exact LeO.none _)
   | (with_reducible refine LeO.ite ?_ ?_)
   | (with_reducible refine LeO.bind ?_ (fun _=>?_))
   | exact ih0 _ _ _ _ _
   | exact ih1 _ _ _ _ _
   | exact ih2 _ _ _ _ _
   | exact ih3 _ _ _ _ _ _
   | exact ih4 _ _ _ _ _ _
   | exact LeO.none _
   | refine LeO.ite ?_ ?_
   | refine LeO.bind ?_ (fun _=>?_)
  ·intro y0 y1 y2 y3 y4
   unfold impl_isReNode.j0
   repeat' first
   | (with_reducible exact ih0 _ _ _ _ _)
   | (with_reducible exact ih1 _ _ _ _ _)
   | (with_reducible exact ih2 _ _ _ _ _)
   | (with_reducible exact ih3 _ _ _ _ _ _)
   | (with_reducible exact ih4 _ _ _ _ _ _)
   | (with_reducible exact LeO.refl _)
   | (with_reducible exact LeO.none _)
   | (with_reducible refine LeO.ite ?_ ?_)
   | (with_reducible refine LeO.bind ?_ (fun _=>?_))
   | exact ih0 _ _ _ _ _
   | exact ih1 _ _ _ _ _
   | exact ih2 _ _ _ _ _
   | exact ih3 _ _ _ _ _ _
   | exact ih4 _ _ _ _ _ _
   | exact LeO.none _
   | refine LeO.ite ?_ ?_
   | refine LeO.bind ?_ (fun _=>?_)
  ·intro y0 y1 y2 y3 y4 y5
   unfold impl_isReNode.j1
   repeat' first
   | (with_reducible exact ih0 _ _ _ _ _)
   | (with_reducible exact ih1 _ _ _ _ _)
   | (with_reducible exact ih2 _ _ _ _ _)
   | (with_reducible exact ih3 _ _ _ _ _ _)
   | (with_reducible exact ih4 _ _ _ _ _ _)
   | (with_reducible exact LeO.refl _)
   | (with_reducible exact LeO.none _)
   | (with_reducible refine LeO.ite ?_ ?_)
   | (with_reducible refine LeO.bind ?_ (fun _=>?_))
   | exact ih0 _ _ _ _ _
   | exact ih1 _ _ _ _ _
   | exact ih2 _ _ _ _ _
   | exact ih3 _ _ _ _ _ _
   | exact ih4 _ _ _ _ _ _
   | exact LeO.none _
   | refine LeO.ite ?_ ?_
   | refine LeO.bind ?_ (fun _=>?_)
  ·intro y0 y1 y2 y3 y4 y5
   unfold impl_isReNode.j2
   repeat' first
   | (with_reducible exact ih0 _ _ _ _ _)
   | (with_reducible exact ih1 _ _ _ _ _)
   | (with_reducible exact ih2 _ _ _ _ _)
   | (with_reducible exact ih3 _ _ _ _ _ _)
   | (with_reducible exact ih4 _ _ _ _ _ _)
   | (with_reducible exact LeO.refl _)
   | (with_reducible exact LeO.none _)
   | (with_reducible refine LeO.ite ?_ ?_)
   | (with_reducible refine LeO.bind ?_ (fun _=>?_))
   | exact ih0 _ _ _ _ _
   | exact ih1 _ _ _ _ _
   | exact ih2 _ _ _ _ _
   | exact ih3 _ _ _ _ _ _
   | exact ih4 _ _ _ _ _ _
   | exact LeO.none _
   | refine LeO.ite ?_ ?_
   | refine LeO.bind ?_ (fun _=>?_)
theorem impl_isReNode.mono : ∀ a0 a1 a2 a3 k,LeO (impl_isReNode.f k a0 a1 a2 a3) (impl_isReNode.f (k + 1) a0 a1 a2 a3):=by
 intro a0 a1 a2 a3 k
 obtain ⟨ih0,ih1,ih2,ih3,ih4⟩:=impl_isReNode.mono_l k
 unfold impl_isReNode.f
 repeat' first
   | (with_reducible exact ih0 _ _ _ _ _)
   | (with_reducible exact ih1 _ _ _ _ _)
   | (with_reducible exact ih2 _ _ _ _ _)
   | (with_reducible exact ih3 _ _ _ _ _ _)
   | (with_reducible exact ih4 _ _ _ _ _ _)
   | (with_reducible exact LeO.refl _)
   | (with_reducible exact LeO.none _)
   | (with_reducible refine LeO.ite ?_ ?_)
   | (with_reducible refine LeO.bind ?_ (fun _=>?_))
   | exact ih0 _ _ _ _ _
   | exact ih1 _ _ _ _ _
   | exact ih2 _ _ _ _ _
   | exact ih3 _ _ _ _ _ _
   | exact ih4 _ _ _ _ _ _
   | exact LeO.none _
   | refine LeO.ite ?_ ?_
   | refine LeO.bind ?_ (fun _=>?_)
set_option maxHeartbeats 8000000 in
set_option maxRecDepth 100000 in
theorem impl_isReNode.calls (k : Nat) (a0_0 : Int) (a0_1 : Bool) (a0_2 : ByteArray) (A0_3 : Option Addr) (c0_3 : Nat) (l0_3 : List Int) (r : Bool) (w : World) (hr0_3 : Kd.C (Kd.int .i64) w A0_3 l0_3.length l0_3) (hc0_3 : l0_3.length ≤ c0_3) (h : impl_isReNode.f k a0_0 a0_1 a0_2 l0_3 = some r) :
  Calls Tryd.prog 74 #[.agg #[.int .i64 a0_0,.bool a0_1,.string a0_2,.slice A0_3 l0_3.length c0_3]] w fun e w'=>e = .returned (.bool r) ∧ Below w.heap.size w w':=by
 have hu49:=Tryd.underlying49
 have HR0_3:=Aside0.mk hr0_3
 have HC0_3:=Aside0.mk hc0_3
 clear hr0_3 hc0_3
 have HB:=Aside0.mk (Below.refl w.heap.size w)
 have H : (if a0_0 = 0 then (if ((a0_2.size : Int) % 2) = 0 then (if (l0_3.length : Int) > 0 then (impl_isReNode.j3 k true a0_0 a0_1 a0_2 l0_3) else (if a0_2.toList = ([] : List UInt8) then (impl_isReNode.j3 k (!a0_1) a0_0 a0_1 a0_2 l0_3) else (impl_isReNode.j3 k false a0_0 a0_1 a0_2 l0_3))) else (impl_isReNode.j3 k true a0_0 a0_1 a0_2 l0_3)) else (if a0_1 = true then (impl_isReNode.j0 k true a0_0 a0_1 a0_2 l0_3) else (impl_isReNode.j0 k (a0_2.toList != ([] : List UInt8)) a0_0 a0_1 a0_2 l0_3))) = some r:=h
 clear h
 by_cases c2 : a0_0 = 0
 ·rw [if_pos c2] at H
  have c2b0 : (a0_0 == 0) = true:=beq_iff_eq.mpr c2
  have c2b1 : (a0_0 != 0) = false:=bne_eq_false_iff_eq.mpr c2
  clear c2
  have HC3:=Aside0.mk H
  clear H
  go_enter Tryd.func74,Tryd.ntmps74
  go_upto_region 16 with (first|((with_reducible refine gate_dst (N:=1) rfl ?_);(try (refine gate_guard (by rfl) ?_;dsimp only));refine box_event ?hg (N:=1) ?hd (cs:=#[.int .i64 a0_0,.bool a0_1,.string a0_2,.slice A0_3 l0_3.length c0_3]) (t:=49) ?hr ?_;(case hd=>rfl);(case hg=>rfl);(case hr=>first|(go_simp;done)|(go_simp;rfl));intro gb101 hg w4 hbox hb;have n0_:=Aside0.mk (below_step (by repeat (first|(with_reducible first|exact HB.out|apply below_alloc|apply pw_below_drewN|apply below_drew1)|exact HB.out)) hb);have n1_:=Aside0.mk (hbox);have n2_:=Aside0.mk ((by rw [hg];exact (below_size (by repeat (first|(with_reducible first|exact HB.out|apply below_alloc|apply pw_below_drewN|apply below_drew1)|exact HB.out))) : w.heap.size ≤ gb101));have n3_:=Aside0.mk ((by rw [hg];exact (below_size (by repeat (first|(with_reducible first|exact HB.out|apply below_alloc|apply pw_below_drewN|apply below_drew1)|exact HB.out))) : w.heap.size ≤ gb101));clear HB;have HB:=n0_;have BK101:=n1_;have GW101:=n2_;have GE101:=n3_;clear n0_ n1_ n2_ n3_;clear hb hbox hg;have hcz5_0 : w4.cell? ⟨gb101,0,none⟩ = some (.int .i64 a0_0):=(blk_cell BK101.out 0).trans rfl;have hcz5_1 : w4.cell? ⟨gb101,1,none⟩ = some (.bool a0_1):=(blk_cell BK101.out 1).trans rfl;have hcz5_2 : w4.cell? ⟨gb101,2,none⟩ = some (.string a0_2):=(blk_cell BK101.out 2).trans rfl;have hcz5_3 : w4.cell? ⟨gb101,3,none⟩ = some (.slice A0_3 l0_3.length c0_3):=(blk_cell BK101.out 3).trans rfl;have hfz5_0:=blk_frozen BK101.out 0;have hfz5_1:=blk_frozen BK101.out 1;have hfz5_2:=blk_frozen BK101.out 2;have hfz5_3:=blk_frozen BK101.out 3))
  repeat (go_quiet (first|((with_reducible refine gate_dst (N:=1) rfl ?_);(try (refine gate_guard (by rfl) ?_;dsimp only));refine box_event ?hg (N:=1) ?hd (cs:=#[.int .i64 a0_0,.bool a0_1,.string a0_2,.slice A0_3 l0_3.length c0_3]) (t:=49) ?hr ?_;(case hd=>rfl);(case hg=>rfl);(case hr=>first|(go_simp;done)|(go_simp;rfl));intro gb101 hg w4 hbox hb;have n0_:=Aside0.mk (below_step (by repeat (first|(with_reducible first|exact HB.out|apply below_alloc|apply pw_below_drewN|apply below_drew1)|exact HB.out)) hb);have n1_:=Aside0.mk (hbox);have n2_:=Aside0.mk ((by rw [hg];exact (below_size (by repeat (first|(with_reducible first|exact HB.out|apply below_alloc|apply pw_below_drewN|apply below_drew1)|exact HB.out))) : w.heap.size ≤ gb101));have n3_:=Aside0.mk ((by rw [hg];exact (below_size (by repeat (first|(with_reducible first|exact HB.out|apply below_alloc|apply pw_below_drewN|apply below_drew1)|exact HB.out))) : w.heap.size ≤ gb101));clear HB;have HB:=n0_;have BK101:=n1_;have GW101:=n2_;have GE101:=n3_;clear n0_ n1_ n2_ n3_;clear hb hbox hg;have hcz5_0 : w4.cell? ⟨gb101,0,none⟩ = some (.int .i64 a0_0):=(blk_cell BK101.out 0).trans rfl;have hcz5_1 : w4.cell? ⟨gb101,1,none⟩ = some (.bool a0_1):=(blk_cell BK101.out 1).trans rfl;have hcz5_2 : w4.cell? ⟨gb101,2,none⟩ = some (.string a0_2):=(blk_cell BK101.out 2).trans rfl;have hcz5_3 : w4.cell? ⟨gb101,3,none⟩ = some (.slice A0_3 l0_3.length c0_3):=(blk_cell BK101.out 3).trans rfl;have hfz5_0:=blk_frozen BK101.out 0;have hfz5_1:=blk_frozen BK101.out 1;have hfz5_2:=blk_frozen BK101.out 2;have hfz5_3:=blk_frozen BK101.out 3));go_upto_region 16 with (first|((with_reducible refine gate_dst (N:=1) rfl ?_);(try (refine gate_guard (by rfl) ?_;dsimp only));refine box_event ?hg (N:=1) ?hd (cs:=#[.int .i64 a0_0,.bool a0_1,.string a0_2,.slice A0_3 l0_3.length c0_3]) (t:=49) ?hr ?_;(case hd=>rfl);(case hg=>rfl);(case hr=>first|(go_simp;done)|(go_simp;rfl));intro gb101 hg w4 hbox hb;have n0_:=Aside0.mk (below_step (by repeat (first|(with_reducible first|exact HB.out|apply below_alloc|apply pw_below_drewN|apply below_drew1)|exact HB.out)) hb);have n1_:=Aside0.mk (hbox);have n2_:=Aside0.mk ((by rw [hg];exact (below_size (by repeat (first|(with_reducible first|exact HB.out|apply below_alloc|apply pw_below_drewN|apply below_drew1)|exact HB.out))) : w.heap.size ≤ gb101));have n3_:=Aside0.mk ((by rw [hg];exact (below_size (by repeat (first|(with_reducible first|exact HB.out|apply below_alloc|apply pw_below_drewN|apply below_drew1)|exact HB.out))) : w.heap.size ≤ gb101));clear HB;have HB:=n0_;have BK101:=n1_;have GW101:=n2_;have GE101:=n3_;clear n0_ n1_ n2_ n3_;clear hb hbox hg;have hcz5_0 : w4.cell? ⟨gb101,0,none⟩ = some (.int .i64 a0_0):=(blk_cell BK101.out 0).trans rfl;have hcz5_1 : w4.cell? ⟨gb101,1,none⟩ = some (.bool a0_1):=(blk_cell BK101.out 1).trans rfl;have hcz5_2 : w4.cell? ⟨gb101,2,none⟩ = some (.string a0_2):=(blk_cell BK101.out 2).trans rfl;have hcz5_3 : w4.cell? ⟨gb101,3,none⟩ = some (.slice A0_3 l0_3.length c0_3):=(blk_cell BK101.out 3).trans rfl;have hfz5_0:=blk_frozen BK101.out 0;have hfz5_1:=blk_frozen BK101.out 1;have hfz5_2:=blk_frozen BK101.out 2;have hfz5_3:=blk_frozen BK101.out 3)))
  (try simp only [Act.put,List.setIfInBounds_toArray,List.set_cons_zero,List.set_cons_succ])
  go_cut [58] (fun v58 wc=>∃ (kq : Nat) (x58_2 : Bool),v58 = .bool x58_2 ∧ Aside0 (impl_isReNode.j3 kq x58_2 a0_0 a0_1 a0_2 l0_3 = some r) ∧ Aside0 (kq ≤ k) ∧ Aside0 (wc.heap[gb101]? = some (.cells #[.int .i64 a0_0,.bool a0_1,.string a0_2,(.slice A0_3 l0_3.length c0_3)] 49 (0,0))) ∧ Aside0 (Below w.heap.size w wc))
  case first =>
   have H:=HC3.out
   clear HC3
   by_cases c6 : ((a0_2.size : Int) % 2) = 0
   ·rw [if_pos c6] at H
    have c6b0 : (((a0_2.size : Int) % 2) == 0) = true:=beq_iff_eq.mpr c6
    have c6b1 : (((a0_2.size : Int) % 2) != 0) = false:=bne_eq_false_iff_eq.mpr c6
    clear c6
    (first|rw [c6b0]|(simp only [i64_w,i32_w];rw [c6b0])|skip)
    by_cases c7 : (l0_3.length : Int) > 0
    ·rw [if_pos c7] at H
     have c7b0 : decide (0 < (l0_3.length : Int)) = true:=decide_eq_true c7
     have c7b1 : decide (0 < l0_3.length) = true:=decide_eq_true (by omega)
     clear c7
     have H':=Aside0.mk H
     clear H
     have hcz8_0 : w4.cell? ⟨gb101,0,none⟩ = some (.int .i64 a0_0):=(blk_cell BK101.out 0).trans rfl
     have hcz8_1 : w4.cell? ⟨gb101,1,none⟩ = some (.bool a0_1):=(blk_cell BK101.out 1).trans rfl
     have hcz8_2 : w4.cell? ⟨gb101,2,none⟩ = some (.string a0_2):=(blk_cell BK101.out 2).trans rfl
     have hcz8_3 : w4.cell? ⟨gb101,3,none⟩ = some (.slice A0_3 l0_3.length c0_3):=(blk_cell BK101.out 3).trans rfl
     have hfz8_0:=blk_frozen BK101.out 0
     have hfz8_1:=blk_frozen BK101.out 1
     have hfz8_2:=blk_frozen BK101.out 2
     have hfz8_3:=blk_frozen BK101.out 3
     go_wp2
     repeat (go_quiet (fail);try go_wp2)
     go_meet
     case rel=>exact ⟨_,(true),(by first|rfl|(simp;done)|(simp [*];done)),H',⟨by first|omega|exact Nat.le_refl _⟩,⟨by (with_reducible repeat (first|refine blk_drewN ?_ _|refine blk_drew ?_|refine blk_alloc ?_ _));exact BK101.out⟩,⟨by repeat (first|(with_reducible first|exact HB.out|apply below_alloc|apply pw_below_drewN|apply below_drew1|refine below_set ?_ GE101.out)|exact HB.out)⟩⟩
    ·rw [if_neg c7] at H
     have c7b0 : decide (0 < (l0_3.length : Int)) = false:=decide_eq_false c7
     have c7b1 : decide (0 < l0_3.length) = false:=decide_eq_false (by omega)
     clear c7
     by_cases c9 : a0_2.toList = ([] : List UInt8)
     ·rw [if_pos c9] at H
      have c9b0 : (a0_2.toList == ([] : List UInt8)) = true:=beq_iff_eq.mpr c9
      have c9b1 : (a0_2.toList != ([] : List UInt8)) = false:=bne_eq_false_iff_eq.mpr c9
      clear c9
      have H':=Aside0.mk H
      clear H
      have hcz10_0 : w4.cell? ⟨gb101,0,none⟩ = some (.int .i64 a0_0):=(blk_cell BK101.out 0).trans rfl
      have hcz10_1 : w4.cell? ⟨gb101,1,none⟩ = some (.bool a0_1):=(blk_cell BK101.out 1).trans rfl
      have hcz10_2 : w4.cell? ⟨gb101,2,none⟩ = some (.string a0_2):=(blk_cell BK101.out 2).trans rfl
      have hcz10_3 : w4.cell? ⟨gb101,3,none⟩ = some (.slice A0_3 l0_3.length c0_3):=(blk_cell BK101.out 3).trans rfl
      have hfz10_0:=blk_frozen BK101.out 0
      have hfz10_1:=blk_frozen BK101.out 1
      have hfz10_2:=blk_frozen BK101.out 2
      have hfz10_3:=blk_frozen BK101.out 3
      go_wp2
      repeat (go_quiet (fail);try go_wp2)
      go_meet
      case rel=>exact ⟨_,(!a0_1),(by first|rfl|(simp;done)|(simp [*];done)),H',⟨by first|omega|exact Nat.le_refl _⟩,⟨by (with_reducible repeat (first|refine blk_drewN ?_ _|refine blk_drew ?_|refine blk_alloc ?_ _));exact BK101.out⟩,⟨by repeat (first|(with_reducible first|exact HB.out|apply below_alloc|apply pw_below_drewN|apply below_drew1|refine below_set ?_ GE101.out)|exact HB.out)⟩⟩
     ·rw [if_neg c9] at H
      have c9b0 : (a0_2.toList == ([] : List UInt8)) = false:=beq_eq_false_iff_ne.mpr c9
      have c9b1 : (a0_2.toList != ([] : List UInt8)) = true:=bne_iff_ne.mpr c9
      have H':=Aside0.mk H
      clear H
      have hcz11_0 : w4.cell? ⟨gb101,0,none⟩ = some (.int .i64 a0_0):=(blk_cell BK101.out 0).trans rfl
      have hcz11_1 : w4.cell? ⟨gb101,1,none⟩ = some (.bool a0_1):=(blk_cell BK101.out 1).trans rfl
      have hcz11_2 : w4.cell? ⟨gb101,2,none⟩ = some (.string a0_2):=(blk_cell BK101.out 2).trans rfl
      have hcz11_3 : w4.cell? ⟨gb101,3,none⟩ = some (.slice A0_3 l0_3.length c0_3):=(blk_cell BK101.out 3).trans rfl
      have hfz11_0:=blk_frozen BK101.out 0
      have hfz11_1:=blk_frozen BK101.out 1
      have hfz11_2:=blk_frozen BK101.out 2
      have hfz11_3:=blk_frozen BK101.out 3
      go_wp2
      repeat (go_quiet (fail);try go_wp2)
      go_meet
      case rel=>exact ⟨_,(false),(by first|rfl|(simp;done)|(simp [*];done)),H',⟨by first|omega|exact Nat.le_refl _⟩,⟨by (with_reducible repeat (first|refine blk_drewN ?_ _|refine blk_drew ?_|refine blk_alloc ?_ _));exact BK101.out⟩,⟨by repeat (first|(with_reducible first|exact HB.out|apply below_alloc|apply pw_below_drewN|apply below_drew1|refine below_set ?_ GE101.out)|exact HB.out)⟩⟩
   ·rw [if_neg c6] at H
    have c6b0 : (((a0_2.size : Int) % 2) == 0) = false:=beq_eq_false_iff_ne.mpr c6
    have c6b1 : (((a0_2.size : Int) % 2) != 0) = true:=bne_iff_ne.mpr c6
    (first|rw [c6b0]|(simp only [i64_w,i32_w];rw [c6b0])|skip)
    have H':=Aside0.mk H
    clear H
    have hcz12_0 : w4.cell? ⟨gb101,0,none⟩ = some (.int .i64 a0_0):=(blk_cell BK101.out 0).trans rfl
    have hcz12_1 : w4.cell? ⟨gb101,1,none⟩ = some (.bool a0_1):=(blk_cell BK101.out 1).trans rfl
    have hcz12_2 : w4.cell? ⟨gb101,2,none⟩ = some (.string a0_2):=(blk_cell BK101.out 2).trans rfl
    have hcz12_3 : w4.cell? ⟨gb101,3,none⟩ = some (.slice A0_3 l0_3.length c0_3):=(blk_cell BK101.out 3).trans rfl
    have hfz12_0:=blk_frozen BK101.out 0
    have hfz12_1:=blk_frozen BK101.out 1
    have hfz12_2:=blk_frozen BK101.out 2
    have hfz12_3:=blk_frozen BK101.out 3
    go_wp2
    repeat (go_quiet (fail);try go_wp2)
    go_meet
    case rel=>exact ⟨_,(true),(by first|rfl|(simp;done)|(simp [*];done)),H',⟨by first|omega|exact Nat.le_refl _⟩,⟨by (with_reducible repeat (first|refine blk_drewN ?_ _|refine blk_drew ?_|refine blk_alloc ?_ _));exact BK101.out⟩,⟨by repeat (first|(with_reducible first|exact HB.out|apply below_alloc|apply pw_below_drewN|apply below_drew1|refine below_set ?_ GE101.out)|exact HB.out)⟩⟩
  case rest =>
   clear HC3
   try clear c2
   try clear c2b0
   try clear c2b1
   try clear p2
   try clear c6
   try clear c6b0
   try clear c6b1
   try clear c7
   try clear c7b0
   try clear c7b1
   try clear c9
   try clear c9b0
   try clear c9b1
   try clear hcz10_0
   try clear hcz10_1
   try clear hcz10_2
   try clear hcz10_3
   try clear hcz11_0
   try clear hcz11_1
   try clear hcz11_2
   try clear hcz11_3
   try clear hcz12_0
   try clear hcz12_1
   try clear hcz12_2
   try clear hcz12_3
   try clear hcz5_0
   try clear hcz5_1
   try clear hcz5_2
   try clear hcz5_3
   try clear hcz8_0
   try clear hcz8_1
   try clear hcz8_2
   try clear hcz8_3
   try clear hfz10_0
   try clear hfz10_1
   try clear hfz10_2
   try clear hfz10_3
   try clear hfz11_0
   try clear hfz11_1
   try clear hfz11_2
   try clear hfz11_3
   try clear hfz12_0
   try clear hfz12_1
   try clear hfz12_2
   try clear hfz12_3
   try clear hfz5_0
   try clear hfz5_1
   try clear hfz5_2
   try clear hfz5_3
   try clear hfz8_0
   try clear hfz8_1
   try clear hfz8_2
   try clear hfz8_3
   obtain ⟨kq,x58_2,rfl,HA,HJ2,BK101,HB⟩:=hcut
   cases kq with
   | zero=>exact absurd HA.out (by simp [impl_isReNode.j3])
   | succ kj2 =>
    have H:=HA.out
    clear HA
    simp only [impl_isReNode.j3] at H
    by_cases c13 : x58_2 = true
    ·subst c13
     have H1 : (some false) = some r:=by rw [if_pos rfl] at H;exact H
     clear H
     have H:=H1
     clear H1
     obtain rfl:=Option.some.inj H
     go_wp2
     repeat (go_quiet (fail);try go_wp2)
     go_ret
     exact ⟨by first|rfl|(simp [errW_none,errW_some] <;> rfl)|(simp [*,errW_none,errW_some] <;> rfl)|(congr 2;generalize ByteArray.toList _ = l_;cases l_ <;> rfl),by repeat (first|(with_reducible first|exact HB.out|apply below_alloc|apply pw_below_drewN|apply below_drew1|refine below_set ?_ GE101.out)|exact HB.out)⟩
    ·replace c13:=Bool.eq_false_iff.mpr c13
     subst c13
     have H1 : (impl_isReNode.l0 kj2 0 a0_0 a0_1 a0_2 l0_3) = some r:=by rw [if_neg (show ¬ (false = true) by decide)] at H;exact H
     clear H
     have H:=H1
     clear H1
     have H':=Aside0.mk H
     clear H
     go_wp2
     repeat (go_quiet (fail);try go_wp2)
     go_loopg [3] kj2 (fun kq v3 w'=>∃ (x3_2 : Int),v3 = .int .i64 x3_2 ∧ Aside0 (impl_isReNode.l0 kq x3_2 a0_0 a0_1 a0_2 l0_3 = some r) ∧ Aside0 (kq ≤ kj2) ∧ Aside0 (w'.heap[gb101]? = some (.cells #[.int .i64 a0_0,.bool a0_1,.string a0_2,(.slice A0_3 l0_3.length c0_3)] 49 (0,0))) ∧ Aside0 (Below w.heap.size w w'))
     case atStart=>exact ⟨(0),(by first|rfl|(simp;done)|(simp [*];done)),H',⟨Nat.le_refl _⟩,⟨by (with_reducible repeat (first|refine blk_drewN ?_ _|refine blk_drew ?_|refine blk_alloc ?_ _));exact BK101.out⟩,⟨by repeat (first|(with_reducible first|exact HB.out|apply below_alloc|apply pw_below_drewN|apply below_drew1|refine below_set ?_ GE101.out)|exact HB.out)⟩⟩
     case round =>
      clear H'
      try clear c1
      try clear c2
      try clear c2b0
      try clear c2b1
      try clear p2
      try clear c6
      try clear c6b0
      try clear c6b1
      try clear c7
      try clear c7b0
      try clear c7b1
      try clear c9
      try clear c9b0
      try clear c9b1
      try clear c13
      try clear hcz10_0
      try clear hcz10_1
      try clear hcz10_2
      try clear hcz10_3
      try clear hcz11_0
      try clear hcz11_1
      try clear hcz11_2
      try clear hcz11_3
      try clear hcz12_0
      try clear hcz12_1
      try clear hcz12_2
      try clear hcz12_3
      try clear hcz5_0
      try clear hcz5_1
      try clear hcz5_2
      try clear hcz5_3
      try clear hcz8_0
      try clear hcz8_1
      try clear hcz8_2
      try clear hcz8_3
      try clear hfz10_0
      try clear hfz10_1
      try clear hfz10_2
      try clear hfz10_3
      try clear hfz11_0
      try clear hfz11_1
      try clear hfz11_2
      try clear hfz11_3
      try clear hfz12_0
      try clear hfz12_1
      try clear hfz12_2
      try clear hfz12_3
      try clear hfz5_0
      try clear hfz5_1
      try clear hfz5_2
      try clear hfz5_3
      try clear hfz8_0
      try clear hfz8_1
      try clear hfz8_2
      try clear hfz8_3
      try clear p2
      obtain ⟨x3_2,rfl,HA,HK2,BK101,HB⟩:=hrel
      cases gk with
      | zero=>exact absurd HA.out (by simp [impl_isReNode.l0])
      | succ k2 =>
       have H:=HA.out
       clear HA
       simp only [impl_isReNode.l0] at H
       by_cases c14 : x3_2 < (a0_2.size : Int)
       ·rw [if_pos c14] at H
        have c14b0 : decide (x3_2 < (a0_2.size : Int)) = true:=decide_eq_true c14
        clear c14
        obtain ⟨ji15,hji15⟩ : ∃ j_ : Int,(wrap64 (x3_2 + 1)) = j_:=⟨_,rfl⟩
        replace H : (if 0 ≤ (ji15) then (if (ji15) < (a0_2.size : Int) then (if 0 ≤ x3_2 then (if (bt a0_2 (ji15)) < (bt a0_2 x3_2) then (some false) else (impl_isReNode.l0 k2 (wrap64 (x3_2 + 2)) a0_0 a0_1 a0_2 l0_3)) else (none)) else (none)) else (none)) = some r:=by first|(rw [hji15] at H;exact H)|(simp only [hji15] at H ⊢;exact H)
        have hji15w : (IntKind.i64.wrap (x3_2 + 1)) = ji15:=(i64_w _).trans hji15
        by_cases c16 : 0 ≤ (ji15)
        ·rw [if_pos c16] at H
         have c16b0 : decide (0 ≤ (ji15)) = true:=decide_eq_true c16
         clear c16
         by_cases c17 : (ji15) < (a0_2.size : Int)
         ·rw [if_pos c17] at H
          have c17b0 : decide ((ji15) < (a0_2.size : Int)) = true:=decide_eq_true c17
          clear c17
          by_cases c19 : 0 ≤ x3_2
          ·rw [if_pos c19] at H
           have c19b0 : decide (0 ≤ x3_2) = true:=decide_eq_true c19
           clear c19
           by_cases c21 : (bt a0_2 (ji15)) < (bt a0_2 x3_2)
           ·rw [if_pos c21] at H
            have c21b0 : decide ((bt a0_2 (ji15)) < (bt a0_2 x3_2)) = true:=decide_eq_true c21
            clear c21
            obtain rfl:=Option.some.inj H
            have hcz22_0 : wr.cell? ⟨gb101,0,none⟩ = some (.int .i64 a0_0):=(blk_cell BK101.out 0).trans rfl
            have hcz22_1 : wr.cell? ⟨gb101,1,none⟩ = some (.bool a0_1):=(blk_cell BK101.out 1).trans rfl
            have hcz22_2 : wr.cell? ⟨gb101,2,none⟩ = some (.string a0_2):=(blk_cell BK101.out 2).trans rfl
            have hcz22_3 : wr.cell? ⟨gb101,3,none⟩ = some (.slice A0_3 l0_3.length c0_3):=(blk_cell BK101.out 3).trans rfl
            have hfz22_0:=blk_frozen BK101.out 0
            have hfz22_1:=blk_frozen BK101.out 1
            have hfz22_2:=blk_frozen BK101.out 2
            have hfz22_3:=blk_frozen BK101.out 3
            have p18 : 0 ≤ ((ji15) : Int):=of_decide_eq_true (by first|(with_reducible assumption)|assumption)
            have q18 : (ji15) < (a0_2.size : Int):=of_decide_eq_true (by first|(with_reducible assumption)|assumption)
            have hx18:=bt_at a0_2 (ji15)
            replace p18:=eq_true p18
            replace q18:=eq_true q18
            have p20 : 0 ≤ (x3_2 : Int):=of_decide_eq_true (by first|(with_reducible assumption)|assumption)
            have q20 : x3_2 < (a0_2.size : Int):=of_decide_eq_true (by first|(with_reducible assumption)|assumption)
            have hx20:=bt_at a0_2 x3_2
            replace p20:=eq_true p20
            replace q20:=eq_true q20
            go_wp2
            repeat (go_quiet (fail);try go_wp2)
            go_ret
            exact ⟨by first|rfl|(simp [errW_none,errW_some] <;> rfl)|(simp only [← hji15];first|rfl|(simp [errW_none,errW_some] <;> rfl))|(simp [*,errW_none,errW_some] <;> rfl)|(congr 2;generalize ByteArray.toList _ = l_;cases l_ <;> rfl),by repeat (first|(with_reducible first|exact HB.out|apply below_alloc|apply pw_below_drewN|apply below_drew1|refine below_set ?_ GE101.out)|exact HB.out)⟩
           ·rw [if_neg c21] at H
            have c21b0 : decide ((bt a0_2 (ji15)) < (bt a0_2 x3_2)) = false:=decide_eq_false c21
            clear c21
            have H':=Aside0.mk H
            clear H
            have hcz23_0 : wr.cell? ⟨gb101,0,none⟩ = some (.int .i64 a0_0):=(blk_cell BK101.out 0).trans rfl
            have hcz23_1 : wr.cell? ⟨gb101,1,none⟩ = some (.bool a0_1):=(blk_cell BK101.out 1).trans rfl
            have hcz23_2 : wr.cell? ⟨gb101,2,none⟩ = some (.string a0_2):=(blk_cell BK101.out 2).trans rfl
            have hcz23_3 : wr.cell? ⟨gb101,3,none⟩ = some (.slice A0_3 l0_3.length c0_3):=(blk_cell BK101.out 3).trans rfl
            have hfz23_0:=blk_frozen BK101.out 0
            have hfz23_1:=blk_frozen BK101.out 1
            have hfz23_2:=blk_frozen BK101.out 2
            have hfz23_3:=blk_frozen BK101.out 3
            have p18 : 0 ≤ ((ji15) : Int):=of_decide_eq_true (by first|(with_reducible assumption)|assumption)
            have q18 : (ji15) < (a0_2.size : Int):=of_decide_eq_true (by first|(with_reducible assumption)|assumption)
            have hx18:=bt_at a0_2 (ji15)
            replace p18:=eq_true p18
            replace q18:=eq_true q18
            have p20 : 0 ≤ (x3_2 : Int):=of_decide_eq_true (by first|(with_reducible assumption)|assumption)
            have q20 : x3_2 < (a0_2.size : Int):=of_decide_eq_true (by first|(with_reducible assumption)|assumption)
            have hx20:=bt_at a0_2 x3_2
            replace p20:=eq_true p20
            replace q20:=eq_true q20
            go_wp2
            repeat (go_quiet (fail);try go_wp2)
            go_roundg k2
            case measure=>have:=HJ2.out;have:=HK2.out;omega
            case rel=>exact ⟨(wrap64 (x3_2 + 2)),(by first|rfl|(simp;done)|(simp [*];done)),H',⟨by have:=HJ2.out;have:=HK2.out;omega⟩,⟨by (with_reducible repeat (first|refine blk_drewN ?_ _|refine blk_drew ?_|refine blk_alloc ?_ _));exact BK101.out⟩,⟨by repeat (first|(with_reducible first|exact HB.out|apply below_alloc|apply pw_below_drewN|apply below_drew1|refine below_set ?_ GE101.out)|exact HB.out)⟩⟩
          ·rw [if_neg c19] at H
           exact absurd H (by simp)
         ·rw [if_neg c17] at H
          exact absurd H (by simp)
        ·rw [if_neg c16] at H
         exact absurd H (by simp)
       ·rw [if_neg c14] at H
        have c14b0 : decide (x3_2 < (a0_2.size : Int)) = false:=decide_eq_false c14
        clear c14
        obtain rfl:=Option.some.inj H
        have hcz24_0 : wr.cell? ⟨gb101,0,none⟩ = some (.int .i64 a0_0):=(blk_cell BK101.out 0).trans rfl
        have hcz24_1 : wr.cell? ⟨gb101,1,none⟩ = some (.bool a0_1):=(blk_cell BK101.out 1).trans rfl
        have hcz24_2 : wr.cell? ⟨gb101,2,none⟩ = some (.string a0_2):=(blk_cell BK101.out 2).trans rfl
        have hcz24_3 : wr.cell? ⟨gb101,3,none⟩ = some (.slice A0_3 l0_3.length c0_3):=(blk_cell BK101.out 3).trans rfl
        have hfz24_0:=blk_frozen BK101.out 0
        have hfz24_1:=blk_frozen BK101.out 1
        have hfz24_2:=blk_frozen BK101.out 2
        have hfz24_3:=blk_frozen BK101.out 3
        go_wp2
        repeat (go_quiet (fail);try go_wp2)
        go_ret
        exact ⟨by first|rfl|(simp [errW_none,errW_some] <;> rfl)|(simp [*,errW_none,errW_some] <;> rfl)|(congr 2;generalize ByteArray.toList _ = l_;cases l_ <;> rfl),by repeat (first|(with_reducible first|exact HB.out|apply below_alloc|apply pw_below_drewN|apply below_drew1|refine below_set ?_ GE101.out)|exact HB.out)⟩
 ·rw [if_neg c2] at H
  have c2b0 : (a0_0 == 0) = false:=beq_eq_false_iff_ne.mpr c2
  have c2b1 : (a0_0 != 0) = true:=bne_iff_ne.mpr c2
  have HC25:=Aside0.mk H
  clear H
  go_enter Tryd.func74,Tryd.ntmps74
  go_upto_region 2 with (first|((with_reducible refine gate_dst (N:=1) rfl ?_);(try (refine gate_guard (by rfl) ?_;dsimp only));refine box_event ?hg (N:=1) ?hd (cs:=#[.int .i64 a0_0,.bool a0_1,.string a0_2,.slice A0_3 l0_3.length c0_3]) (t:=49) ?hr ?_;(case hd=>rfl);(case hg=>rfl);(case hr=>first|(go_simp;done)|(go_simp;rfl));intro gb101 hg w26 hbox hb;have n0_:=Aside0.mk (below_step (by repeat (first|(with_reducible first|exact HB.out|apply below_alloc|apply pw_below_drewN|apply below_drew1)|exact HB.out)) hb);have n1_:=Aside0.mk (hbox);have n2_:=Aside0.mk ((by rw [hg];exact (below_size (by repeat (first|(with_reducible first|exact HB.out|apply below_alloc|apply pw_below_drewN|apply below_drew1)|exact HB.out))) : w.heap.size ≤ gb101));have n3_:=Aside0.mk ((by rw [hg];exact (below_size (by repeat (first|(with_reducible first|exact HB.out|apply below_alloc|apply pw_below_drewN|apply below_drew1)|exact HB.out))) : w.heap.size ≤ gb101));clear HB;have HB:=n0_;have BK101:=n1_;have GW101:=n2_;have GE101:=n3_;clear n0_ n1_ n2_ n3_;clear hb hbox hg;have hcz27_0 : w26.cell? ⟨gb101,0,none⟩ = some (.int .i64 a0_0):=(blk_cell BK101.out 0).trans rfl;have hcz27_1 : w26.cell? ⟨gb101,1,none⟩ = some (.bool a0_1):=(blk_cell BK101.out 1).trans rfl;have hcz27_2 : w26.cell? ⟨gb101,2,none⟩ = some (.string a0_2):=(blk_cell BK101.out 2).trans rfl;have hcz27_3 : w26.cell? ⟨gb101,3,none⟩ = some (.slice A0_3 l0_3.length c0_3):=(blk_cell BK101.out 3).trans rfl;have hfz27_0:=blk_frozen BK101.out 0;have hfz27_1:=blk_frozen BK101.out 1;have hfz27_2:=blk_frozen BK101.out 2;have hfz27_3:=blk_frozen BK101.out 3))
  repeat (go_quiet (first|((with_reducible refine gate_dst (N:=1) rfl ?_);(try (refine gate_guard (by rfl) ?_;dsimp only));refine box_event ?hg (N:=1) ?hd (cs:=#[.int .i64 a0_0,.bool a0_1,.string a0_2,.slice A0_3 l0_3.length c0_3]) (t:=49) ?hr ?_;(case hd=>rfl);(case hg=>rfl);(case hr=>first|(go_simp;done)|(go_simp;rfl));intro gb101 hg w26 hbox hb;have n0_:=Aside0.mk (below_step (by repeat (first|(with_reducible first|exact HB.out|apply below_alloc|apply pw_below_drewN|apply below_drew1)|exact HB.out)) hb);have n1_:=Aside0.mk (hbox);have n2_:=Aside0.mk ((by rw [hg];exact (below_size (by repeat (first|(with_reducible first|exact HB.out|apply below_alloc|apply pw_below_drewN|apply below_drew1)|exact HB.out))) : w.heap.size ≤ gb101));have n3_:=Aside0.mk ((by rw [hg];exact (below_size (by repeat (first|(with_reducible first|exact HB.out|apply below_alloc|apply pw_below_drewN|apply below_drew1)|exact HB.out))) : w.heap.size ≤ gb101));clear HB;have HB:=n0_;have BK101:=n1_;have GW101:=n2_;have GE101:=n3_;clear n0_ n1_ n2_ n3_;clear hb hbox hg;have hcz27_0 : w26.cell? ⟨gb101,0,none⟩ = some (.int .i64 a0_0):=(blk_cell BK101.out 0).trans rfl;have hcz27_1 : w26.cell? ⟨gb101,1,none⟩ = some (.bool a0_1):=(blk_cell BK101.out 1).trans rfl;have hcz27_2 : w26.cell? ⟨gb101,2,none⟩ = some (.string a0_2):=(blk_cell BK101.out 2).trans rfl;have hcz27_3 : w26.cell? ⟨gb101,3,none⟩ = some (.slice A0_3 l0_3.length c0_3):=(blk_cell BK101.out 3).trans rfl;have hfz27_0:=blk_frozen BK101.out 0;have hfz27_1:=blk_frozen BK101.out 1;have hfz27_2:=blk_frozen BK101.out 2;have hfz27_3:=blk_frozen BK101.out 3));go_upto_region 2 with (first|((with_reducible refine gate_dst (N:=1) rfl ?_);(try (refine gate_guard (by rfl) ?_;dsimp only));refine box_event ?hg (N:=1) ?hd (cs:=#[.int .i64 a0_0,.bool a0_1,.string a0_2,.slice A0_3 l0_3.length c0_3]) (t:=49) ?hr ?_;(case hd=>rfl);(case hg=>rfl);(case hr=>first|(go_simp;done)|(go_simp;rfl));intro gb101 hg w26 hbox hb;have n0_:=Aside0.mk (below_step (by repeat (first|(with_reducible first|exact HB.out|apply below_alloc|apply pw_below_drewN|apply below_drew1)|exact HB.out)) hb);have n1_:=Aside0.mk (hbox);have n2_:=Aside0.mk ((by rw [hg];exact (below_size (by repeat (first|(with_reducible first|exact HB.out|apply below_alloc|apply pw_below_drewN|apply below_drew1)|exact HB.out))) : w.heap.size ≤ gb101));have n3_:=Aside0.mk ((by rw [hg];exact (below_size (by repeat (first|(with_reducible first|exact HB.out|apply below_alloc|apply pw_below_drewN|apply below_drew1)|exact HB.out))) : w.heap.size ≤ gb101));clear HB;have HB:=n0_;have BK101:=n1_;have GW101:=n2_;have GE101:=n3_;clear n0_ n1_ n2_ n3_;clear hb hbox hg;have hcz27_0 : w26.cell? ⟨gb101,0,none⟩ = some (.int .i64 a0_0):=(blk_cell BK101.out 0).trans rfl;have hcz27_1 : w26.cell? ⟨gb101,1,none⟩ = some (.bool a0_1):=(blk_cell BK101.out 1).trans rfl;have hcz27_2 : w26.cell? ⟨gb101,2,none⟩ = some (.string a0_2):=(blk_cell BK101.out 2).trans rfl;have hcz27_3 : w26.cell? ⟨gb101,3,none⟩ = some (.slice A0_3 l0_3.length c0_3):=(blk_cell BK101.out 3).trans rfl;have hfz27_0:=blk_frozen BK101.out 0;have hfz27_1:=blk_frozen BK101.out 1;have hfz27_2:=blk_frozen BK101.out 2;have hfz27_3:=blk_frozen BK101.out 3)))
  (try simp only [Act.put,List.setIfInBounds_toArray,List.set_cons_zero,List.set_cons_succ])
  go_cut [13] (fun v13 wc=>∃ (kq : Nat) (x13_24 : Bool),v13 = .bool x13_24 ∧ Aside0 (impl_isReNode.j0 kq x13_24 a0_0 a0_1 a0_2 l0_3 = some r) ∧ Aside0 (kq ≤ k) ∧ Aside0 (wc.heap[gb101]? = some (.cells #[.int .i64 a0_0,.bool a0_1,.string a0_2,(.slice A0_3 l0_3.length c0_3)] 49 (0,0))) ∧ Aside0 (Below w.heap.size w wc))
  case first =>
   have H:=HC25.out
   clear HC25
   by_cases c28 : a0_1 = true
   ·subst c28
    have H1 : (impl_isReNode.j0 k true a0_0 true a0_2 l0_3) = some r:=by rw [if_pos rfl] at H;exact H
    clear H
    have H:=H1
    clear H1
    have H':=Aside0.mk H
    clear H
    have hcz29_0 : w26.cell? ⟨gb101,0,none⟩ = some (.int .i64 a0_0):=(blk_cell BK101.out 0).trans rfl
    have hcz29_1 : w26.cell? ⟨gb101,1,none⟩ = some (.bool true):=(blk_cell BK101.out 1).trans rfl
    have hcz29_2 : w26.cell? ⟨gb101,2,none⟩ = some (.string a0_2):=(blk_cell BK101.out 2).trans rfl
    have hcz29_3 : w26.cell? ⟨gb101,3,none⟩ = some (.slice A0_3 l0_3.length c0_3):=(blk_cell BK101.out 3).trans rfl
    have hfz29_0:=blk_frozen BK101.out 0
    have hfz29_1:=blk_frozen BK101.out 1
    have hfz29_2:=blk_frozen BK101.out 2
    have hfz29_3:=blk_frozen BK101.out 3
    go_wp2
    repeat (go_quiet (fail);try go_wp2)
    go_meet
    case rel=>exact ⟨_,(true),(by first|rfl|(simp;done)|(simp [*];done)),H',⟨by first|omega|exact Nat.le_refl _⟩,⟨by (with_reducible repeat (first|refine blk_drewN ?_ _|refine blk_drew ?_|refine blk_alloc ?_ _));exact BK101.out⟩,⟨by repeat (first|(with_reducible first|exact HB.out|apply below_alloc|apply pw_below_drewN|apply below_drew1|refine below_set ?_ GE101.out)|exact HB.out)⟩⟩
   ·replace c28:=Bool.eq_false_iff.mpr c28
    subst c28
    have H1 : (impl_isReNode.j0 k (a0_2.toList != ([] : List UInt8)) a0_0 false a0_2 l0_3) = some r:=by rw [if_neg (show ¬ (false = true) by decide)] at H;exact H
    clear H
    have H:=H1
    clear H1
    have H':=Aside0.mk H
    clear H
    have hcz30_0 : w26.cell? ⟨gb101,0,none⟩ = some (.int .i64 a0_0):=(blk_cell BK101.out 0).trans rfl
    have hcz30_1 : w26.cell? ⟨gb101,1,none⟩ = some (.bool false):=(blk_cell BK101.out 1).trans rfl
    have hcz30_2 : w26.cell? ⟨gb101,2,none⟩ = some (.string a0_2):=(blk_cell BK101.out 2).trans rfl
    have hcz30_3 : w26.cell? ⟨gb101,3,none⟩ = some (.slice A0_3 l0_3.length c0_3):=(blk_cell BK101.out 3).trans rfl
    have hfz30_0:=blk_frozen BK101.out 0
    have hfz30_1:=blk_frozen BK101.out 1
    have hfz30_2:=blk_frozen BK101.out 2
    have hfz30_3:=blk_frozen BK101.out 3
    go_wp2
    repeat (go_quiet (fail);try go_wp2)
    go_meet
    case rel=>exact ⟨_,((a0_2.toList != ([] : List UInt8))),(by first|rfl|(simp;done)|(simp [*];done)|(congr 1;generalize ByteArray.toList _ = l_;cases l_ <;> rfl)|(generalize ByteArray.toList _ = l_;cases l_ <;> rfl)),H',⟨by first|omega|exact Nat.le_refl _⟩,⟨by (with_reducible repeat (first|refine blk_drewN ?_ _|refine blk_drew ?_|refine blk_alloc ?_ _));exact BK101.out⟩,⟨by repeat (first|(with_reducible first|exact HB.out|apply below_alloc|apply pw_below_drewN|apply below_drew1|refine below_set ?_ GE101.out)|exact HB.out)⟩⟩
  case rest =>
   clear HC25
   try clear c1
   try clear p1
   try clear q1
   try clear hx1
   try clear c2
   try clear c2b0
   try clear c2b1
   try clear p2
   try clear q2
   try clear hx2
   try clear c6
   try clear c6b0
   try clear c6b1
   try clear p6
   try clear c7
   try clear c7b0
   try clear c7b1
   try clear c9
   try clear c9b0
   try clear c9b1
   try clear c13
   try clear c14
   try clear c14b0
   try clear c16
   try clear c16b0
   try clear c17
   try clear c17b0
   try clear p18
   try clear q18
   try clear hx18
   try clear c19
   try clear c19b0
   try clear p20
   try clear q20
   try clear hx20
   try clear c21
   try clear c21b0
   try clear c28
   try clear hcz10_0
   try clear hcz10_1
   try clear hcz10_2
   try clear hcz10_3
   try clear hcz11_0
   try clear hcz11_1
   try clear hcz11_2
   try clear hcz11_3
   try clear hcz12_0
   try clear hcz12_1
   try clear hcz12_2
   try clear hcz12_3
   try clear hcz22_0
   try clear hcz22_1
   try clear hcz22_2
   try clear hcz22_3
   try clear hcz23_0
   try clear hcz23_1
   try clear hcz23_2
   try clear hcz23_3
   try clear hcz24_0
   try clear hcz24_1
   try clear hcz24_2
   try clear hcz24_3
   try clear hcz27_0
   try clear hcz27_1
   try clear hcz27_2
   try clear hcz27_3
   try clear hcz29_0
   try clear hcz29_1
   try clear hcz29_2
   try clear hcz29_3
   try clear hcz30_0
   try clear hcz30_1
   try clear hcz30_2
   try clear hcz30_3
   try clear hcz5_0
   try clear hcz5_1
   try clear hcz5_2
   try clear hcz5_3
   try clear hcz8_0
   try clear hcz8_1
   try clear hcz8_2
   try clear hcz8_3
   try clear hfz10_0
   try clear hfz10_1
   try clear hfz10_2
   try clear hfz10_3
   try clear hfz11_0
   try clear hfz11_1
   try clear hfz11_2
   try clear hfz11_3
   try clear hfz12_0
   try clear hfz12_1
   try clear hfz12_2
   try clear hfz12_3
   try clear hfz22_0
   try clear hfz22_1
   try clear hfz22_2
   try clear hfz22_3
   try clear hfz23_0
   try clear hfz23_1
   try clear hfz23_2
   try clear hfz23_3
   try clear hfz24_0
   try clear hfz24_1
   try clear hfz24_2
   try clear hfz24_3
   try clear hfz27_0
   try clear hfz27_1
   try clear hfz27_2
   try clear hfz27_3
   try clear hfz29_0
   try clear hfz29_1
   try clear hfz29_2
   try clear hfz29_3
   try clear hfz30_0
   try clear hfz30_1
   try clear hfz30_2
   try clear hfz30_3
   try clear hfz5_0
   try clear hfz5_1
   try clear hfz5_2
   try clear hfz5_3
   try clear hfz8_0
   try clear hfz8_1
   try clear hfz8_2
   try clear hfz8_3
   try clear p18
   try clear p2
   try clear p20
   try clear q18
   try clear q20
   obtain ⟨kq,x13_24,rfl,HA,HJ24,BK101,HB⟩:=hcut
   cases kq with
   | zero=>exact absurd HA.out (by simp [impl_isReNode.j0])
   | succ kj24 =>
    have H:=HA.out
    clear HA
    simp only [impl_isReNode.j0] at H
    by_cases c31 : x13_24 = true
    ·subst c31
     have H1 : (some false) = some r:=by rw [if_pos rfl] at H;exact H
     clear H
     have H:=H1
     clear H1
     obtain rfl:=Option.some.inj H
     go_wp2
     repeat (go_quiet (fail);try go_wp2)
     go_ret
     exact ⟨by first|rfl|(simp [errW_none,errW_some] <;> rfl)|(simp [*,errW_none,errW_some] <;> rfl)|(congr 2;generalize ByteArray.toList _ = l_;cases l_ <;> rfl),by repeat (first|(with_reducible first|exact HB.out|apply below_alloc|apply pw_below_drewN|apply below_drew1|refine below_set ?_ GE101.out)|exact HB.out)⟩
    ·replace c31:=Bool.eq_false_iff.mpr c31
     subst c31
     have H1 : (if a0_0 = 1 then (impl_isReNode.j1 kj24 a0_0 (a0_0 == 1) a0_0 a0_1 a0_2 l0_3) else (impl_isReNode.j1 kj24 a0_0 (a0_0 == 2) a0_0 a0_1 a0_2 l0_3)) = some r:=by rw [if_neg (show ¬ (false = true) by decide)] at H;exact H
     clear H
     have H:=H1
     clear H1
     have HC32:=Aside0.mk H
     clear H
     have hcz33_0 : wc.cell? ⟨gb101,0,none⟩ = some (.int .i64 a0_0):=(blk_cell BK101.out 0).trans rfl
     have hcz33_1 : wc.cell? ⟨gb101,1,none⟩ = some (.bool a0_1):=(blk_cell BK101.out 1).trans rfl
     have hcz33_2 : wc.cell? ⟨gb101,2,none⟩ = some (.string a0_2):=(blk_cell BK101.out 2).trans rfl
     have hcz33_3 : wc.cell? ⟨gb101,3,none⟩ = some (.slice A0_3 l0_3.length c0_3):=(blk_cell BK101.out 3).trans rfl
     have hfz33_0:=blk_frozen BK101.out 0
     have hfz33_1:=blk_frozen BK101.out 1
     have hfz33_2:=blk_frozen BK101.out 2
     have hfz33_3:=blk_frozen BK101.out 3
     go_upto_if 16 with (fail)
     repeat (go_quiet (fail);go_upto_if 16 with (fail))
     go_cut [16] (fun v16 wc=>∃ (kq : Nat) (x16_31 : Bool),v16 = .bool x16_31 ∧ Aside0 (impl_isReNode.j1 kq a0_0 x16_31 a0_0 a0_1 a0_2 l0_3 = some r) ∧ Aside0 (kq ≤ kj24) ∧ Aside0 (wc.heap[gb101]? = some (.cells #[.int .i64 a0_0,.bool a0_1,.string a0_2,(.slice A0_3 l0_3.length c0_3)] 49 (0,0))) ∧ Aside0 (Below w.heap.size w wc))
     case first =>
      have H:=HC32.out
      clear HC32
      by_cases c34 : a0_0 = 1
      ·rw [if_pos c34] at H
       have c34b0 : (a0_0 == 1) = true:=beq_iff_eq.mpr c34
       have c34b1 : (a0_0 != 1) = false:=bne_eq_false_iff_eq.mpr c34
       clear c34
       (first|rw [c34b0]|(simp only [i64_w,i32_w];rw [c34b0])|skip)
       have H':=Aside0.mk H
       clear H
       go_wp2
       repeat (go_quiet (fail);try go_wp2)
       go_meet
       case rel=>exact ⟨_,((a0_0 == 1)),(by first|rfl|(simp;done)|(simp [*];done)),H',⟨by have:=HJ24.out;first|omega|exact Nat.le_refl _⟩,⟨by (with_reducible repeat (first|refine blk_drewN ?_ _|refine blk_drew ?_|refine blk_alloc ?_ _));exact BK101.out⟩,⟨by repeat (first|(with_reducible first|exact HB.out|apply below_alloc|apply pw_below_drewN|apply below_drew1|refine below_set ?_ GE101.out)|exact HB.out)⟩⟩
      ·rw [if_neg c34] at H
       have c34b0 : (a0_0 == 1) = false:=beq_eq_false_iff_ne.mpr c34
       have c34b1 : (a0_0 != 1) = true:=bne_iff_ne.mpr c34
       (first|rw [c34b0]|(simp only [i64_w,i32_w];rw [c34b0])|skip)
       have H':=Aside0.mk H
       clear H
       go_wp2
       repeat (go_quiet (fail);try go_wp2)
       go_meet
       case rel=>exact ⟨_,((a0_0 == 2)),(by first|rfl|(simp;done)|(simp [*];done)),H',⟨by have:=HJ24.out;first|omega|exact Nat.le_refl _⟩,⟨by (with_reducible repeat (first|refine blk_drewN ?_ _|refine blk_drew ?_|refine blk_alloc ?_ _));exact BK101.out⟩,⟨by repeat (first|(with_reducible first|exact HB.out|apply below_alloc|apply pw_below_drewN|apply below_drew1|refine below_set ?_ GE101.out)|exact HB.out)⟩⟩
     case rest =>
      clear HC32
      try clear c1
      try clear p1
      try clear q1
      try clear hx1
      try clear c2
      try clear c2b0
      try clear c2b1
      try clear p2
      try clear q2
      try clear hx2
      try clear c3
      try clear c6
      try clear c6b0
      try clear c6b1
      try clear p6
      try clear c7
      try clear c7b0
      try clear c7b1
      try clear c9
      try clear c9b0
      try clear c9b1
      try clear c13
      try clear c14
      try clear c14b0
      try clear c16
      try clear c16b0
      try clear c17
      try clear c17b0
      try clear p18
      try clear q18
      try clear hx18
      try clear c19
      try clear c19b0
      try clear p20
      try clear q20
      try clear hx20
      try clear c21
      try clear c21b0
      try clear c28
      try clear c31
      try clear c34
      try clear c34b0
      try clear c34b1
      try clear hcz10_0
      try clear hcz10_1
      try clear hcz10_2
      try clear hcz10_3
      try clear hcz11_0
      try clear hcz11_1
      try clear hcz11_2
      try clear hcz11_3
      try clear hcz12_0
      try clear hcz12_1
      try clear hcz12_2
      try clear hcz12_3
      try clear hcz22_0
      try clear hcz22_1
      try clear hcz22_2
      try clear hcz22_3
      try clear hcz23_0
      try clear hcz23_1
      try clear hcz23_2
      try clear hcz23_3
      try clear hcz24_0
      try clear hcz24_1
      try clear hcz24_2
      try clear hcz24_3
      try clear hcz27_0
      try clear hcz27_1
      try clear hcz27_2
      try clear hcz27_3
      try clear hcz29_0
      try clear hcz29_1
      try clear hcz29_2
      try clear hcz29_3
      try clear hcz30_0
      try clear hcz30_1
      try clear hcz30_2
      try clear hcz30_3
      try clear hcz33_0
      try clear hcz33_1
      try clear hcz33_2
      try clear hcz33_3
      try clear hcz5_0
      try clear hcz5_1
      try clear hcz5_2
      try clear hcz5_3
      try clear hcz8_0
      try clear hcz8_1
      try clear hcz8_2
      try clear hcz8_3
      try clear hfz10_0
      try clear hfz10_1
      try clear hfz10_2
      try clear hfz10_3
      try clear hfz11_0
      try clear hfz11_1
      try clear hfz11_2
      try clear hfz11_3
      try clear hfz12_0
      try clear hfz12_1
      try clear hfz12_2
      try clear hfz12_3
      try clear hfz22_0
      try clear hfz22_1
      try clear hfz22_2
      try clear hfz22_3
      try clear hfz23_0
      try clear hfz23_1
      try clear hfz23_2
      try clear hfz23_3
      try clear hfz24_0
      try clear hfz24_1
      try clear hfz24_2
      try clear hfz24_3
      try clear hfz27_0
      try clear hfz27_1
      try clear hfz27_2
      try clear hfz27_3
      try clear hfz29_0
      try clear hfz29_1
      try clear hfz29_2
      try clear hfz29_3
      try clear hfz30_0
      try clear hfz30_1
      try clear hfz30_2
      try clear hfz30_3
      try clear hfz33_0
      try clear hfz33_1
      try clear hfz33_2
      try clear hfz33_3
      try clear hfz5_0
      try clear hfz5_1
      try clear hfz5_2
      try clear hfz5_3
      try clear hfz8_0
      try clear hfz8_1
      try clear hfz8_2
      try clear hfz8_3
      try clear p1
      try clear p18
      try clear p2
      try clear p20
      try clear p6
      try clear q1
      try clear q18
      try clear q2
      try clear q20
      obtain ⟨kq,x16_31,rfl,HA,HJ31,BK101,HB⟩:=hcut
      cases kq with
      | zero=>exact absurd HA.out (by simp [impl_isReNode.j1])
      | succ kj31 =>
       have H:=HA.out
       clear HA
       simp only [impl_isReNode.j1] at H
       by_cases c35 : x16_31 = true
       ·subst c35
        have H1 : (some ((l0_3.length : Int) == 0)) = some r:=by rw [if_pos rfl] at H;exact H
        clear H
        have H:=H1
        clear H1
        obtain rfl:=Option.some.inj H
        have hcz36_0 : wc.cell? ⟨gb101,0,none⟩ = some (.int .i64 a0_0):=(blk_cell BK101.out 0).trans rfl
        have hcz36_1 : wc.cell? ⟨gb101,1,none⟩ = some (.bool a0_1):=(blk_cell BK101.out 1).trans rfl
        have hcz36_2 : wc.cell? ⟨gb101,2,none⟩ = some (.string a0_2):=(blk_cell BK101.out 2).trans rfl
        have hcz36_3 : wc.cell? ⟨gb101,3,none⟩ = some (.slice A0_3 l0_3.length c0_3):=(blk_cell BK101.out 3).trans rfl
        have hfz36_0:=blk_frozen BK101.out 0
        have hfz36_1:=blk_frozen BK101.out 1
        have hfz36_2:=blk_frozen BK101.out 2
        have hfz36_3:=blk_frozen BK101.out 3
        go_wp2
        repeat (go_quiet (fail);try go_wp2)
        go_ret
        exact ⟨by first|rfl|(simp [errW_none,errW_some] <;> rfl)|(simp [*,errW_none,errW_some] <;> rfl)|(congr 2;generalize ByteArray.toList _ = l_;cases l_ <;> rfl),by repeat (first|(with_reducible first|exact HB.out|apply below_alloc|apply pw_below_drewN|apply below_drew1|refine below_set ?_ GE101.out)|exact HB.out)⟩
       ·replace c35:=Bool.eq_false_iff.mpr c35
        subst c35
        have H1 : (if a0_0 = 3 then (impl_isReNode.j2 kj31 a0_0 (a0_0 == 3) a0_0 a0_1 a0_2 l0_3) else (impl_isReNode.j2 kj31 a0_0 (a0_0 == 4) a0_0 a0_1 a0_2 l0_3)) = some r:=by rw [if_neg (show ¬ (false = true) by decide)] at H;exact H
        clear H
        have H:=H1
        clear H1
        have HC37:=Aside0.mk H
        clear H
        go_upto_if 23 with (fail)
        repeat (go_quiet (fail);go_upto_if 23 with (fail))
        go_cut [23] (fun v23 wc=>∃ (kq : Nat) (x23_36 : Bool),v23 = .bool x23_36 ∧ Aside0 (impl_isReNode.j2 kq a0_0 x23_36 a0_0 a0_1 a0_2 l0_3 = some r) ∧ Aside0 (kq ≤ kj31) ∧ Aside0 (wc.heap[gb101]? = some (.cells #[.int .i64 a0_0,.bool a0_1,.string a0_2,(.slice A0_3 l0_3.length c0_3)] 49 (0,0))) ∧ Aside0 (Below w.heap.size w wc))
        case first =>
         have H:=HC37.out
         clear HC37
         by_cases c38 : a0_0 = 3
         ·rw [if_pos c38] at H
          have c38b0 : (a0_0 == 3) = true:=beq_iff_eq.mpr c38
          have c38b1 : (a0_0 != 3) = false:=bne_eq_false_iff_eq.mpr c38
          clear c38
          (first|rw [c38b0]|(simp only [i64_w,i32_w];rw [c38b0])|skip)
          have H':=Aside0.mk H
          clear H
          go_wp2
          repeat (go_quiet (fail);try go_wp2)
          go_meet
          case rel=>exact ⟨_,((a0_0 == 3)),(by first|rfl|(simp;done)|(simp [*];done)),H',⟨by have:=HJ24.out;have:=HJ31.out;first|omega|exact Nat.le_refl _⟩,⟨by (with_reducible repeat (first|refine blk_drewN ?_ _|refine blk_drew ?_|refine blk_alloc ?_ _));exact BK101.out⟩,⟨by repeat (first|(with_reducible first|exact HB.out|apply below_alloc|apply pw_below_drewN|apply below_drew1|refine below_set ?_ GE101.out)|exact HB.out)⟩⟩
         ·rw [if_neg c38] at H
          have c38b0 : (a0_0 == 3) = false:=beq_eq_false_iff_ne.mpr c38
          have c38b1 : (a0_0 != 3) = true:=bne_iff_ne.mpr c38
          (first|rw [c38b0]|(simp only [i64_w,i32_w];rw [c38b0])|skip)
          have H':=Aside0.mk H
          clear H
          go_wp2
          repeat (go_quiet (fail);try go_wp2)
          go_meet
          case rel=>exact ⟨_,((a0_0 == 4)),(by first|rfl|(simp;done)|(simp [*];done)),H',⟨by have:=HJ24.out;have:=HJ31.out;first|omega|exact Nat.le_refl _⟩,⟨by (with_reducible repeat (first|refine blk_drewN ?_ _|refine blk_drew ?_|refine blk_alloc ?_ _));exact BK101.out⟩,⟨by repeat (first|(with_reducible first|exact HB.out|apply below_alloc|apply pw_below_drewN|apply below_drew1|refine below_set ?_ GE101.out)|exact HB.out)⟩⟩
        case rest =>
         clear HC37
         try clear c1
         try clear p1
         try clear q1
         try clear hx1
         try clear c2
         try clear c2b0
         try clear c2b1
         try clear p2
         try clear q2
         try clear hx2
         try clear c3
         try clear c6
         try clear c6b0
         try clear c6b1
         try clear p6
         try clear c7
         try clear c7b0
         try clear c7b1
         try clear c9
         try clear c9b0
         try clear c9b1
         try clear c13
         try clear c14
         try clear c14b0
         try clear c16
         try clear c16b0
         try clear c17
         try clear c17b0
         try clear p18
         try clear q18
         try clear hx18
         try clear c19
         try clear c19b0
         try clear p20
         try clear q20
         try clear hx20
         try clear c21
         try clear c21b0
         try clear c28
         try clear c31
         try clear c34
         try clear c34b0
         try clear c34b1
         try clear c35
         try clear c38
         try clear c38b0
         try clear c38b1
         try clear hcz10_0
         try clear hcz10_1
         try clear hcz10_2
         try clear hcz10_3
         try clear hcz11_0
         try clear hcz11_1
         try clear hcz11_2
         try clear hcz11_3
         try clear hcz12_0
         try clear hcz12_1
         try clear hcz12_2
         try clear hcz12_3
         try clear hcz22_0
         try clear hcz22_1
         try clear hcz22_2
         try clear hcz22_3
         try clear hcz23_0
         try clear hcz23_1
         try clear hcz23_2
         try clear hcz23_3
         try clear hcz24_0
         try clear hcz24_1
         try clear hcz24_2
         try clear hcz24_3
         try clear hcz27_0
         try clear hcz27_1
         try clear hcz27_2
         try clear hcz27_3
         try clear hcz29_0
         try clear hcz29_1
         try clear hcz29_2
         try clear hcz29_3
         try clear hcz30_0
         try clear hcz30_1
         try clear hcz30_2
         try clear hcz30_3
         try clear hcz33_0
         try clear hcz33_1
         try clear hcz33_2
         try clear hcz33_3
         try clear hcz36_0
         try clear hcz36_1
         try clear hcz36_2
         try clear hcz36_3
         try clear hcz5_0
         try clear hcz5_1
         try clear hcz5_2
         try clear hcz5_3
         try clear hcz8_0
         try clear hcz8_1
         try clear hcz8_2
         try clear hcz8_3
         try clear hfz10_0
         try clear hfz10_1
         try clear hfz10_2
         try clear hfz10_3
         try clear hfz11_0
         try clear hfz11_1
         try clear hfz11_2
         try clear hfz11_3
         try clear hfz12_0
         try clear hfz12_1
         try clear hfz12_2
         try clear hfz12_3
         try clear hfz22_0
         try clear hfz22_1
         try clear hfz22_2
         try clear hfz22_3
         try clear hfz23_0
         try clear hfz23_1
         try clear hfz23_2
         try clear hfz23_3
         try clear hfz24_0
         try clear hfz24_1
         try clear hfz24_2
         try clear hfz24_3
         try clear hfz27_0
         try clear hfz27_1
         try clear hfz27_2
         try clear hfz27_3
         try clear hfz29_0
         try clear hfz29_1
         try clear hfz29_2
         try clear hfz29_3
         try clear hfz30_0
         try clear hfz30_1
         try clear hfz30_2
         try clear hfz30_3
         try clear hfz33_0
         try clear hfz33_1
         try clear hfz33_2
         try clear hfz33_3
         try clear hfz36_0
         try clear hfz36_1
         try clear hfz36_2
         try clear hfz36_3
         try clear hfz5_0
         try clear hfz5_1
         try clear hfz5_2
         try clear hfz5_3
         try clear hfz8_0
         try clear hfz8_1
         try clear hfz8_2
         try clear hfz8_3
         try clear p1
         try clear p18
         try clear p2
         try clear p20
         try clear p6
         try clear q1
         try clear q18
         try clear q2
         try clear q20
         obtain ⟨kq,x23_36,rfl,HA,HJ36,BK101,HB⟩:=hcut
         cases kq with
         | zero=>exact absurd HA.out (by simp [impl_isReNode.j2])
         | succ kj36 =>
          have H:=HA.out
          clear HA
          simp only [impl_isReNode.j2] at H
          by_cases c39 : x23_36 = true
          ·subst c39
           have H1 : (some (decide ((l0_3.length : Int) ≥ 2))) = some r:=by rw [if_pos rfl] at H;exact H
           clear H
           have H:=H1
           clear H1
           obtain rfl:=Option.some.inj H
           have hcz40_0 : wc.cell? ⟨gb101,0,none⟩ = some (.int .i64 a0_0):=(blk_cell BK101.out 0).trans rfl
           have hcz40_1 : wc.cell? ⟨gb101,1,none⟩ = some (.bool a0_1):=(blk_cell BK101.out 1).trans rfl
           have hcz40_2 : wc.cell? ⟨gb101,2,none⟩ = some (.string a0_2):=(blk_cell BK101.out 2).trans rfl
           have hcz40_3 : wc.cell? ⟨gb101,3,none⟩ = some (.slice A0_3 l0_3.length c0_3):=(blk_cell BK101.out 3).trans rfl
           have hfz40_0:=blk_frozen BK101.out 0
           have hfz40_1:=blk_frozen BK101.out 1
           have hfz40_2:=blk_frozen BK101.out 2
           have hfz40_3:=blk_frozen BK101.out 3
           go_wp2
           repeat (go_quiet (fail);try go_wp2)
           go_ret
           exact ⟨by first|rfl|(simp [errW_none,errW_some] <;> rfl)|(simp [*,errW_none,errW_some] <;> rfl)|(congr 2;generalize ByteArray.toList _ = l_;cases l_ <;> rfl),by repeat (first|(with_reducible first|exact HB.out|apply below_alloc|apply pw_below_drewN|apply below_drew1|refine below_set ?_ GE101.out)|exact HB.out)⟩
          ·replace c39:=Bool.eq_false_iff.mpr c39
           subst c39
           have H1 : (if a0_0 = 5 then (some ((l0_3.length : Int) == 1)) else (if a0_0 = 6 then (some ((l0_3.length : Int) == 1)) else (if a0_0 = 7 then (some ((l0_3.length : Int) == 1)) else (some false)))) = some r:=by rw [if_neg (show ¬ (false = true) by decide)] at H;exact H
           clear H
           have H:=H1
           clear H1
           by_cases c41 : a0_0 = 5
           ·rw [if_pos c41] at H
            have c41b0 : (a0_0 == 5) = true:=beq_iff_eq.mpr c41
            have c41b1 : (a0_0 != 5) = false:=bne_eq_false_iff_eq.mpr c41
            clear c41
            obtain rfl:=Option.some.inj H
            have hcz42_0 : wc.cell? ⟨gb101,0,none⟩ = some (.int .i64 a0_0):=(blk_cell BK101.out 0).trans rfl
            have hcz42_1 : wc.cell? ⟨gb101,1,none⟩ = some (.bool a0_1):=(blk_cell BK101.out 1).trans rfl
            have hcz42_2 : wc.cell? ⟨gb101,2,none⟩ = some (.string a0_2):=(blk_cell BK101.out 2).trans rfl
            have hcz42_3 : wc.cell? ⟨gb101,3,none⟩ = some (.slice A0_3 l0_3.length c0_3):=(blk_cell BK101.out 3).trans rfl
            have hfz42_0:=blk_frozen BK101.out 0
            have hfz42_1:=blk_frozen BK101.out 1
            have hfz42_2:=blk_frozen BK101.out 2
            have hfz42_3:=blk_frozen BK101.out 3
            go_wp2
            repeat (go_quiet (fail);try go_wp2)
            go_ret
            exact ⟨by first|rfl|(simp [errW_none,errW_some] <;> rfl)|(simp [*,errW_none,errW_some] <;> rfl)|(congr 2;generalize ByteArray.toList _ = l_;cases l_ <;> rfl),by repeat (first|(with_reducible first|exact HB.out|apply below_alloc|apply pw_below_drewN|apply below_drew1|refine below_set ?_ GE101.out)|exact HB.out)⟩
           ·rw [if_neg c41] at H
            have c41b0 : (a0_0 == 5) = false:=beq_eq_false_iff_ne.mpr c41
            have c41b1 : (a0_0 != 5) = true:=bne_iff_ne.mpr c41
            by_cases c43 : a0_0 = 6
            ·rw [if_pos c43] at H
             have c43b0 : (a0_0 == 6) = true:=beq_iff_eq.mpr c43
             have c43b1 : (a0_0 != 6) = false:=bne_eq_false_iff_eq.mpr c43
             clear c43
             obtain rfl:=Option.some.inj H
             have hcz44_0 : wc.cell? ⟨gb101,0,none⟩ = some (.int .i64 a0_0):=(blk_cell BK101.out 0).trans rfl
             have hcz44_1 : wc.cell? ⟨gb101,1,none⟩ = some (.bool a0_1):=(blk_cell BK101.out 1).trans rfl
             have hcz44_2 : wc.cell? ⟨gb101,2,none⟩ = some (.string a0_2):=(blk_cell BK101.out 2).trans rfl
             have hcz44_3 : wc.cell? ⟨gb101,3,none⟩ = some (.slice A0_3 l0_3.length c0_3):=(blk_cell BK101.out 3).trans rfl
             have hfz44_0:=blk_frozen BK101.out 0
             have hfz44_1:=blk_frozen BK101.out 1
             have hfz44_2:=blk_frozen BK101.out 2
             have hfz44_3:=blk_frozen BK101.out 3
             go_wp2
             repeat (go_quiet (fail);try go_wp2)
             go_ret
             exact ⟨by first|rfl|(simp [errW_none,errW_some] <;> rfl)|(simp [*,errW_none,errW_some] <;> rfl)|(congr 2;generalize ByteArray.toList _ = l_;cases l_ <;> rfl),by repeat (first|(with_reducible first|exact HB.out|apply below_alloc|apply pw_below_drewN|apply below_drew1|refine below_set ?_ GE101.out)|exact HB.out)⟩
            ·rw [if_neg c43] at H
             have c43b0 : (a0_0 == 6) = false:=beq_eq_false_iff_ne.mpr c43
             have c43b1 : (a0_0 != 6) = true:=bne_iff_ne.mpr c43
             by_cases c45 : a0_0 = 7
             ·rw [if_pos c45] at H
              have c45b0 : (a0_0 == 7) = true:=beq_iff_eq.mpr c45
              have c45b1 : (a0_0 != 7) = false:=bne_eq_false_iff_eq.mpr c45
              clear c45
              obtain rfl:=Option.some.inj H
              have hcz46_0 : wc.cell? ⟨gb101,0,none⟩ = some (.int .i64 a0_0):=(blk_cell BK101.out 0).trans rfl
              have hcz46_1 : wc.cell? ⟨gb101,1,none⟩ = some (.bool a0_1):=(blk_cell BK101.out 1).trans rfl
              have hcz46_2 : wc.cell? ⟨gb101,2,none⟩ = some (.string a0_2):=(blk_cell BK101.out 2).trans rfl
              have hcz46_3 : wc.cell? ⟨gb101,3,none⟩ = some (.slice A0_3 l0_3.length c0_3):=(blk_cell BK101.out 3).trans rfl
              have hfz46_0:=blk_frozen BK101.out 0
              have hfz46_1:=blk_frozen BK101.out 1
              have hfz46_2:=blk_frozen BK101.out 2
              have hfz46_3:=blk_frozen BK101.out 3
              go_wp2
              repeat (go_quiet (fail);try go_wp2)
              go_ret
              exact ⟨by first|rfl|(simp [errW_none,errW_some] <;> rfl)|(simp [*,errW_none,errW_some] <;> rfl)|(congr 2;generalize ByteArray.toList _ = l_;cases l_ <;> rfl),by repeat (first|(with_reducible first|exact HB.out|apply below_alloc|apply pw_below_drewN|apply below_drew1|refine below_set ?_ GE101.out)|exact HB.out)⟩
             ·rw [if_neg c45] at H
              have c45b0 : (a0_0 == 7) = false:=beq_eq_false_iff_ne.mpr c45
              have c45b1 : (a0_0 != 7) = true:=bne_iff_ne.mpr c45
              obtain rfl:=Option.some.inj H
              go_wp2
              repeat (go_quiet (fail);try go_wp2)
              go_ret
              exact ⟨by first|rfl|(simp [errW_none,errW_some] <;> rfl)|(simp [*,errW_none,errW_some] <;> rfl)|(congr 2;generalize ByteArray.toList _ = l_;cases l_ <;> rfl),by repeat (first|(with_reducible first|exact HB.out|apply below_alloc|apply pw_below_drewN|apply below_drew1|refine below_set ?_ GE101.out)|exact HB.out)⟩
end Go.Proofs.YtlakdfbfkbndiaaDoor.Q
namespace Go.Proofs.YtlakdfbfkbndiaaDoor.Q
open Go.Shelf Go.RowKit Go.Proofs.YtlakdfbfkbndiaaDoorW.PrintWords Go.Proofs.YtlakdfbfkbndiaaDoorW.PrintLast Go.Proofs.YtlakdfbfkbndiaaDoorW.PrintMore
def slices_ContainsFunc_int_int.f (l : List Int) (fn : Nat) : Option Bool:=if fn = 76 then some (l.any fun n=>n != 1) else none
theorem notOne_any (n : Int) (w : World) : Calls Tryd.prog 76 #[.int .i64 n] w fun e w'=>e = .returned (.bool (n != 1)) ∧ w' = w:=by
 go_enter Tryd.func76,Tryd.ntmps76
 go_wp2_with fail
 go_ret
 exact ⟨rfl,rfl⟩
def firstNot : List Int → Nat → Int
 | [],_=>-1
 | n :: l,i=>if (n != 1) = true then (i : Int) else firstNot l (i + 1)
theorem firstNot_any : ∀ (l : List Int) (i : Nat),(0 ≤ firstNot l i ↔ (l.any fun n=>n != 1) = true)
 | [],i=>by simp [firstNot]
 | n :: l,i=>by
  by_cases h : (n != 1) = true
  ·have e : firstNot (n :: l) i = (i : Int):=if_pos h
   rw [e,List.any_cons,h]
   simp
  ·have e : firstNot (n :: l) i = firstNot l (i + 1):=if_neg h
   have h2 : (n != 1) = false:=by simpa using h
   rw [e,firstNot_any l (i + 1),List.any_cons,h2,Bool.false_or]
set_option maxRecDepth 100000 in
theorem indexFunc_any (A0 : Option Addr) (c0 : Nat) (l : List Int) (w : World) (hr : Kd.C (Kd.int .i64) w A0 l.length l) (hc : l.length ≤ c0) (hl : l.length ≤ 9223372036854775807) :
  Calls Tryd.prog 88 #[.slice A0 l.length c0,.func (.func 76) #[] #[]] w fun e w'=>e = .returned (.int .i64 (firstNot l 0)) ∧ w' = w:=by
 have eg : ∀ args w,(callFunc 76 args).run Tryd.prog w = .ok (.enter 76 args) w:=enters_of Tryd.func76 (by kernel_rfl) rfl
 have HR:=Aside0.mk hr
 clear hr
 go_enter Tryd.func88,Tryd.ntmps88
 go_wp2_with fail
 go_loopg [8] l.length (fun gg v8 wr=>∃ k : Nat,v8 = .int .i64 k ∧ k ≤ l.length ∧ l.length - k ≤ gg ∧ Aside0 (firstNot l 0 = firstNot (l.drop k) k) ∧ wr = w)
 case atStart=>exact ⟨0,rfl,by omega,by omega,⟨by simp⟩,rfl⟩
 case round =>
  obtain ⟨k,rfl,hk,hg,HF,rfl⟩:=hrel
  by_cases hlt : k < l.length
  ·have hlt0 : (k : Int) < (l.length : Int):=by omega
   obtain ⟨ad,c,e0,_,hK,hcell⟩:=Kd.C_get HR.out (0 : Int) k (by omega) (by omega)
   subst e0
   have hK : c = [.int .i64 (l.getD ((k : Int)).toNat 0)]:=hK
   subst hK
   have hc0:=hcell 0 _ rfl
   have hc0 : wr.cell? (ad.add k) = some (.int .i64 (l.getD k 0)):=by simpa [Kd.int,Kd.scalar] using hc0
   have HD : Aside0 (l.drop k = l.getD k 0 :: l.drop (k + 1)):=⟨by
    rw [List.drop_eq_getElem_cons hlt,List.getD_eq_getElem?_getD,List.getElem?_eq_getElem hlt];rfl⟩
   clear hcell
   obtain ⟨z,hz⟩ : ∃ z,z = l.getD k 0:=⟨_,rfl⟩
   rw [← hz] at hc0 HD
   clear hz
   have hcall:=notOne_any z wr
   cases hq : (z != 1) with
   | true =>
    rw [hq] at hcall
    have HN : Aside0 (firstNot l 0 = k):=⟨by rw [HF.out,HD.out];simp only [firstNot];rw [if_pos hq]⟩
    clear hq
    go_wp2_with fail
    refine hcall.mono ?_
    rintro e w' ⟨rfl,rfl⟩
    go_wp2_with fail
    go_ret
    exact ⟨by rw [HN.out] <;> rfl,rfl⟩
   | false =>
    rw [hq] at hcall
    have HN : Aside0 (firstNot l 0 = firstNot (l.drop (k + 1)) (k + 1)):=⟨by rw [HF.out,HD.out];simp only [firstNot];rw [if_neg (by rw [hq];decide)]⟩
    clear hq
    go_wp2_with fail
    refine hcall.mono ?_
    rintro e w' ⟨rfl,rfl⟩
    go_wp2_with fail
    go_roundg (l.length - (k + 1))
    case measure=>omega
    case rel=>exact ⟨k + 1,by go_num,by omega,by omega,HN,rfl⟩
  ·have hlt0 : ¬ (k : Int) < (l.length : Int):=by omega
   have HN : Aside0 (firstNot l 0 = -1):=⟨by rw [HF.out,List.drop_eq_nil_of_le (by omega)];rfl⟩
   go_wp2_with fail
   go_ret
   exact ⟨by rw [HN.out] <;> rfl,rfl⟩
theorem slices_ContainsFunc_int_int.calls (A0 : Option Addr) (c0 : Nat) (l0 : List Int) (a1 : Nat) (r : Bool) (w : World) (hr0 : Kd.C (Kd.int .i64) w A0 l0.length l0) (hc0 : l0.length ≤ c0) (h : slices_ContainsFunc_int_int.f l0 a1 = some r) :
  Calls Tryd.prog 75 #[.slice A0 l0.length c0,.func (.func a1) #[] #[]] w fun e w'=>e = .returned (.bool r) ∧ Drawn0 w w':=by
 unfold slices_ContainsFunc_int_int.f at h
 by_cases hf : a1 = 76
 case neg=>rw [if_neg hf] at h;cases h
 rw [if_pos hf] at h
 subst hf
 have hl : l0.length ≤ 9223372036854775807:=by have:=hr0.2.1;first|omega|simpa using this
 have hcall:=indexFunc_any A0 c0 l0 w hr0 hc0 hl
 have HRes : Aside0 (decide (firstNot l0 0 ≥ 0) = r):=⟨by rw [← Option.some.inj h,Bool.eq_iff_iff,decide_eq_true_eq];exact firstNot_any l0 0⟩
 clear h hr0
 go_enter Tryd.func75,Tryd.ntmps75
 go_wp2_with fail
 refine hcall.mono ?_
 rintro e w' ⟨rfl,rfl⟩
 go_wp2_with fail
 go_ret
 exact ⟨by rw [HRes.out] <;> rfl,Drawn0.refl _⟩
end Go.Proofs.YtlakdfbfkbndiaaDoor.Q
namespace Go.Proofs.YtlakdfbfkbndiaaDoor.Q
open Go.RowKit Go.Proofs.YtlakdfbfkbndiaaDoorW.PrintWords Go.Proofs.YtlakdfbfkbndiaaDoorW.PrintLast Go.Proofs.YtlakdfbfkbndiaaDoorW.PrintMore
attribute [local go_sem] max2_int min2_int max_two min_two max_three min_three max_four min_four   -- for this text's walks alone
set_option linter.unusedVariables false
set_option linter.unusedSimpArgs false
mutual
def impl_ReOk.l0 : Nat → List (S49) → List Int → List (S49) → Int → Int → Option (Bool)
 | 0,_,_,_,_,_=>none
 | k + 1,x0,x3,x16,x17,x18=>if x18 < x17 then (if 0 ≤ x18 then (if x18 < (x16.length : Int) then ((impl_isReNode.f k ((rd_T49 x16 x18).f0) ((rd_T49 x16 x18).f1) ((rd_T49 x16 x18).f2) ((rd_T49 x16 x18).f3)).bind fun t113=>(if t113 = true then (impl_ReOk.l1 k x0 x3 x18 x16 x17 x18 ((rd_T49 x16 x18).f3) (((rd_T49 x16 x18).f3).length : Int) 0) else (some false))) else (none)) else (none)) else (if 0 ≤ (wrap64 ((x0.length : Int) - 1)) then (if (wrap64 ((x0.length : Int) - 1)) ≤ (x3.length : Int) then ((slices_ContainsFunc_int_int.f (x3.take ((wrap64 ((x0.length : Int) - 1)) : Int).toNat) 76).bind fun t110=>(some (!t110))) else (none)) else (none))
def impl_ReOk.l1 : Nat → List (S49) → List Int → Int → List (S49) → Int → Int → List Int → Int → Int → Option (Bool)
 | 0,_,_,_,_,_,_,_,_,_=>none
 | k + 1,x0,x3,x4,x16,x17,x18,x27,x28,x29=>if x29 < x28 then (if 0 ≤ x29 then (if x29 < (x27.length : Int) then ((impl_between.f (rd x27 x29) 0 (wrap64 (x4 - 1))).bind fun t115=>(if t115 = true then (if 0 ≤ (rd x27 x29) then (if (rd x27 x29) < (x3.length : Int) then (impl_ReOk.l1 k x0 (x3.set ((rd x27 x29) : Int).toNat (wrap64 ((rd x3 (rd x27 x29)) + 1))) x4 x16 x17 x18 x27 x28 (wrap64 (x29 + 1))) else (none)) else (none)) else (some false))) else (none)) else (none)) else (impl_ReOk.l0 k x0 x3 x16 x17 (wrap64 (x18 + 1)))
end
def impl_ReOk.f (k : Nat) (l0 : List (S49)) : Option (Bool):=(impl_between.f (l0.length : Int) 1 200).bind fun t102=>(if t102 = true then (if 0 ≤ (l0.length : Int) then (if ((l0.length : Int) : Int).toNat ≤ 35184372088832 then (impl_ReOk.l0 k l0 (List.replicate ((l0.length : Int) : Int).toNat 0) l0 (l0.length : Int) 0) else (none)) else (none)) else (some false))
theorem impl_ReOk.mono_l : ∀ k,(∀ y0 y1 y2 y3 y4,LeO (impl_ReOk.l0 k y0 y1 y2 y3 y4) (impl_ReOk.l0 (k + 1) y0 y1 y2 y3 y4)) ∧ (∀ y0 y1 y2 y3 y4 y5 y6 y7 y8,LeO (impl_ReOk.l1 k y0 y1 y2 y3 y4 y5 y6 y7 y8) (impl_ReOk.l1 (k + 1) y0 y1 y2 y3 y4 y5 y6 y7 y8))
 | 0=>⟨fun _ _ _ _ _ r h=>by simp [impl_ReOk.l0] at h,fun _ _ _ _ _ _ _ _ _ r h=>by simp [impl_ReOk.l1] at h⟩
 | k + 1=>by
  obtain ⟨ih0,ih1⟩:=impl_ReOk.mono_l k
  refine ⟨?_,?_⟩
  ·intro y0 y1 y2 y3 y4
   unfold impl_ReOk.l0
   repeat' first
   | (with_reducible exact ih0 _ _ _ _ _)
   | (with_reducible exact ih1 _ _ _ _ _ _ _ _ _)
   | (with_reducible exact impl_isReNode.mono _ _ _ _ _)
   | (with_reducible exact LeO.refl _)
   | (with_reducible exact LeO.none _)
   | (with_reducible refine LeO.ite ?_ ?_)
   | (with_reducible refine LeO.bind ?_ (fun _=>?_))
   | exact ih0 _ _ _ _ _
   | exact ih1 _ _ _ _ _ _ _ _ _
   | exact impl_isReNode.mono _ _ _ _ _
   | exact LeO.none _
   | refine LeO.ite ?_ ?_
   | refine LeO.bind ?_ (fun _=>?_)
  ·intro y0 y1 y2 y3 y4 y5 y6 y7 y8
   unfold impl_ReOk.l1
   repeat' first
   | (with_reducible exact ih0 _ _ _ _ _)
   | (with_reducible exact ih1 _ _ _ _ _ _ _ _ _)
   | (with_reducible exact impl_isReNode.mono _ _ _ _ _)
   | (with_reducible exact LeO.refl _)
   | (with_reducible exact LeO.none _)
   | (with_reducible refine LeO.ite ?_ ?_)
   | (with_reducible refine LeO.bind ?_ (fun _=>?_))
   | exact ih0 _ _ _ _ _
   | exact ih1 _ _ _ _ _ _ _ _ _
   | exact impl_isReNode.mono _ _ _ _ _
   | exact LeO.none _
   | refine LeO.ite ?_ ?_
   | refine LeO.bind ?_ (fun _=>?_)
theorem impl_ReOk.mono : ∀ a0 k,LeO (impl_ReOk.f k a0) (impl_ReOk.f (k + 1) a0):=by
 intro a0 k
 obtain ⟨ih0,ih1⟩:=impl_ReOk.mono_l k
 unfold impl_ReOk.f
 repeat' first
   | (with_reducible exact ih0 _ _ _ _ _)
   | (with_reducible exact ih1 _ _ _ _ _ _ _ _ _)
   | (with_reducible exact impl_isReNode.mono _ _ _ _ _)
   | (with_reducible exact LeO.refl _)
   | (with_reducible exact LeO.none _)
   | (with_reducible refine LeO.ite ?_ ?_)
   | (with_reducible refine LeO.bind ?_ (fun _=>?_))
   | exact ih0 _ _ _ _ _
   | exact ih1 _ _ _ _ _ _ _ _ _
   | exact impl_isReNode.mono _ _ _ _ _
   | exact LeO.none _
   | refine LeO.ite ?_ ?_
   | refine LeO.bind ?_ (fun _=>?_)
set_option maxHeartbeats 8000000 in
set_option maxRecDepth 100000 in
theorem impl_ReOk.calls (k : Nat) (A0 : Option Addr) (c0 : Nat) (l0 : List (S49)) (r : Bool) (w : World) (hr0 : Kd.C k49 w A0 l0.length l0) (hc0 : l0.length ≤ c0) (h : impl_ReOk.f k l0 = some r) :
  Calls Tryd.prog 60 #[.slice A0 l0.length c0] w fun e w'=>e = .returned (.bool r) ∧ Below w.heap.size w w':=by
 have hu49:=Tryd.underlying49
 have HR0:=Aside0.mk hr0
 have HC0:=Aside0.mk hc0
 clear hr0 hc0
 have HB:=Aside0.mk (Below.refl w.heap.size w)
 have H : ((impl_between.f (l0.length : Int) 1 200).bind fun t102=>(if t102 = true then (if 0 ≤ (l0.length : Int) then (if ((l0.length : Int) : Int).toNat ≤ 35184372088832 then (impl_ReOk.l0 k l0 (List.replicate ((l0.length : Int) : Int).toNat 0) l0 (l0.length : Int) 0) else (none)) else (none)) else (some false))) = some r:=h
 clear h
 replace H:=Option.bind_eq_some_iff.mp H
 obtain ⟨t102,A20,H⟩:=H
 replace H : (if t102 = true then (if 0 ≤ (l0.length : Int) then (if ((l0.length : Int) : Int).toNat ≤ 35184372088832 then (impl_ReOk.l0 k l0 (List.replicate ((l0.length : Int) : Int).toNat 0) l0 (l0.length : Int) 0) else (none)) else (none)) else (some false)) = some r:=H
 have A2:=Aside0.mk A20
 clear A20
 by_cases c3 : t102 = true
 ·subst c3
  have H1 : (if 0 ≤ (l0.length : Int) then (if ((l0.length : Int) : Int).toNat ≤ 35184372088832 then (impl_ReOk.l0 k l0 (List.replicate ((l0.length : Int) : Int).toNat 0) l0 (l0.length : Int) 0) else (none)) else (none)) = some r:=by rw [if_pos rfl] at H;exact H
  clear H
  have H:=H1
  clear H1
  by_cases c4 : 0 ≤ (l0.length : Int)
  ·rw [if_pos c4] at H
   have c4b0:=eq_true c4
   have c4b1 : decide (0 ≤ (l0.length : Int)) = true:=decide_eq_true c4
   clear c4
   by_cases c5 : ((l0.length : Int) : Int).toNat ≤ 35184372088832
   ·rw [if_pos c5] at H
    have c5b0:=eq_true c5
    have c5b1 : decide (((l0.length : Int) : Int).toNat ≤ 35184372088832) = true:=decide_eq_true c5
    clear c5
    obtain ⟨y103,hy103⟩ : ∃ y_ : List Int,y_ = (List.replicate ((l0.length : Int) : Int).toNat 0):=⟨_,rfl⟩
    replace H : (impl_ReOk.l0 k l0 y103 l0 (l0.length : Int) 0) = some r:=by first|(rw [hy103];with_reducible exact H)|(have H2_:=(Option.bind_some _ _).symm.trans H;rw [hy103];with_reducible exact H2_)|(have H2_:=(Option.bind_some _ _).symm.trans H;with_reducible exact H2_)|with_reducible exact H|(rw [hy103];exact H)|exact H
    have Ny103:=Aside0.mk hy103
    clear hy103
    have H':=Aside0.mk H
    clear H
    go_enter Tryd.func60,Tryd.ntmps60
    go_wp2_with (first|((with_reducible refine gate_callee (f:=44) rfl ?_);refine goesL_ (some 11) rfl rfl Tryd.func44 (by kernel_rfl) rfl #[.int .i64 (l0.length : Int),.int .i64 1,.int .i64 200] rfl (by (try simp only [List.map_toArray,List.map_cons,List.map_nil]);first|done|rfl|(simp only [List.length_drop,List.length_take];rfl)) ?_;(with_reducible refine (impl_between.calls (l0.length : Int) 1 200 true _ A2.out).mono ?_);rintro e w' ⟨rfl,⟨nd,rfl⟩⟩;refine ⟨_,rfl,?_⟩)|((with_reducible refine gate_dst (N:=15) rfl ?_);refine Kd.R_make (Kd.int .i64) _ 3 rfl (N:=15) rfl 31 _ _ rfl (l0.length : Int) rfl rfl Tryd.underlying31 (.int .i64 0) 8 info3 rfl (by decide) (by omega) 0 (ok:=fun _=>True) (okp:=fun _=>True) rfl (fun _ hk=>hk) trivial (of_decide_eq_true (by first|(with_reducible assumption)|assumption)) (Nat.le_trans (Nat.mul_le_mul_right _ (of_decide_eq_true (by first|(with_reducible assumption)|assumption) : (l0.length : Int).toNat ≤ 35184372088832)) (by omega)) (Below.refl _ _) (Nat.le_refl _) ?_;intro v104 w6 ho7 hb hg_ hnew_;clear hg_ hnew_;(first|rw [← Ny103.out] at ho7|(simp only [Int.reduceToNat] at ho7;rw [← Ny103.out] at ho7));have n0_:=Aside0.mk (Kd.R_lower ho7 (below_size (by repeat (first|(with_reducible first|exact HB.out|apply below_alloc|apply pw_below_drewN|apply below_drew1)|exact HB.out))));have n1_:=Aside0.mk (below_step (by repeat (first|(with_reducible first|exact HB.out|apply below_alloc|apply pw_below_drewN|apply below_drew1)|exact HB.out)) hb);clear HB;have HO105:=n0_;have HB:=n1_;clear n0_ n1_;clear hb ho7))
    go_loopg [18] k (fun kq v18 w'=>∃ (x3_1 : List Int) (x18_1 : Int),v18 = .int .i64 x18_1 ∧ Aside0 (impl_ReOk.l0 kq l0 x3_1 l0 (l0.length : Int) x18_1 = some r) ∧ Aside0 (kq ≤ k) ∧ Aside0 (Kd.R (Kd.int .i64) 3 w' w.heap.size (fun _=>True) v104 x3_1) ∧ Aside0 (Below w.heap.size w w'))
    case atStart=>exact ⟨(y103),(0),(by first|rfl|(simp;done)|(simp [*];done)),H',⟨Nat.le_refl _⟩,⟨by (with_reducible repeat (first|apply Kd.R_alloc|apply Kd.R_drewN|apply Kd.R_drew));exact HO105.out⟩,⟨by repeat (first|(with_reducible first|exact HB.out|apply below_alloc|apply pw_below_drewN|apply below_drew1)|exact HB.out)⟩⟩
    case round =>
     clear H'
     try clear p2
     try clear c3
     try clear c4
     try clear c4b0
     try clear c4b1
     try clear c5
     try clear c5b0
     try clear c5b1
     try clear c6
     obtain ⟨x3_1,x18_1,rfl,HA,HK1,HO_3,HB⟩:=hrel
     cases gk with
     | zero=>exact absurd HA.out (by simp [impl_ReOk.l0])
     | succ k1 =>
      have H:=HA.out
      clear HA
      simp only [impl_ReOk.l0] at H
      by_cases c8 : x18_1 < (l0.length : Int)
      ·rw [if_pos c8] at H
       have c8b0 : decide (x18_1 < (l0.length : Int)) = true:=decide_eq_true c8
       clear c8
       by_cases c9 : 0 ≤ x18_1
       ·rw [if_pos c9] at H
        have c9b0 : decide (0 ≤ x18_1) = true:=decide_eq_true c9
        clear c9
        by_cases c10 : x18_1 < (l0.length : Int)
        ·rw [if_pos c10] at H
         have c10b0 : decide (x18_1 < (l0.length : Int)) = true:=decide_eq_true c10
         clear c10
         replace H:=Option.bind_eq_some_iff.mp H
         obtain ⟨t113,A110,H⟩:=H
         replace H : (if t113 = true then (impl_ReOk.l1 k1 l0 x3_1 x18_1 l0 (l0.length : Int) x18_1 ((rd_T49 l0 x18_1).f3) (((rd_T49 l0 x18_1).f3).length : Int) 0) else (some false)) = some r:=H
         have A11:=Aside0.mk A110
         clear A110
         by_cases c12 : t113 = true
         ·subst c12
          have H1 : (impl_ReOk.l1 k1 l0 x3_1 x18_1 l0 (l0.length : Int) x18_1 ((rd_T49 l0 x18_1).f3) (((rd_T49 l0 x18_1).f3).length : Int) 0) = some r:=by rw [if_pos rfl] at H;exact H
          clear H
          have H:=H1
          clear H1
          have H':=Aside0.mk H
          clear H
          have p111 : 0 ≤ (x18_1 : Int):=of_decide_eq_true (by first|(with_reducible assumption)|assumption)
          have q111 : x18_1 < (l0.length : Int):=of_decide_eq_true (by first|(with_reducible assumption)|assumption)
          obtain ⟨ad111,A111_3,c111_3,e111,hx111_0,hx111_1,hx111_2,hx111_3,hl111_3,hi111_3⟩:=at_T49 HR0.out x18_1 p111 q111
          cases e111
          replace hx111_0:=(HB.out.cell (World.block_lt_of_cell? w _ hx111_0)).trans hx111_0
          replace hx111_1:=(HB.out.cell (World.block_lt_of_cell? w _ hx111_1)).trans hx111_1
          replace hx111_2:=(HB.out.cell (World.block_lt_of_cell? w _ hx111_2)).trans hx111_2
          replace hx111_3:=(HB.out.cell (World.block_lt_of_cell? w _ hx111_3)).trans hx111_3
          have HR111_3:=Aside0.mk hi111_3
          have HC111_3:=Aside0.mk hl111_3
          clear hi111_3 hl111_3
          replace p111:=eq_true p111
          replace q111:=eq_true q111
          go_wp2_with (first|((with_reducible refine gate_dst (N:=5) rfl ?_);refine box_event ?hg (N:=5) ?hd (cs:=#[.int .i64 0,.bool false,.string (⟨#[]⟩ : ByteArray),.slice none 0 0]) (t:=49) ?hr ?_;(case hd=>rfl);(case hg=>rfl);(case hr=>first|(go_simp;done)|(go_simp;rfl));intro gb112 hg w13 hbox hb;have n0_:=Aside0.mk (Kd.R_below (by (with_reducible repeat (first|apply Kd.R_alloc|apply Kd.R_drewN|apply Kd.R_drew));exact HO_3.out) hb);have n1_:=Aside0.mk (below_step (by repeat (first|(with_reducible first|exact HB.out|apply below_alloc|apply pw_below_drewN|apply below_drew1)|exact HB.out)) hb);have n2_:=Aside0.mk (hbox);have n3_:=Aside0.mk ((by rw [hg];exact (below_size (by repeat (first|(with_reducible first|exact HB.out|apply below_alloc|apply pw_below_drewN|apply below_drew1)|exact HB.out))) : w.heap.size ≤ gb112));have n4_:=Aside0.mk ((by rw [hg];exact (below_size (by repeat (first|(with_reducible first|exact HB.out|apply below_alloc|apply pw_below_drewN|apply below_drew1)|exact HB.out))) : w.heap.size ≤ gb112));clear HO_3;clear HB;have HO_3:=n0_;have HB:=n1_;have BK112:=n2_;have GW112:=n3_;have GE112:=n4_;clear n0_ n1_ n2_ n3_ n4_;clear hb hbox hg;have hcz14_0 : w13.cell? ⟨gb112,0,none⟩ = some (.int .i64 0):=(blk_cell BK112.out 0).trans rfl;have hcz14_1 : w13.cell? ⟨gb112,1,none⟩ = some (.bool false):=(blk_cell BK112.out 1).trans rfl;have hcz14_2 : w13.cell? ⟨gb112,2,none⟩ = some (.string (⟨#[]⟩ : ByteArray)):=(blk_cell BK112.out 2).trans rfl;have hcz14_3 : w13.cell? ⟨gb112,3,none⟩ = some (.slice none 0 0):=(blk_cell BK112.out 3).trans rfl;have hfz14_0:=blk_frozen BK112.out 0;have hfz14_1:=blk_frozen BK112.out 1;have hfz14_2:=blk_frozen BK112.out 2;have hfz14_3:=blk_frozen BK112.out 3)|((with_reducible refine gate_callee (f:=74) rfl ?_);refine goesL_ (some 24) rfl rfl Tryd.func74 (by kernel_rfl) rfl #[.agg #[.int .i64 ((rd_T49 l0 x18_1).f0),.bool ((rd_T49 l0 x18_1).f1),.string ((rd_T49 l0 x18_1).f2),.slice A111_3 ((rd_T49 l0 x18_1).f3).length c111_3]] rfl (by (try simp only [List.map_toArray,List.map_cons,List.map_nil]);first|done|rfl|(simp only [List.length_drop,List.length_take];rfl)) ?_;(with_reducible refine (impl_isReNode.calls k1 ((rd_T49 l0 x18_1).f0) ((rd_T49 l0 x18_1).f1) ((rd_T49 l0 x18_1).f2) _ _ ((rd_T49 l0 x18_1).f3) true _ ?side1 ?side2 A11.out).mono ?_);(case side1=>exact Kd.C_below HR111_3.out (by repeat (first|(with_reducible first|exact HB.out|apply below_alloc|apply pw_below_drewN|apply below_drew1|refine below_set ?_ GE112.out)|exact HB.out)));(case side2=>exact HC111_3.out);rintro e w15 ⟨rfl,hb⟩;refine ⟨_,rfl,?_⟩;have n0_:=Aside0.mk (Kd.R_below (by (with_reducible repeat (first|apply Kd.R_alloc|apply Kd.R_drewN|apply Kd.R_drew));exact (Kd.R_mono (Kd.R_far (p:=⟨gb112,3,none⟩) (Kd.R_far (p:=⟨gb112,2,none⟩) (Kd.R_far (p:=⟨gb112,1,none⟩) (Kd.R_far (p:=⟨gb112,0,none⟩) (Kd.R_types HO_3.out BK112.out (by decide)) (fun _ hk=>hk.2) (.int .i64 ((rd_T49 l0 x18_1).f0))) (fun _ hk=>hk.2) (.bool ((rd_T49 l0 x18_1).f1))) (fun _ hk=>hk.2) (.string ((rd_T49 l0 x18_1).f2))) (fun _ hk=>hk.2) (.slice A111_3 ((rd_T49 l0 x18_1).f3).length c111_3)) (fun _ h_=>h_.1))) hb);have n1_:=Aside0.mk (blk_below (g:=gb112) (o:=.cells #[.int .i64 ((rd_T49 l0 x18_1).f0),.bool ((rd_T49 l0 x18_1).f1),.string ((rd_T49 l0 x18_1).f2),.slice A111_3 ((rd_T49 l0 x18_1).f3).length c111_3] 49 (0,0)) (by (with_reducible repeat (first|refine blk_drewN ?_ _|refine blk_drew ?_|refine blk_alloc ?_ _));refine blk_put (cs:=#[.int .i64 ((rd_T49 l0 x18_1).f0),.bool ((rd_T49 l0 x18_1).f1),.string ((rd_T49 l0 x18_1).f2),.slice none 0 0]) ?_ 3 _ rfl;(with_reducible repeat (first|refine blk_drewN ?_ _|refine blk_drew ?_|refine blk_alloc ?_ _));refine blk_put (cs:=#[.int .i64 ((rd_T49 l0 x18_1).f0),.bool ((rd_T49 l0 x18_1).f1),.string (⟨#[]⟩ : ByteArray),.slice none 0 0]) ?_ 2 _ rfl;(with_reducible repeat (first|refine blk_drewN ?_ _|refine blk_drew ?_|refine blk_alloc ?_ _));refine blk_put (cs:=#[.int .i64 ((rd_T49 l0 x18_1).f0),.bool false,.string (⟨#[]⟩ : ByteArray),.slice none 0 0]) ?_ 1 _ rfl;(with_reducible repeat (first|refine blk_drewN ?_ _|refine blk_drew ?_|refine blk_alloc ?_ _));refine blk_put (cs:=#[.int .i64 0,.bool false,.string (⟨#[]⟩ : ByteArray),.slice none 0 0]) ?_ 0 _ rfl;(with_reducible repeat (first|refine blk_drewN ?_ _|refine blk_drew ?_|refine blk_alloc ?_ _));exact BK112.out) hb);have n2_:=Aside0.mk (below_step (by repeat (first|(with_reducible first|exact HB.out|apply below_alloc|apply pw_below_drewN|apply below_drew1|refine below_set ?_ GE112.out)|exact HB.out)) hb);clear HO_3;clear BK112;clear HB;have HO_3:=n0_;have BK112:=n1_;have HB:=n2_;clear n0_ n1_ n2_;(try clear hb);(try clear hb2);(try clear hk);(try clear hi);have hcz16_0 : w15.cell? ⟨gb112,0,none⟩ = some (.int .i64 ((rd_T49 l0 x18_1).f0)):=(blk_cell BK112.out 0).trans rfl;have hcz16_1 : w15.cell? ⟨gb112,1,none⟩ = some (.bool ((rd_T49 l0 x18_1).f1)):=(blk_cell BK112.out 1).trans rfl;have hcz16_2 : w15.cell? ⟨gb112,2,none⟩ = some (.string ((rd_T49 l0 x18_1).f2)):=(blk_cell BK112.out 2).trans rfl;have hcz16_3 : w15.cell? ⟨gb112,3,none⟩ = some (.slice A111_3 ((rd_T49 l0 x18_1).f3).length c111_3):=(blk_cell BK112.out 3).trans rfl;have hfz16_0:=blk_frozen BK112.out 0;have hfz16_1:=blk_frozen BK112.out 1;have hfz16_2:=blk_frozen BK112.out 2;have hfz16_3:=blk_frozen BK112.out 3))
          go_loopg [29] k1 (fun kq v29 w'=>∃ (x3_2 : List Int) (x29_2 : Int),v29 = .int .i64 x29_2 ∧ Aside0 (impl_ReOk.l1 kq l0 x3_2 x18_1 l0 (l0.length : Int) x18_1 ((rd_T49 l0 x18_1).f3) (((rd_T49 l0 x18_1).f3).length : Int) x29_2 = some r) ∧ Aside0 (kq ≤ k1) ∧ Aside0 (Kd.R (Kd.int .i64) 3 w' w.heap.size (fun _=>True) v104 x3_2) ∧ Aside0 (w'.heap[gb112]? = some (.cells #[.int .i64 ((rd_T49 l0 x18_1).f0),.bool ((rd_T49 l0 x18_1).f1),.string ((rd_T49 l0 x18_1).f2),(.slice A111_3 ((rd_T49 l0 x18_1).f3).length c111_3)] 49 (0,0))) ∧ Aside0 (Below w.heap.size w w'))
          case atStart=>exact ⟨(x3_1),(0),(by first|rfl|(simp;done)|(simp [*];done)),H',⟨Nat.le_refl _⟩,⟨by (with_reducible repeat (first|apply Kd.R_alloc|apply Kd.R_drewN|apply Kd.R_drew));exact HO_3.out⟩,⟨by (with_reducible repeat (first|refine blk_drewN ?_ _|refine blk_drew ?_|refine blk_alloc ?_ _));exact BK112.out⟩,⟨by repeat (first|(with_reducible first|exact HB.out|apply below_alloc|apply pw_below_drewN|apply below_drew1|refine below_set ?_ GE112.out)|exact HB.out)⟩⟩
          case round =>
           clear H'
           try clear c1
           try clear p1
           try clear q1
           try clear hx1
           try clear p2
           try clear c3
           try clear c4
           try clear c4b0
           try clear c4b1
           try clear c5
           try clear c5b0
           try clear c5b1
           try clear c6
           try clear c7
           try clear c8
           try clear c8b0
           try clear c9
           try clear c9b0
           try clear c10
           try clear c10b0
           try clear c11
           try clear p11
           try clear q11
           try clear hx11
           try clear c12
           try clear hcz14_0
           try clear hcz14_1
           try clear hcz14_2
           try clear hcz14_3
           try clear hcz16_0
           try clear hcz16_1
           try clear hcz16_2
           try clear hcz16_3
           try clear hfz14_0
           try clear hfz14_1
           try clear hfz14_2
           try clear hfz14_3
           try clear hfz16_0
           try clear hfz16_1
           try clear hfz16_2
           try clear hfz16_3
           try clear hx111_0
           try clear hx111_1
           try clear hx111_2
           try clear hx111_3
           try clear p111
           try clear p2
           try clear q111
           obtain ⟨x3_2,x29_2,rfl,HA,HK2,HO_3,BK112,HB⟩:=hrel
           cases gk with
           | zero=>exact absurd HA.out (by simp [impl_ReOk.l1])
           | succ k2 =>
            have H:=HA.out
            clear HA
            simp only [impl_ReOk.l1] at H
            by_cases c17 : x29_2 < (((rd_T49 l0 x18_1).f3).length : Int)
            ·rw [if_pos c17] at H
             have c17b0 : decide (x29_2 < (((rd_T49 l0 x18_1).f3).length : Int)) = true:=decide_eq_true c17
             clear c17
             by_cases c18 : 0 ≤ x29_2
             ·rw [if_pos c18] at H
              have c18b0 : decide (0 ≤ x29_2) = true:=decide_eq_true c18
              clear c18
              by_cases c19 : x29_2 < (((rd_T49 l0 x18_1).f3).length : Int)
              ·rw [if_pos c19] at H
               have c19b0 : decide (x29_2 < (((rd_T49 l0 x18_1).f3).length : Int)) = true:=decide_eq_true c19
               clear c19
               replace H:=Option.bind_eq_some_iff.mp H
               obtain ⟨t115,A200,H⟩:=H
               replace H : (if t115 = true then (if 0 ≤ (rd ((rd_T49 l0 x18_1).f3) x29_2) then (if (rd ((rd_T49 l0 x18_1).f3) x29_2) < (x3_2.length : Int) then (impl_ReOk.l1 k2 l0 (x3_2.set ((rd ((rd_T49 l0 x18_1).f3) x29_2) : Int).toNat (wrap64 ((rd x3_2 (rd ((rd_T49 l0 x18_1).f3) x29_2)) + 1))) x18_1 l0 (l0.length : Int) x18_1 ((rd_T49 l0 x18_1).f3) (((rd_T49 l0 x18_1).f3).length : Int) (wrap64 (x29_2 + 1))) else (none)) else (none)) else (some false)) = some r:=H
               have A20:=Aside0.mk A200
               clear A200
               by_cases c21 : t115 = true
               ·subst c21
                have H1 : (if 0 ≤ (rd ((rd_T49 l0 x18_1).f3) x29_2) then (if (rd ((rd_T49 l0 x18_1).f3) x29_2) < (x3_2.length : Int) then (impl_ReOk.l1 k2 l0 (x3_2.set ((rd ((rd_T49 l0 x18_1).f3) x29_2) : Int).toNat (wrap64 ((rd x3_2 (rd ((rd_T49 l0 x18_1).f3) x29_2)) + 1))) x18_1 l0 (l0.length : Int) x18_1 ((rd_T49 l0 x18_1).f3) (((rd_T49 l0 x18_1).f3).length : Int) (wrap64 (x29_2 + 1))) else (none)) else (none)) = some r:=by rw [if_pos rfl] at H;exact H
                clear H
                have H:=H1
                clear H1
                by_cases c22 : 0 ≤ (rd ((rd_T49 l0 x18_1).f3) x29_2)
                ·rw [if_pos c22] at H
                 have c22b0 : decide (0 ≤ (rd ((rd_T49 l0 x18_1).f3) x29_2)) = true:=decide_eq_true c22
                 clear c22
                 by_cases c23 : (rd ((rd_T49 l0 x18_1).f3) x29_2) < (x3_2.length : Int)
                 ·rw [if_pos c23] at H
                  have c23b0 : decide ((rd ((rd_T49 l0 x18_1).f3) x29_2) < (x3_2.length : Int)) = true:=decide_eq_true c23
                  clear c23
                  obtain ⟨y117,hy117⟩ : ∃ y_ : List Int,y_ = (x3_2.set ((rd ((rd_T49 l0 x18_1).f3) x29_2) : Int).toNat (wrap64 ((rd x3_2 (rd ((rd_T49 l0 x18_1).f3) x29_2)) + 1))):=⟨_,rfl⟩
                  replace H : (impl_ReOk.l1 k2 l0 y117 x18_1 l0 (l0.length : Int) x18_1 ((rd_T49 l0 x18_1).f3) (((rd_T49 l0 x18_1).f3).length : Int) (wrap64 (x29_2 + 1))) = some r:=by first|(rw [hy117];with_reducible exact H)|(have H2_:=(Option.bind_some _ _).symm.trans H;rw [hy117];with_reducible exact H2_)|(have H2_:=(Option.bind_some _ _).symm.trans H;with_reducible exact H2_)|with_reducible exact H|(rw [hy117];exact H)|exact H
                  have Ny117:=Aside0.mk hy117
                  clear hy117
                  have H':=Aside0.mk H
                  clear H
                  have p114 : 0 ≤ (x29_2 : Int):=of_decide_eq_true (by first|(with_reducible assumption)|assumption)
                  have q114 : x29_2 < (((rd_T49 l0 x18_1).f3).length : Int):=of_decide_eq_true (by first|(with_reducible assumption)|assumption)
                  obtain ⟨ad114,e114,hx114_0⟩:=Kd.at_int HR111_3.out x29_2 p114 q114
                  cases e114
                  replace hx114_0:=(HB.out.cell (World.block_lt_of_cell? w _ hx114_0)).trans hx114_0
                  replace p114:=eq_true p114
                  replace q114:=eq_true q114
                  go_wp2_with (first|((with_reducible refine gate_callee (f:=44) rfl ?_);refine goesL_ (some 36) rfl rfl Tryd.func44 (by kernel_rfl) rfl #[.int .i64 (rd ((rd_T49 l0 x18_1).f3) x29_2),.int .i64 0,.int .i64 (wrap64 (x18_1 - 1))] rfl (by (try simp only [List.map_toArray,List.map_cons,List.map_nil]);first|done|rfl|(simp only [List.length_drop,List.length_take];rfl)) ?_;(with_reducible refine (impl_between.calls (rd ((rd_T49 l0 x18_1).f3) x29_2) 0 (wrap64 (x18_1 - 1)) true _ A20.out).mono ?_);rintro e w' ⟨rfl,⟨nd,rfl⟩⟩;refine ⟨_,rfl,?_⟩;(try (rw [drewN_self wr];generalize hq_ : World.drewN wr _ = wr;have n0_ : Aside0 (Kd.R (Kd.int .i64) 3 wr w.heap.size (fun _=>True) v104 x3_2):=⟨by rw [← hq_];exact (by (with_reducible repeat (first|apply Kd.R_alloc|apply Kd.R_drewN|apply Kd.R_drew));exact HO_3.out)⟩;have n1_ : Aside0 (wr.heap[gb112]? = some (.cells #[.int .i64 ((rd_T49 l0 x18_1).f0),.bool ((rd_T49 l0 x18_1).f1),.string ((rd_T49 l0 x18_1).f2),.slice (some ad114) ((rd_T49 l0 x18_1).f3).length c111_3] 49 (0,0))):=⟨by rw [← hq_];exact (by (with_reducible repeat (first|refine blk_drewN ?_ _|refine blk_drew ?_|refine blk_alloc ?_ _));exact BK112.out)⟩;have n2_ : Aside0 (Below w.heap.size w wr):=⟨by rw [← hq_];exact (by repeat (first|(with_reducible first|exact HB.out|apply below_alloc|apply pw_below_drewN|apply below_drew1|refine below_set ?_ GE112.out)|exact HB.out))⟩;clear HO_3 BK112 HB hq_;have HO_3:=n0_;have BK112:=n1_;have HB:=n2_;clear n0_ n1_ n2_));obtain ⟨Ao25,co25,eo25⟩:=Kd.R_slice HO_3.out;subst eo25;have p116 : 0 ≤ ((rd ((rd_T49 l0 x18_1).f3) x29_2) : Int):=of_decide_eq_true (by first|(with_reducible assumption)|assumption);have q116 : (rd ((rd_T49 l0 x18_1).f3) x29_2) < (x3_2.length : Int):=of_decide_eq_true (by first|(with_reducible assumption)|assumption);obtain ⟨ad116,e116,hx116_0⟩:=Kd.at_int (Kd.R_reads' HO_3.out).2.2 (rd ((rd_T49 l0 x18_1).f3) x29_2) p116 q116;cases e116;replace p116:=eq_true p116;replace q116:=eq_true q116;have p24 : 0 ≤ ((rd ((rd_T49 l0 x18_1).f3) x29_2) : Int):=of_decide_eq_true (by first|(with_reducible assumption)|assumption);have q24 : ((rd ((rd_T49 l0 x18_1).f3) x29_2) : Int) < ((x3_2.length : Int) : Int):=of_decide_eq_true (by first|(with_reducible assumption)|assumption);obtain ⟨go24,co24,eo24,gb24,gl24,cl24,HG24⟩:=Kd.R_form HO_3.out (by omega);(first|cases eo24|(injection eo24 with ea_ en_ ec_;(first|subst ea_|(injection ea_ with ea_;subst ea_));subst ec_;clear en_));have GB24:=Aside0.mk gb24;have GG24:=Aside0.mk HG24;clear gb24 gl24 HG24;(first|simp only [add_plain] at hx116_0|skip);obtain ⟨hx24_0,hf24_0⟩:=Kd.R_celln 0 HO_3.out ((rd ((rd_T49 l0 x18_1).f3) x29_2) : Int) p24 q24;replace p24:=eq_true p24;replace q24:=eq_true q24;obtain ⟨hy26_,hz26_⟩:=Kd.R_celln 0 HO_3.out ((rd ((rd_T49 l0 x18_1).f3) x29_2) : Int) (of_decide_eq_true (by first|(with_reducible assumption)|assumption)) (of_decide_eq_true (by first|(with_reducible assumption)|assumption));have HP26:=Kd.R_putg HO_3.out ((rd ((rd_T49 l0 x18_1).f3) x29_2) : Int) (wrap64 ((rd x3_2 (rd ((rd_T49 l0 x18_1).f3) x29_2)) + 1)))|((with_reducible refine gate_store (t:=3) (p:=43) rfl ?_);refine store_event (t:=3) (p:=43) (v:=?vo_w27) (w1:=(wr.setCell ⟨go24,((rd ((rd_T49 l0 x18_1).f3) x29_2) : Int).toNat,none⟩ (.int .i64 (wrap64 ((rd x3_2 (rd ((rd_T49 l0 x18_1).f3) x29_2)) + 1))))) ?hg ?ho ?hn ?hr ?_;(case ho=>rfl);(case hg=>rfl);(case hn=>rfl);(case hr=>first|(go_simp;done)|(go_simp;rfl));intro w27 hw;have hg : wr.grownBy w27 (some go24):=(by rw [hw];exact HP26.2);have hp_ : Kd.R (Kd.int .i64) 3 w27 w.heap.size (fun _=>True) (.slice (some ⟨go24,0,none⟩) x3_2.length co25) y117:=(by rw [hw,Ny117.out];exact HP26.1);clear HP26;have n0_:=Aside0.mk (hp_);have n1_:=Aside0.mk (blk_grown (g:=gb112) (o:=.cells #[.int .i64 ((rd_T49 l0 x18_1).f0),.bool ((rd_T49 l0 x18_1).f1),.string ((rd_T49 l0 x18_1).f2),.slice (some ad114) ((rd_T49 l0 x18_1).f3).length c111_3] 49 (0,0)) (by (with_reducible repeat (first|refine blk_drewN ?_ _|refine blk_drew ?_|refine blk_alloc ?_ _));exact BK112.out) hg (Kd.R_ne HO_3.out BK112.out (by decide)));have n2_:=Aside0.mk ((by rw [hw];exact below_set (HB.out) GB24.out : Below w.heap.size w w27));clear HO_3;clear BK112;clear HB;have HO_3:=n0_;have BK112:=n1_;have HB:=n2_;clear n0_ n1_ n2_;clear hg hw hp_))
                  go_roundg k2
                  case measure=>have:=HK1.out;have:=HK2.out;omega
                  case rel=>exact ⟨(y117),(wrap64 (x29_2 + 1)),(by first|rfl|(simp;done)|(simp [*];done)),H',⟨by have:=HK1.out;have:=HK2.out;omega⟩,⟨by (with_reducible repeat (first|apply Kd.R_alloc|apply Kd.R_drewN|apply Kd.R_drew));exact HO_3.out⟩,⟨by (with_reducible repeat (first|refine blk_drewN ?_ _|refine blk_drew ?_|refine blk_alloc ?_ _));exact BK112.out⟩,⟨by repeat (first|(with_reducible first|exact HB.out|apply below_alloc|apply pw_below_drewN|apply below_drew1|refine below_set ?_ GE112.out)|exact HB.out)⟩⟩
                 ·rw [if_neg c23] at H
                  exact absurd H (by simp)
                ·rw [if_neg c22] at H
                 exact absurd H (by simp)
               ·replace c21:=Bool.eq_false_iff.mpr c21
                subst c21
                have H1 : (some false) = some r:=by rw [if_neg (show ¬ (false = true) by decide)] at H;exact H
                clear H
                have H:=H1
                clear H1
                obtain rfl:=Option.some.inj H
                have p114 : 0 ≤ (x29_2 : Int):=of_decide_eq_true (by first|(with_reducible assumption)|assumption)
                have q114 : x29_2 < (((rd_T49 l0 x18_1).f3).length : Int):=of_decide_eq_true (by first|(with_reducible assumption)|assumption)
                obtain ⟨ad114,e114,hx114_0⟩:=Kd.at_int HR111_3.out x29_2 p114 q114
                cases e114
                replace hx114_0:=(HB.out.cell (World.block_lt_of_cell? w _ hx114_0)).trans hx114_0
                replace p114:=eq_true p114
                replace q114:=eq_true q114
                go_wp2_with (first|((with_reducible refine gate_callee (f:=44) rfl ?_);refine goesL_ (some 36) rfl rfl Tryd.func44 (by kernel_rfl) rfl #[.int .i64 (rd ((rd_T49 l0 x18_1).f3) x29_2),.int .i64 0,.int .i64 (wrap64 (x18_1 - 1))] rfl (by (try simp only [List.map_toArray,List.map_cons,List.map_nil]);first|done|rfl|(simp only [List.length_drop,List.length_take];rfl)) ?_;(with_reducible refine (impl_between.calls (rd ((rd_T49 l0 x18_1).f3) x29_2) 0 (wrap64 (x18_1 - 1)) false _ A20.out).mono ?_);rintro e w' ⟨rfl,⟨nd,rfl⟩⟩;refine ⟨_,rfl,?_⟩))
                go_ret
                exact ⟨by first|rfl|(simp [errW_none,errW_some] <;> rfl)|(simp [*,errW_none,errW_some] <;> rfl),by repeat (first|(with_reducible first|exact HB.out|apply below_alloc|apply pw_below_drewN|apply below_drew1|refine below_set ?_ GE112.out)|exact HB.out)⟩
              ·rw [if_neg c19] at H
               exact absurd H (by simp)
             ·rw [if_neg c18] at H
              exact absurd H (by simp)
            ·rw [if_neg c17] at H
             have c17b0 : decide (x29_2 < (((rd_T49 l0 x18_1).f3).length : Int)) = false:=decide_eq_false c17
             clear c17
             have H':=Aside0.mk H
             clear H
             go_wp2
             go_roundg k2
             case measure=>have:=HK1.out;have:=HK2.out;omega
             case rel=>exact ⟨(x3_2),(wrap64 (x18_1 + 1)),(by first|rfl|(simp;done)|(simp [*];done)),H',⟨by have:=HK1.out;have:=HK2.out;omega⟩,⟨by (with_reducible repeat (first|apply Kd.R_alloc|apply Kd.R_drewN|apply Kd.R_drew));exact HO_3.out⟩,⟨by repeat (first|(with_reducible first|exact HB.out|apply below_alloc|apply pw_below_drewN|apply below_drew1|refine below_set ?_ GE112.out)|exact HB.out)⟩⟩
         ·replace c12:=Bool.eq_false_iff.mpr c12
          subst c12
          have H1 : (some false) = some r:=by rw [if_neg (show ¬ (false = true) by decide)] at H;exact H
          clear H
          have H:=H1
          clear H1
          obtain rfl:=Option.some.inj H
          have p111 : 0 ≤ (x18_1 : Int):=of_decide_eq_true (by first|(with_reducible assumption)|assumption)
          have q111 : x18_1 < (l0.length : Int):=of_decide_eq_true (by first|(with_reducible assumption)|assumption)
          obtain ⟨ad111,A111_3,c111_3,e111,hx111_0,hx111_1,hx111_2,hx111_3,hl111_3,hi111_3⟩:=at_T49 HR0.out x18_1 p111 q111
          cases e111
          replace hx111_0:=(HB.out.cell (World.block_lt_of_cell? w _ hx111_0)).trans hx111_0
          replace hx111_1:=(HB.out.cell (World.block_lt_of_cell? w _ hx111_1)).trans hx111_1
          replace hx111_2:=(HB.out.cell (World.block_lt_of_cell? w _ hx111_2)).trans hx111_2
          replace hx111_3:=(HB.out.cell (World.block_lt_of_cell? w _ hx111_3)).trans hx111_3
          have HR111_3:=Aside0.mk hi111_3
          have HC111_3:=Aside0.mk hl111_3
          clear hi111_3 hl111_3
          replace p111:=eq_true p111
          replace q111:=eq_true q111
          go_wp2_with (first|((with_reducible refine gate_dst (N:=5) rfl ?_);refine box_event ?hg (N:=5) ?hd (cs:=#[.int .i64 0,.bool false,.string (⟨#[]⟩ : ByteArray),.slice none 0 0]) (t:=49) ?hr ?_;(case hd=>rfl);(case hg=>rfl);(case hr=>first|(go_simp;done)|(go_simp;rfl));intro gb112 hg w28 hbox hb;have n0_:=Aside0.mk (Kd.R_below (by (with_reducible repeat (first|apply Kd.R_alloc|apply Kd.R_drewN|apply Kd.R_drew));exact HO_3.out) hb);have n1_:=Aside0.mk (below_step (by repeat (first|(with_reducible first|exact HB.out|apply below_alloc|apply pw_below_drewN|apply below_drew1)|exact HB.out)) hb);have n2_:=Aside0.mk (hbox);have n3_:=Aside0.mk ((by rw [hg];exact (below_size (by repeat (first|(with_reducible first|exact HB.out|apply below_alloc|apply pw_below_drewN|apply below_drew1)|exact HB.out))) : w.heap.size ≤ gb112));have n4_:=Aside0.mk ((by rw [hg];exact (below_size (by repeat (first|(with_reducible first|exact HB.out|apply below_alloc|apply pw_below_drewN|apply below_drew1)|exact HB.out))) : w.heap.size ≤ gb112));clear HO_3;clear HB;have HO_3:=n0_;have HB:=n1_;have BK112:=n2_;have GW112:=n3_;have GE112:=n4_;clear n0_ n1_ n2_ n3_ n4_;clear hb hbox hg;have hcz29_0 : w28.cell? ⟨gb112,0,none⟩ = some (.int .i64 0):=(blk_cell BK112.out 0).trans rfl;have hcz29_1 : w28.cell? ⟨gb112,1,none⟩ = some (.bool false):=(blk_cell BK112.out 1).trans rfl;have hcz29_2 : w28.cell? ⟨gb112,2,none⟩ = some (.string (⟨#[]⟩ : ByteArray)):=(blk_cell BK112.out 2).trans rfl;have hcz29_3 : w28.cell? ⟨gb112,3,none⟩ = some (.slice none 0 0):=(blk_cell BK112.out 3).trans rfl;have hfz29_0:=blk_frozen BK112.out 0;have hfz29_1:=blk_frozen BK112.out 1;have hfz29_2:=blk_frozen BK112.out 2;have hfz29_3:=blk_frozen BK112.out 3)|((with_reducible refine gate_callee (f:=74) rfl ?_);refine goesL_ (some 24) rfl rfl Tryd.func74 (by kernel_rfl) rfl #[.agg #[.int .i64 ((rd_T49 l0 x18_1).f0),.bool ((rd_T49 l0 x18_1).f1),.string ((rd_T49 l0 x18_1).f2),.slice A111_3 ((rd_T49 l0 x18_1).f3).length c111_3]] rfl (by (try simp only [List.map_toArray,List.map_cons,List.map_nil]);first|done|rfl|(simp only [List.length_drop,List.length_take];rfl)) ?_;(with_reducible refine (impl_isReNode.calls k1 ((rd_T49 l0 x18_1).f0) ((rd_T49 l0 x18_1).f1) ((rd_T49 l0 x18_1).f2) _ _ ((rd_T49 l0 x18_1).f3) false _ ?side1 ?side2 A11.out).mono ?_);(case side1=>exact Kd.C_below HR111_3.out (by repeat (first|(with_reducible first|exact HB.out|apply below_alloc|apply pw_below_drewN|apply below_drew1|refine below_set ?_ GE112.out)|exact HB.out)));(case side2=>exact HC111_3.out);rintro e w30 ⟨rfl,hb⟩;refine ⟨_,rfl,?_⟩;have n0_:=Aside0.mk (Kd.R_below (by (with_reducible repeat (first|apply Kd.R_alloc|apply Kd.R_drewN|apply Kd.R_drew));exact (Kd.R_mono (Kd.R_far (p:=⟨gb112,3,none⟩) (Kd.R_far (p:=⟨gb112,2,none⟩) (Kd.R_far (p:=⟨gb112,1,none⟩) (Kd.R_far (p:=⟨gb112,0,none⟩) (Kd.R_types HO_3.out BK112.out (by decide)) (fun _ hk=>hk.2) (.int .i64 ((rd_T49 l0 x18_1).f0))) (fun _ hk=>hk.2) (.bool ((rd_T49 l0 x18_1).f1))) (fun _ hk=>hk.2) (.string ((rd_T49 l0 x18_1).f2))) (fun _ hk=>hk.2) (.slice A111_3 ((rd_T49 l0 x18_1).f3).length c111_3)) (fun _ h_=>h_.1))) hb);have n1_:=Aside0.mk (blk_below (g:=gb112) (o:=.cells #[.int .i64 ((rd_T49 l0 x18_1).f0),.bool ((rd_T49 l0 x18_1).f1),.string ((rd_T49 l0 x18_1).f2),.slice A111_3 ((rd_T49 l0 x18_1).f3).length c111_3] 49 (0,0)) (by (with_reducible repeat (first|refine blk_drewN ?_ _|refine blk_drew ?_|refine blk_alloc ?_ _));refine blk_put (cs:=#[.int .i64 ((rd_T49 l0 x18_1).f0),.bool ((rd_T49 l0 x18_1).f1),.string ((rd_T49 l0 x18_1).f2),.slice none 0 0]) ?_ 3 _ rfl;(with_reducible repeat (first|refine blk_drewN ?_ _|refine blk_drew ?_|refine blk_alloc ?_ _));refine blk_put (cs:=#[.int .i64 ((rd_T49 l0 x18_1).f0),.bool ((rd_T49 l0 x18_1).f1),.string (⟨#[]⟩ : ByteArray),.slice none 0 0]) ?_ 2 _ rfl;(with_reducible repeat (first|refine blk_drewN ?_ _|refine blk_drew ?_|refine blk_alloc ?_ _));refine blk_put (cs:=#[.int .i64 ((rd_T49 l0 x18_1).f0),.bool false,.string (⟨#[]⟩ : ByteArray),.slice none 0 0]) ?_ 1 _ rfl;(with_reducible repeat (first|refine blk_drewN ?_ _|refine blk_drew ?_|refine blk_alloc ?_ _));refine blk_put (cs:=#[.int .i64 0,.bool false,.string (⟨#[]⟩ : ByteArray),.slice none 0 0]) ?_ 0 _ rfl;(with_reducible repeat (first|refine blk_drewN ?_ _|refine blk_drew ?_|refine blk_alloc ?_ _));exact BK112.out) hb);have n2_:=Aside0.mk (below_step (by repeat (first|(with_reducible first|exact HB.out|apply below_alloc|apply pw_below_drewN|apply below_drew1|refine below_set ?_ GE112.out)|exact HB.out)) hb);clear HO_3;clear BK112;clear HB;have HO_3:=n0_;have BK112:=n1_;have HB:=n2_;clear n0_ n1_ n2_;(try clear hb);(try clear hb2);(try clear hk);(try clear hi)))
          go_ret
          exact ⟨by first|rfl|(simp [errW_none,errW_some] <;> rfl)|(simp [*,errW_none,errW_some] <;> rfl),by repeat (first|(with_reducible first|exact HB.out|apply below_alloc|apply pw_below_drewN|apply below_drew1|refine below_set ?_ GE112.out)|exact HB.out)⟩
        ·rw [if_neg c10] at H
         exact absurd H (by simp)
       ·rw [if_neg c9] at H
        exact absurd H (by simp)
      ·rw [if_neg c8] at H
       have c8b0 : decide (x18_1 < (l0.length : Int)) = false:=decide_eq_false c8
       clear c8
       obtain ⟨ji31,hji31⟩ : ∃ j_ : Int,(wrap64 ((l0.length : Int) - 1)) = j_:=⟨_,rfl⟩
       replace H : (if 0 ≤ (ji31) then (if (ji31) ≤ (x3_1.length : Int) then ((slices_ContainsFunc_int_int.f (x3_1.take ((ji31) : Int).toNat) 76).bind fun t110=>(some (!t110))) else (none)) else (none)) = some r:=by first|(rw [hji31] at H;exact H)|(simp only [hji31] at H ⊢;exact H)
       have hji31w : (IntKind.i64.wrap ((l0.length : Int) - 1)) = ji31:=(i64_w _).trans hji31
       by_cases c32 : 0 ≤ (ji31)
       ·rw [if_pos c32] at H
        have c32b0:=eq_true c32
        have c32b1 : decide (0 ≤ (ji31)) = true:=decide_eq_true c32
        clear c32
        by_cases c33 : (ji31) ≤ (x3_1.length : Int)
        ·rw [if_pos c33] at H
         have c33b0:=eq_true c33
         have c33b1 : decide ((ji31) ≤ (x3_1.length : Int)) = true:=decide_eq_true c33
         clear c33
         obtain ⟨y106,hy106⟩ : ∃ y_ : List Int,y_ = (x3_1.take ((ji31) : Int).toNat):=⟨_,rfl⟩
         replace H : ((slices_ContainsFunc_int_int.f y106 76).bind fun t110=>(some (!t110))) = some r:=by first|(rw [hy106];with_reducible exact H)|(have H2_:=(Option.bind_some _ _).symm.trans H;rw [hy106];with_reducible exact H2_)|(have H2_:=(Option.bind_some _ _).symm.trans H;with_reducible exact H2_)|with_reducible exact H|(rw [hy106];exact H)|exact H
         have Ny106:=Aside0.mk hy106
         clear hy106
         replace H:=Option.bind_eq_some_iff.mp H
         obtain ⟨t110,A340,H⟩:=H
         replace H : (some (!t110)) = some r:=H
         have A34:=Aside0.mk A340
         clear A340
         obtain rfl:=Option.some.inj H
         obtain ⟨Ao36,co36,eo36⟩:=Kd.R_slice HO_3.out
         subst eo36
         have q35 : ((ji31) : Int) ≤ ((x3_1.length : Int) : Int):=of_decide_eq_true (by first|(with_reducible assumption)|assumption)
         obtain ⟨i035,hi035,_,hsz35,_⟩:=info_parts info3
         have hroom35 : x3_1.length ≤ co36:=(Kd.R_reads' HO_3.out).2.1
         have hC35 : Kd.C (Kd.int .i64) _ Ao36 x3_1.length x3_1:=(Kd.R_reads' HO_3.out).2.2
         have hcut35:=cut_to (P:=Tryd.prog) 31 3 .i64 Tryd.underlying31 hi035 Ao36 x3_1.length co36 (ji31) (of_decide_eq_true (by first|(with_reducible assumption)|assumption)) q35 hroom35
         have hr35:=Kd.C_take (m:=((ji31) : Int).toNat) hC35 (by omega)
         have hy35 : y106.length = ((ji31) : Int).toNat:=(by rw [Ny106.out,List.length_take];omega)
         rw [← Ny106.out] at hr35
         rw [← hy35] at hcut35
         have HR109:=Aside0.mk hr35
         have HC109:=Aside0.mk (show y106.length ≤ co36 from by omega)
         clear hr35 hC35 hroom35 hi035 hsz35
         have KY35:=Aside0.mk hy35
         clear hy35
         have KL35:=Aside0.mk (show ((ji31) : Int).toNat ≤ x3_1.length from by omega)
         replace q35:=eq_true q35
         go_wp2_with (first|((with_reducible refine gate_callee (f:=75) rfl ?_);refine goesL_ (some 52) rfl rfl Tryd.func75 (by kernel_rfl) rfl #[.slice Ao36 y106.length co36,.func (.func 76) #[] #[]] rfl (by (try simp only [List.map_toArray,List.map_cons,List.map_nil]);first|done|rfl|(simp only [List.length_drop,List.length_take];rfl)) ?_;(with_reducible refine (slices_ContainsFunc_int_int.calls _ _ y106 76 t110 _ ?side1 ?side2 A34.out).mono ?_);(case side1=>repeat (first|exact (by repeat (first|(with_reducible exact HR109.out)|(with_reducible refine Kd.C_alloc ?_ _)|(with_reducible refine Kd.C_drewN ?_ _)|(with_reducible refine Kd.C_drew ?_)|exact HR109.out))|(with_reducible refine Kd.C_alloc ?_ _)|(with_reducible refine Kd.C_drewN ?_ _)|(with_reducible refine Kd.C_drew ?_)));(case side2=>exact HC109.out);rintro e w' ⟨rfl,⟨nd,rfl⟩⟩;refine ⟨_,rfl,?_⟩))
         go_ret
         exact ⟨by first|rfl|(simp [errW_none,errW_some] <;> rfl)|(simp only [← hji31];first|rfl|(simp [errW_none,errW_some] <;> rfl))|(simp [*,errW_none,errW_some] <;> rfl),by repeat (first|(with_reducible first|exact HB.out|apply below_alloc|apply pw_below_drewN|apply below_drew1)|exact HB.out)⟩
        ·rw [if_neg c33] at H
         exact absurd H (by simp)
       ·rw [if_neg c32] at H
        exact absurd H (by simp)
   ·rw [if_neg c5] at H
    exact absurd H (by simp)
  ·rw [if_neg c4] at H
   exact absurd H (by simp)
 ·replace c3:=Bool.eq_false_iff.mpr c3
  subst c3
  have H1 : (some false) = some r:=by rw [if_neg (show ¬ (false = true) by decide)] at H;exact H
  clear H
  have H:=H1
  clear H1
  obtain rfl:=Option.some.inj H
  go_enter Tryd.func60,Tryd.ntmps60
  go_wp2_with (first|((with_reducible refine gate_callee (f:=44) rfl ?_);refine goesL_ (some 11) rfl rfl Tryd.func44 (by kernel_rfl) rfl #[.int .i64 (l0.length : Int),.int .i64 1,.int .i64 200] rfl (by (try simp only [List.map_toArray,List.map_cons,List.map_nil]);first|done|rfl|(simp only [List.length_drop,List.length_take];rfl)) ?_;(with_reducible refine (impl_between.calls (l0.length : Int) 1 200 false _ A2.out).mono ?_);rintro e w' ⟨rfl,⟨nd,rfl⟩⟩;refine ⟨_,rfl,?_⟩))
  go_ret
  exact ⟨by first|rfl|(simp [errW_none,errW_some] <;> rfl)|(simp [*,errW_none,errW_some] <;> rfl),by repeat (first|(with_reducible first|exact HB.out|apply below_alloc|apply pw_below_drewN|apply below_drew1)|exact HB.out)⟩
def impl_inSet.l0 : Nat → Int → Int → Int → Bool → ByteArray → List Int → Option (Bool)
 | 0,_,_,_,_,_,_=>none
 | k + 1,x1,x5,x119000,x119001,x119002,x119003=>if x5 < (x119002.size : Int) then (if 0 ≤ x5 then (if x1 ≥ (bt x119002 x5) then (if 0 ≤ (wrap64 (x5 + 1)) then (if (wrap64 (x5 + 1)) < (x119002.size : Int) then (if x1 ≤ (bt x119002 (wrap64 (x5 + 1))) then (some (!x119001)) else (impl_inSet.l0 k x1 (wrap64 (x5 + 2)) x119000 x119001 x119002 x119003)) else (none)) else (none)) else (impl_inSet.l0 k x1 (wrap64 (x5 + 2)) x119000 x119001 x119002 x119003)) else (none)) else (some x119001)
def impl_inSet.f (k : Nat) (a0_0 : Int) (a0_1 : Bool) (a0_2 : ByteArray) (l0_3 : List Int) (a1 : Int) : Option (Bool):=impl_inSet.l0 k a1 0 a0_0 a0_1 a0_2 l0_3
set_option maxHeartbeats 8000000 in
set_option maxRecDepth 100000 in
theorem impl_inSet.calls (k : Nat) (a0_0 : Int) (a0_1 : Bool) (a0_2 : ByteArray) (A0_3 : Option Addr) (c0_3 : Nat) (l0_3 : List Int) (a1 : Int) (r : Bool) (w : World) (hr0_3 : Kd.C (Kd.int .i64) w A0_3 l0_3.length l0_3) (hc0_3 : l0_3.length ≤ c0_3) (h : impl_inSet.f k a0_0 a0_1 a0_2 l0_3 a1 = some r) :
  Calls Tryd.prog 77 #[.agg #[.int .i64 a0_0,.bool a0_1,.string a0_2,.slice A0_3 l0_3.length c0_3],.int .u8 a1] w fun e w'=>e = .returned (.bool r) ∧ Below w.heap.size w w':=by
 have hu49:=Tryd.underlying49
 have HR0_3:=Aside0.mk hr0_3
 have HC0_3:=Aside0.mk hc0_3
 clear hr0_3 hc0_3
 have HB:=Aside0.mk (Below.refl w.heap.size w)
 have H : (impl_inSet.l0 k a1 0 a0_0 a0_1 a0_2 l0_3) = some r:=h
 clear h
 have H':=Aside0.mk H
 clear H
 go_enter Tryd.func77,Tryd.ntmps77
 go_wp2_with (first|((with_reducible refine gate_dst (N:=2) rfl ?_);refine box_event ?hg (N:=2) ?hd (cs:=#[.int .i64 a0_0,.bool a0_1,.string a0_2,.slice A0_3 l0_3.length c0_3]) (t:=49) ?hr ?_;(case hd=>rfl);(case hg=>rfl);(case hr=>first|(go_simp;done)|(go_simp;rfl));intro gb118 hg w3 hbox hb;have n0_:=Aside0.mk (below_step (by repeat (first|(with_reducible first|exact HB.out|apply below_alloc|apply pw_below_drewN|apply below_drew1)|exact HB.out)) hb);have n1_:=Aside0.mk (hbox);have n2_:=Aside0.mk ((by rw [hg];exact (below_size (by repeat (first|(with_reducible first|exact HB.out|apply below_alloc|apply pw_below_drewN|apply below_drew1)|exact HB.out))) : w.heap.size ≤ gb118));have n3_:=Aside0.mk ((by rw [hg];exact (below_size (by repeat (first|(with_reducible first|exact HB.out|apply below_alloc|apply pw_below_drewN|apply below_drew1)|exact HB.out))) : w.heap.size ≤ gb118));clear HB;have HB:=n0_;have BK118:=n1_;have GW118:=n2_;have GE118:=n3_;clear n0_ n1_ n2_ n3_;clear hb hbox hg))
 go_loopg [5] k (fun kq v5 w'=>∃ (x5_1 : Int),v5 = .int .i64 x5_1 ∧ Aside0 (impl_inSet.l0 kq a1 x5_1 a0_0 a0_1 a0_2 l0_3 = some r) ∧ Aside0 (kq ≤ k) ∧ Aside0 (w'.heap[gb118]? = some (.cells #[.int .i64 a0_0,.bool a0_1,.string a0_2,(.slice A0_3 l0_3.length c0_3)] 49 (0,0))) ∧ Aside0 (Below w.heap.size w w'))
 case atStart=>exact ⟨(0),(by first|rfl|(simp;done)|(simp [*];done)),H',⟨Nat.le_refl _⟩,⟨by (with_reducible repeat (first|refine blk_drewN ?_ _|refine blk_drew ?_|refine blk_alloc ?_ _));exact BK118.out⟩,⟨by repeat (first|(with_reducible first|exact HB.out|apply below_alloc|apply pw_below_drewN|apply below_drew1|refine below_set ?_ GE118.out)|exact HB.out)⟩⟩
 case round =>
  clear H'
  try clear p2
  obtain ⟨x5_1,rfl,HA,HK1,BK118,HB⟩:=hrel
  cases gk with
  | zero=>exact absurd HA.out (by simp [impl_inSet.l0])
  | succ k1 =>
   have H:=HA.out
   clear HA
   simp only [impl_inSet.l0] at H
   by_cases c4 : x5_1 < (a0_2.size : Int)
   ·rw [if_pos c4] at H
    have c4b0 : decide (x5_1 < (a0_2.size : Int)) = true:=decide_eq_true c4
    clear c4
    by_cases c5 : 0 ≤ x5_1
    ·rw [if_pos c5] at H
     have c5b0 : decide (0 ≤ x5_1) = true:=decide_eq_true c5
     clear c5
     by_cases c7 : a1 ≥ (bt a0_2 x5_1)
     ·rw [if_pos c7] at H
      have c7b0 : decide ((bt a0_2 x5_1) ≤ a1) = true:=decide_eq_true c7
      clear c7
      obtain ⟨ji8,hji8⟩ : ∃ j_ : Int,(wrap64 (x5_1 + 1)) = j_:=⟨_,rfl⟩
      replace H : (if 0 ≤ (ji8) then (if (ji8) < (a0_2.size : Int) then (if a1 ≤ (bt a0_2 (ji8)) then (some (!a0_1)) else (impl_inSet.l0 k1 a1 (wrap64 (x5_1 + 2)) a0_0 a0_1 a0_2 l0_3)) else (none)) else (none)) = some r:=by first|(rw [hji8] at H;exact H)|(simp only [hji8] at H ⊢;exact H)
      have hji8w : (IntKind.i64.wrap (x5_1 + 1)) = ji8:=(i64_w _).trans hji8
      by_cases c9 : 0 ≤ (ji8)
      ·rw [if_pos c9] at H
       have c9b0 : decide (0 ≤ (ji8)) = true:=decide_eq_true c9
       clear c9
       by_cases c10 : (ji8) < (a0_2.size : Int)
       ·rw [if_pos c10] at H
        have c10b0 : decide ((ji8) < (a0_2.size : Int)) = true:=decide_eq_true c10
        clear c10
        by_cases c12 : a1 ≤ (bt a0_2 (ji8))
        ·rw [if_pos c12] at H
         have c12b0 : decide (a1 ≤ (bt a0_2 (ji8))) = true:=decide_eq_true c12
         clear c12
         obtain rfl:=Option.some.inj H
         have hcz13_0 : wr.cell? ⟨gb118,0,none⟩ = some (.int .i64 a0_0):=(blk_cell BK118.out 0).trans rfl
         have hcz13_1 : wr.cell? ⟨gb118,1,none⟩ = some (.bool a0_1):=(blk_cell BK118.out 1).trans rfl
         have hcz13_2 : wr.cell? ⟨gb118,2,none⟩ = some (.string a0_2):=(blk_cell BK118.out 2).trans rfl
         have hcz13_3 : wr.cell? ⟨gb118,3,none⟩ = some (.slice A0_3 l0_3.length c0_3):=(blk_cell BK118.out 3).trans rfl
         have hfz13_0:=blk_frozen BK118.out 0
         have hfz13_1:=blk_frozen BK118.out 1
         have hfz13_2:=blk_frozen BK118.out 2
         have hfz13_3:=blk_frozen BK118.out 3
         have p6 : 0 ≤ (x5_1 : Int):=of_decide_eq_true (by first|(with_reducible assumption)|assumption)
         have q6 : x5_1 < (a0_2.size : Int):=of_decide_eq_true (by first|(with_reducible assumption)|assumption)
         have hx6:=bt_at a0_2 x5_1
         replace p6:=eq_true p6
         replace q6:=eq_true q6
         have p11 : 0 ≤ ((ji8) : Int):=of_decide_eq_true (by first|(with_reducible assumption)|assumption)
         have q11 : (ji8) < (a0_2.size : Int):=of_decide_eq_true (by first|(with_reducible assumption)|assumption)
         have hx11:=bt_at a0_2 (ji8)
         replace p11:=eq_true p11
         replace q11:=eq_true q11
         go_wp2
         go_ret
         exact ⟨by first|rfl|(simp [errW_none,errW_some] <;> rfl)|(simp only [← hji8];first|rfl|(simp [errW_none,errW_some] <;> rfl))|(simp [*,errW_none,errW_some] <;> rfl),by repeat (first|(with_reducible first|exact HB.out|apply below_alloc|apply pw_below_drewN|apply below_drew1|refine below_set ?_ GE118.out)|exact HB.out)⟩
        ·rw [if_neg c12] at H
         have c12b0 : decide (a1 ≤ (bt a0_2 (ji8))) = false:=decide_eq_false c12
         clear c12
         have H':=Aside0.mk H
         clear H
         have hcz14_0 : wr.cell? ⟨gb118,0,none⟩ = some (.int .i64 a0_0):=(blk_cell BK118.out 0).trans rfl
         have hcz14_1 : wr.cell? ⟨gb118,1,none⟩ = some (.bool a0_1):=(blk_cell BK118.out 1).trans rfl
         have hcz14_2 : wr.cell? ⟨gb118,2,none⟩ = some (.string a0_2):=(blk_cell BK118.out 2).trans rfl
         have hcz14_3 : wr.cell? ⟨gb118,3,none⟩ = some (.slice A0_3 l0_3.length c0_3):=(blk_cell BK118.out 3).trans rfl
         have hfz14_0:=blk_frozen BK118.out 0
         have hfz14_1:=blk_frozen BK118.out 1
         have hfz14_2:=blk_frozen BK118.out 2
         have hfz14_3:=blk_frozen BK118.out 3
         have p6 : 0 ≤ (x5_1 : Int):=of_decide_eq_true (by first|(with_reducible assumption)|assumption)
         have q6 : x5_1 < (a0_2.size : Int):=of_decide_eq_true (by first|(with_reducible assumption)|assumption)
         have hx6:=bt_at a0_2 x5_1
         replace p6:=eq_true p6
         replace q6:=eq_true q6
         have p11 : 0 ≤ ((ji8) : Int):=of_decide_eq_true (by first|(with_reducible assumption)|assumption)
         have q11 : (ji8) < (a0_2.size : Int):=of_decide_eq_true (by first|(with_reducible assumption)|assumption)
         have hx11:=bt_at a0_2 (ji8)
         replace p11:=eq_true p11
         replace q11:=eq_true q11
         go_wp2
         go_roundg k1
         case measure=>have:=HK1.out;omega
         case rel=>exact ⟨(wrap64 (x5_1 + 2)),(by first|rfl|(simp;done)|(simp [*];done)),H',⟨by have:=HK1.out;omega⟩,⟨by (with_reducible repeat (first|refine blk_drewN ?_ _|refine blk_drew ?_|refine blk_alloc ?_ _));exact BK118.out⟩,⟨by repeat (first|(with_reducible first|exact HB.out|apply below_alloc|apply pw_below_drewN|apply below_drew1|refine below_set ?_ GE118.out)|exact HB.out)⟩⟩
       ·rw [if_neg c10] at H
        exact absurd H (by simp)
      ·rw [if_neg c9] at H
       exact absurd H (by simp)
     ·rw [if_neg c7] at H
      have c7b0 : decide ((bt a0_2 x5_1) ≤ a1) = false:=decide_eq_false c7
      clear c7
      have H':=Aside0.mk H
      clear H
      have hcz15_0 : wr.cell? ⟨gb118,0,none⟩ = some (.int .i64 a0_0):=(blk_cell BK118.out 0).trans rfl
      have hcz15_1 : wr.cell? ⟨gb118,1,none⟩ = some (.bool a0_1):=(blk_cell BK118.out 1).trans rfl
      have hcz15_2 : wr.cell? ⟨gb118,2,none⟩ = some (.string a0_2):=(blk_cell BK118.out 2).trans rfl
      have hcz15_3 : wr.cell? ⟨gb118,3,none⟩ = some (.slice A0_3 l0_3.length c0_3):=(blk_cell BK118.out 3).trans rfl
      have hfz15_0:=blk_frozen BK118.out 0
      have hfz15_1:=blk_frozen BK118.out 1
      have hfz15_2:=blk_frozen BK118.out 2
      have hfz15_3:=blk_frozen BK118.out 3
      have p6 : 0 ≤ (x5_1 : Int):=of_decide_eq_true (by first|(with_reducible assumption)|assumption)
      have q6 : x5_1 < (a0_2.size : Int):=of_decide_eq_true (by first|(with_reducible assumption)|assumption)
      have hx6:=bt_at a0_2 x5_1
      replace p6:=eq_true p6
      replace q6:=eq_true q6
      go_wp2
      go_roundg k1
      case measure=>have:=HK1.out;omega
      case rel=>exact ⟨(wrap64 (x5_1 + 2)),(by first|rfl|(simp;done)|(simp [*];done)),H',⟨by have:=HK1.out;omega⟩,⟨by (with_reducible repeat (first|refine blk_drewN ?_ _|refine blk_drew ?_|refine blk_alloc ?_ _));exact BK118.out⟩,⟨by repeat (first|(with_reducible first|exact HB.out|apply below_alloc|apply pw_below_drewN|apply below_drew1|refine below_set ?_ GE118.out)|exact HB.out)⟩⟩
    ·rw [if_neg c5] at H
     exact absurd H (by simp)
   ·rw [if_neg c4] at H
    have c4b0 : decide (x5_1 < (a0_2.size : Int)) = false:=decide_eq_false c4
    clear c4
    obtain rfl:=Option.some.inj H
    have hcz16_0 : wr.cell? ⟨gb118,0,none⟩ = some (.int .i64 a0_0):=(blk_cell BK118.out 0).trans rfl
    have hcz16_1 : wr.cell? ⟨gb118,1,none⟩ = some (.bool a0_1):=(blk_cell BK118.out 1).trans rfl
    have hcz16_2 : wr.cell? ⟨gb118,2,none⟩ = some (.string a0_2):=(blk_cell BK118.out 2).trans rfl
    have hcz16_3 : wr.cell? ⟨gb118,3,none⟩ = some (.slice A0_3 l0_3.length c0_3):=(blk_cell BK118.out 3).trans rfl
    have hfz16_0:=blk_frozen BK118.out 0
    have hfz16_1:=blk_frozen BK118.out 1
    have hfz16_2:=blk_frozen BK118.out 2
    have hfz16_3:=blk_frozen BK118.out 3
    go_wp2
    go_ret
    exact ⟨by first|rfl|(simp [errW_none,errW_some] <;> rfl)|(simp [*,errW_none,errW_some] <;> rfl),by repeat (first|(with_reducible first|exact HB.out|apply below_alloc|apply pw_below_drewN|apply below_drew1|refine below_set ?_ GE118.out)|exact HB.out)⟩
end Go.Proofs.YtlakdfbfkbndiaaDoor.Q
namespace Go.Proofs.YtlakdfbfkbndiaaDoor.Q
open Go
section
variable {P : Program} {Q : Exit → Act → World → Prop}
def withinB (l : List Oper) : Bool:=l.all fun o=>o.guard.isNone && o.after.all fun e=>decide (e.on < l.length)
theorem within_spec {l : List Oper} (h : withinB l = true) {i : Nat} {o : Oper} (hi : l[i]? = some o) : o.guard = none ∧ ∀ e ∈ o.after,e.on < l.length:=by
 have h1:=List.all_eq_true.1 h o (List.mem_of_getElem? hi)
 simp only [Bool.and_eq_true,Array.all_eq_true_iff_forall_mem,decide_eq_true_eq,Option.isNone_iff_eq_none] at h1
 exact h1
theorem getD_push {listed : Array Bool} {j : Nat} {b : Bool} (h : j < listed.size) : (listed.push true).getD j b = listed.getD j b:=by
 simp [Array.getD,h,Nat.lt_succ_of_lt h,Array.getElem_push_lt]
theorem push_set {listed : Array Bool} {i : Nat} (h : i < listed.size) : (listed.push true).setIfInBounds i true = (listed.setIfInBounds i true).push true:=by
 apply Array.ext'
 simp [List.set_append,h]
theorem set_last (listed : Array Bool) (b : Bool) : (listed.push b).setIfInBounds listed.size true = listed.push true:=by
 apply Array.ext'
 simp [List.set_append]
theorem ready_pop {md : Region.Mode} {l : List Oper} {o : Oper} {listed : Array Bool} (hs : listed.size = l.length) (hB : withinB l = true) (j : Nat) :
  j ∈ Region.ready md (l ++ [o]).toArray (listed.push true) ↔ j ∈ Region.ready md l.toArray listed:=by
 rw [mem_ready,mem_ready]
 rcases Nat.lt_trichotomy j l.length with hj|hj|hj
 ·have e1 : (l ++ [o]).toArray[j]? = l.toArray[j]?:=by simp [List.getElem?_append,hj]
  rw [e1,getD_push (by omega)]
  refine and_congr Iff.rfl (exists_congr fun oj=>and_congr_right fun hoj=>?_)
  have hw:=(within_spec hB (i:=j) (o:=oj) (by simpa using hoj)).2
  exact forall_congr' fun e=>forall_congr' fun he=>by rw [getD_push (by have:=hw e he;omega)]
 ·subst hj
  constructor
  ·rintro ⟨h,_⟩
   rw [← hs] at h
   simp [Array.getD] at h
  ·rintro ⟨_,oj,h,_⟩
   simp at h
 ·constructor
  ·rintro ⟨_,oj,h,_⟩
   have h2:=(Array.getElem?_eq_some_iff.1 h).1
   simp at h2
   omega
  ·rintro ⟨_,oj,h,_⟩
   have h2:=(Array.getElem?_eq_some_iff.1 h).1
   simp at h2
   omega
theorem wanted_free {ops : Array Oper} {o : Oper} (h : o.guard = none) (a : Act) : Region.wanted o (yielded ops a.tmps) = true:=by
 unfold Region.wanted;rw [h]
theorem wpAny_pop {md : Region.Mode} {l : List Oper} {o : Oper} (hB : withinB l = true) : ∀ (f : Nat) (listed : Array Bool) (a : Act) (w : World),listed.size = l.length →
  wpAny P md l.toArray Q f listed a w → wpAny P md (l ++ [o]).toArray Q f (listed.push true) a w
 | 0,listed,a,w,hs,h=>by
  refine ⟨List.eq_nil_iff_forall_not_mem.2 fun j hj=>?_,h.2⟩
  rw [ready_pop hs hB,h.1] at hj
  cases hj
 | f + 1,listed,a,w,hs,h=>by
  refine ⟨fun h0=>h.1 (List.eq_nil_iff_forall_not_mem.2 fun j hj=>?_),fun i hi=>?_⟩
  ·have:=(ready_pop (o:=o) hs hB j).2 hj
   rw [h0] at this
   cases this
  ·have hi':=(ready_pop hs hB i).1 hi
   have h2:=h.2 i hi'
   obtain ⟨_,oi,hoi,_⟩:=mem_ready.1 hi'
   have hil : i < l.length:=by
    have:=(Array.getElem?_eq_some_iff.1 hoi).1
    simpa using this
   have e1 : (l ++ [o]).toArray[i]? = some oi:=by
    rw [← hoi]
    simp [List.getElem?_append,hil]
   have hg:=(within_spec hB (i:=i) (o:=oi) (by simpa using hoi)).1
   unfold wpOp at h2 ⊢
   rw [hoi] at h2
   rw [e1]
   simp only [wanted_free hg,if_true] at h2 ⊢
   have e2 : (listed.push true).setIfInBounds i true = (listed.setIfInBounds i true).push true:=push_set (by omega)
   rw [e2]
   refine h2.imp (fun h3=>Oper.wp_mono (fun a' w' h'=>wpAny_pop hB f _ a' w' (by simp [hs]) h') h3) id
theorem wpAny_still_tail {a : Act} {w : World} {l : List Oper} (n : Nat) (hB : Region.lexTailB .any l.toArray n = true)
  (h : wpStill P l.toArray w (fun a'=>wpList P l.toArray Q (l.drop n) a' w) (l.take n) a) : wpAny P .any l.toArray Q l.length (Array.replicate l.length false) a w:=by
 simp only [Region.lexTailB,Bool.and_eq_true,decide_eq_true_eq] at hB
 obtain ⟨⟨⟨⟨hsel,hn⟩,hs⟩,hc⟩,hlex⟩:=hB
 have hn' : n < l.length:=by simpa using hn
 have htl : (l.take n).length = n:=by simp;omega
 have inv0 : HeadInv .any l.toArray n (Array.replicate l.toArray.size false) :=
  ⟨by simp,fun j oj _ hl=>(by rw [getD_replicate_false] at hl;cases hl),fun t _ ht=>getD_in (by simpa using ht) (getD_replicate_false _ _)⟩
 have H:=wpAnyL_lex (P:=P) (w:=w) (md:=.any) (g:=l.toArray.size - n) hsel hs hc hn (l.take n) 0 _ a (fun j hj=>by
  have hj' : j < n:=by rw [htl] at hj;exact hj
  simp [hj']) (by simpa using htl) inv0 (by rw [htl];exact hlex) h
 have H2:=wpAny_of_head (Q':=Q) (g:=(l.drop n).length) (fun listed a' hL =>
  wpAny_of_seq (P:=P) (md:=.any) (Q':=Q) (l.drop n) n listed a' w (fun j=>by simp [List.getElem?_drop]) (by
   have : (l.drop n).length = l.toArray.size - n:=by simp
   rw [this];exact hL.1) hL.2) _ _ _ H
 have e : (l.take n).length + (l.drop n).length = l.length:=by rw [← List.length_append,List.take_append_drop]
 rw [e] at H2
 simpa using H2
theorem wp_region_aside {id : Nat} {a : Act} {w : World} {l : List Oper} {o : Oper} {v : Value} (n : Nat) (hm : P.follows .mixedOrders = true) (hS : Region.noSelect (l ++ [o]).toArray = true)
  (hF : Region.free .any (l ++ [o]).toArray (Array.replicate (l ++ [o]).length false) l.length = true) (hR : (Region.ready .any (l ++ [o]).toArray (Array.replicate (l ++ [o]).length false)).contains l.length = true)
  (hQ : ∀ c a w,Q (.panic c) (a.put o.dst v) w → Q (.panic c) a w) (hy : Yields P (l ++ [o]).toArray o v a)
  (hW : withinB l = true) (hB : Region.lexTailB .any l.toArray n = true)
  (h : wpStill P l.toArray { w with drawn:=w.drawn + 1 } (fun a'=>wpList P l.toArray Q (l.drop n) a' { w with drawn:=w.drawn + 1 }) (l.take n) (a.put o.dst v)) : (Code.region id (l ++ [o]).toArray true).wp P Q a w:=by
 refine wp_region_any hm ?_
 have hsz : (l ++ [o]).toArray.size = l.length + 1:=by simp
 rw [hsz]
 have hl : (l ++ [o]).length = l.length + 1:=by simp
 rw [hl] at hF hR
 refine wpAny_take (i:=l.length) (oi:=o) (v:=v) (by simp) hS hF hR hQ hy ?_
 have e : (Array.replicate (l.length + 1) false).setIfInBounds l.length true = (Array.replicate l.length false).push true:=by
  have h2:=set_last (Array.replicate l.length false) false
  rw [Array.size_replicate] at h2
  rw [Array.replicate_succ,h2]
 rw [e]
 exact wpAny_pop hW _ _ _ _ (by simp) (wpAny_still_tail n hB h)
theorem wp_region_aside_at {id : Nat} {a : Act} {w : World} {l : List Oper} {o : Oper} {v : Value} (n m : Nat) (hm : P.follows .mixedOrders = true) (hl : l.drop m = [o]) (hS : Region.noSelect l.toArray = true)
  (hF : Region.free .any l.toArray (Array.replicate l.length false) m = true) (hR : (Region.ready .any l.toArray (Array.replicate l.length false)).contains m = true)
  (hQ : ∀ c a w,Q (.panic c) (a.put o.dst v) w → Q (.panic c) a w) (hy : Yields P l.toArray o v a)
  (hW : withinB (l.take m) = true) (hB : Region.lexTailB .any (l.take m).toArray n = true)
  (h : wpStill P (l.take m).toArray { w with drawn:=w.drawn + 1 } (fun a'=>wpList P (l.take m).toArray Q ((l.take m).drop n) a' { w with drawn:=w.drawn + 1 }) ((l.take m).take n) (a.put o.dst v)) : (Code.region id l.toArray true).wp P Q a w:=by
 have e : l.take m ++ [o] = l:=by rw [← hl,List.take_append_drop]
 have hn : m = (l.take m).length:=by
  have h1 : (l.drop m).length = 1:=by rw [hl];rfl
  simp only [List.length_drop,List.length_take] at h1 ⊢
  omega
 generalize l.take m = l0 at *
 subst e
 rw [hn] at hF hR
 exact wp_region_aside n hm hS hF hR hQ hy hW hB h
end
end Go.Proofs.YtlakdfbfkbndiaaDoor.Q
namespace Go.Proofs.YtlakdfbfkbndiaaDoor.Q
open Go.RowKit Go.Proofs.YtlakdfbfkbndiaaDoor.Re Go.Proofs.YtlakdfbfkbndiaaDoorW.PrintWords Go.Proofs.YtlakdfbfkbndiaaDoorW.PrintLast Go.Proofs.YtlakdfbfkbndiaaDoorW.PrintMore
open Go.ChangeMaps (setBlock)
theorem inSet_l0 (s : ByteArray) (neg : Bool) (c f0 : Int) (f3 : List Int) (hs : s.size ≤ 1099511627776) : ∀ (d i k : Nat),i + 2 * d = s.size → d < k → impl_inSet.l0 k c (i : Int) f0 neg s f3 = some (inFrom s neg c d i)
 | 0,i,0,_,hk=>absurd hk (by omega)
 | 0,i,k + 1,hi,_=>by
  simp only [impl_inSet.l0]
  rw [if_neg (by omega)];rfl
 | d + 1,i,0,_,hk=>absurd hk (by omega)
 | d + 1,i,k + 1,hi,hk=>by
  have w1 : wrap64 ((i : Int) + 1) = ((i + 1 : Nat) : Int):=by unfold wrap64;omega
  have w2 : wrap64 ((i : Int) + 2) = ((i + 2 : Nat) : Int):=by unfold wrap64;omega
  simp only [impl_inSet.l0,inFrom]
  rw [w1,w2,if_pos (by omega),if_pos (by omega),inSet_l0 s neg c f0 f3 hs d (i + 2) k (by omega) (by omega)]
  by_cases h1 : c ≥ bt s (i : Int)
  ·rw [if_pos h1,if_pos (by omega),if_pos (by omega)]
   by_cases h2 : c ≤ bt s ((i + 1 : Nat) : Int)
   ·rw [if_pos h2,if_pos ⟨h1,h2⟩]
   ·rw [if_neg h2,if_neg (fun h=>h2 h.2)]
  ·rw [if_neg h1,if_neg (fun h=>h1 h.1)]
theorem inSet_eq (x : S49) (c : Int) (he : x.f2.size % 2 = 0) (hs : x.f2.size ≤ 1099511627776) : impl_inSet.f (x.f2.size + 1) x.f0 x.f1 x.f2 x.f3 c = some (inS x c) :=
 inSet_l0 x.f2 x.f1 c x.f0 x.f3 hs (x.f2.size / 2) 0 _ (by omega) (by omega)
structure Mem (l : List S49) (s : ByteArray) (A0 : Option Addr) (c0 Bm Bf : Nat) (w0 w : World) : Prop where
 below : Below w0.heap.size w0 w
 bm : w0.heap.size ≤ Bm
 bf : w0.heap.size ≤ Bf
 obj : w.heap[Bm]? = some (.cells #[.slice A0 l.length c0,.string s,.map (some Bf)] 90 (0,0))
 map : MapOk (meets l s) l.length s.size w0.heap.size Bf w
structure Base (l : List S49) (s : ByteArray) (A0 : Option Addr) (c0 : Nat) (w0 : World) : Prop where
 ok : Valid l
 sz : s.size ≤ 500
 rd : Kd.C k49 w0 A0 l.length l
 cap : l.length ≤ c0
 tabs : Tabs w0
def EndsAt (l : List S49) (s : ByteArray) (A0 : Option Addr) (c0 Bm Bf : Nat) (w0 : World) (n : Nat) : Prop :=
 ∀ (i : Nat),i ≤ s.size → ∀ w,Mem l s A0 c0 Bm Bf w0 w →
  Calls Tryd.prog 61 #[.pointer (some ⟨Bm,0,none⟩),.int .i64 n,.int .i64 i] w fun e w' =>
   ∃ b ws,e = .returned (.pointer (some ⟨b,0,none⟩)) ∧ w0.heap.size ≤ b ∧ w'.heap[b]? = some (wobj ws) ∧ IsSet ws (meets l s n i) ∧ Mem l s A0 c0 Bm Bf w0 w' ∧ w.grownBy w' (some Bf) ∧ ¬ Free Bf b w' ∧ ∀ r,r < w.heap.size → Free Bf r w → Free Bf r w'
theorem Mem.cell {l : List S49} {s : ByteArray} {A0 : Option Addr} {c0 Bm Bf : Nat} {w0 w : World} (h : Mem l s A0 c0 Bm Bf w0 w) :
  w.cell? ⟨Bm,0,none⟩ = some (.slice A0 l.length c0) ∧ w.cell? ⟨Bm,1,none⟩ = some (.string s) ∧ w.cell? ⟨Bm,2,none⟩ = some (.map (some Bf)):=by
 have:=h.obj
 refine ⟨?_,?_,?_⟩ <;> simp [World.cell?,this]
theorem Mem.move {l : List S49} {s : ByteArray} {A0 : Option Addr} {c0 Bm Bf : Nat} {w0 w w1 : World} (h : Mem l s A0 c0 Bm Bf w0 w) (hb : Below w.heap.size w w1) : Mem l s A0 c0 Bm Bf w0 w1 where
 below:=h.below.trans (hb.mono h.below.size)
 bm:=h.bm
 bf:=h.bf
 obj:=(hb.block Bm (Array.getElem?_eq_some_iff.mp h.obj).1).trans h.obj
 map:=h.map.move hb.block
theorem Mem.grown {l : List S49} {s : ByteArray} {A0 : Option Addr} {c0 Bm Bf r : Nat} {w0 w w1 : World} (h : Mem l s A0 c0 Bm Bf w0 w) (hg : w.grownBy w1 (some r)) (h0 : w0.heap.size ≤ r) (h1 : r ≠ Bm) (h2 : r ≠ Bf) (hf : Free Bf r w) : Mem l s A0 c0 Bm Bf w0 w1 where
 below:=h.below.grown hg h.below.size (fun k e=>by rw [← Option.some.inj e];exact h0)
 bm:=h.bm
 bf:=h.bf
 obj:=(hg.block Bm (Array.getElem?_eq_some_iff.mp h.obj).1 (fun e=>h1 (Option.some.inj e).symm)).trans h.obj
 map:=h.map.grown hg h2 hf
structure Work (l : List S49) (s : ByteArray) (A0 : Option Addr) (c0 Bm Bf : Nat) (w0 w : World) (n i Ln : Nat) (x : S49) (A3 : Option Addr) (c3 : Nat) (wr : World) : Prop where
 mem : Mem l s A0 c0 Bm Bf w0 wr
 lo : w0.heap.size ≤ w.heap.size
 grown : w.grownBy wr (some Bf)
 key : wr.heap[w.heap.size]? = some (.cells #[.int .i64 n,.int .i64 i] 72 (0,0))
 loc : wr.heap[Ln]? = some (.cells #[.int .i64 x.f0,.bool x.f1,.string x.f2,.slice A3 x.f3.length c3] 49 (0,0))
 free : ∀ r,r < w.heap.size → Free Bf r w → Free Bf r wr
structure Own (Bf : Nat) (w : World) (b : Nat) (S : Nat → Prop) (ws : Nat → Nat) (wr : World) : Prop where
 lo : w.heap.size ≤ b
 obj : wr.heap[b]? = some (wobj ws)
 free : Free Bf b wr
 set : IsSet ws S
def part (ws vs : Nat → Nat) (q : Nat) : Nat → Nat:=fun x=>if x < q then ws x ||| vs x else ws x
theorem part_step (ws vs : Nat → Nat) (q : Nat) : (fun j=>if j = q then ws q ||| vs q else part ws vs q j) = part ws vs (q + 1):=by
 funext x
 unfold part
 by_cases h : x = q
 ·subst h;rw [if_pos rfl,if_pos (by omega)]
 ·rw [if_neg h]
  by_cases h2 : x < q
  ·rw [if_pos h2,if_pos (by omega)]
  ·rw [if_neg h2,if_neg (by omega)]
theorem part_zero (ws vs : Nat → Nat) : part ws vs 0 = ws:=by
 funext x
 exact if_neg (by omega)
theorem part_set {ws vs : Nat → Nat} {S T : Nat → Prop} (h : IsSet ws S) (g : IsSet vs T) : IsSet (part ws vs 8) (fun j=>S j ∨ T j) :=
 (h.or g).congrW fun b hb=>if_pos hb
theorem part_lt {ws vs : Nat → Nat} {S T : Nat → Prop} (h : IsSet ws S) (g : IsSet vs T) (q : Nat) (hq : q < 8) : bits .or .u64 (ws q : Int) (vs q : Int) = ((ws q ||| vs q : Nat) : Int):=bits_or_u64_nat _ _ (h.lt q hq) (g.lt q hq)
end Go.Proofs.YtlakdfbfkbndiaaDoor.Q
namespace Go.Proofs.YtlakdfbfkbndiaaDoor.Q
open Go.RowKit Go.Proofs.YtlakdfbfkbndiaaDoor.Re Go.Proofs.YtlakdfbfkbndiaaDoorW.PrintWords Go.Proofs.YtlakdfbfkbndiaaDoorW.PrintLast Go.Proofs.YtlakdfbfkbndiaaDoorW.PrintMore
open Go.ChangeMaps (setBlock)
section
variable {l : List S49} {s : ByteArray} {A0 : Option Addr} {c0 Bm Bf : Nat} {w0 w : World} {n i Ln : Nat} {x : S49} {A3 : Option Addr} {c3 : Nat} {wr w1 : World} {b : Nat} {S : Nat → Prop} {ws : Nat → Nat}
theorem map_lt (h : Mem l s A0 c0 Bm Bf w0 wr) : Bf < wr.heap.size:=by
 obtain ⟨es,clock,hb,_⟩:=h.map
 exact (Array.getElem?_eq_some_iff.mp hb).1
theorem map_ne (h : Mem l s A0 c0 Bm Bf w0 wr) {c : Array Value} {t : TypeId} {f : Nat × Nat} (hb : wr.heap[b]? = some (.cells c t f)) : b ≠ Bf:=by
 rintro rfl
 obtain ⟨es,clock,hb',_⟩:=h.map
 rw [hb] at hb'
 simp at hb'
theorem Work.move (h : Work l s A0 c0 Bm Bf w0 w n i Ln x A3 c3 wr) (hb : Below wr.heap.size wr w1) : Work l s A0 c0 Bm Bf w0 w n i Ln x A3 c3 w1 where
 mem:=h.mem.move hb
 lo:=h.lo
 grown:=h.grown.trans ⟨hb.os,hb.tape,hb.output,hb.size,fun k hk _=>hb.block k hk⟩
 key:=(hb.block _ (Array.getElem?_eq_some_iff.mp h.key).1).trans h.key
 loc:=(hb.block _ (Array.getElem?_eq_some_iff.mp h.loc).1).trans h.loc
 free:=fun r hr hf=>(h.free r hr hf).same (hb.block _ (map_lt h.mem))
theorem Own.move (h : Own Bf w b S ws wr) (hm : Mem l s A0 c0 Bm Bf w0 wr) (hb : Below wr.heap.size wr w1) : Own Bf w b S ws w1 where
 lo:=h.lo
 obj:=(hb.block _ (Array.getElem?_eq_some_iff.mp h.obj).1).trans h.obj
 free:=h.free.same (hb.block _ (map_lt hm))
 set:=h.set
theorem Work.call (h : Work l s A0 c0 Bm Bf w0 w n i Ln x A3 c3 wr) (hm : Mem l s A0 c0 Bm Bf w0 w1) (hg : wr.grownBy w1 (some Bf)) (hf : ∀ r,r < wr.heap.size → Free Bf r wr → Free Bf r w1) : Work l s A0 c0 Bm Bf w0 w n i Ln x A3 c3 w1 where
 mem:=hm
 lo:=h.lo
 grown:=h.grown.trans hg
 key:=(hg.block _ (Array.getElem?_eq_some_iff.mp h.key).1 (fun e=>map_ne h.mem h.key (Option.some.inj e))).trans h.key
 loc:=(hg.block _ (Array.getElem?_eq_some_iff.mp h.loc).1 (fun e=>map_ne h.mem h.loc (Option.some.inj e))).trans h.loc
 free:=fun r hr hfr=>hf r (Nat.lt_of_lt_of_le hr h.grown.size) (h.free r hr hfr)
theorem Own.call (h : Own Bf w b S ws wr) (hm : Mem l s A0 c0 Bm Bf w0 wr) (hg : wr.grownBy w1 (some Bf)) (hf : ∀ r,r < wr.heap.size → Free Bf r wr → Free Bf r w1) : Own Bf w b S ws w1 where
 lo:=h.lo
 obj:=(hg.block _ (Array.getElem?_eq_some_iff.mp h.obj).1 (fun e=>map_ne hm h.obj (Option.some.inj e))).trans h.obj
 free:=hf _ (Array.getElem?_eq_some_iff.mp h.obj).1 h.free
 set:=h.set
theorem Work.put (h : Work l s A0 c0 Bm Bf w0 w n i Ln x A3 c3 wr) (hlo : w.heap.size ≤ b) (hobj : wr.heap[b]? = some (wobj ws)) (hfr : Free Bf b wr) (hg : wr.grownBy w1 (some b)) : Work l s A0 c0 Bm Bf w0 w n i Ln x A3 c3 w1:=by
 have hbf:=map_ne h.mem hobj
 have h0 : w0.heap.size ≤ b:=Nat.le_trans h.lo hlo
 exact {
  mem:=h.mem.grown hg h0 (fun e=>by have:=h.mem.obj;rw [← e,hobj] at this;simp [wobj] at this) hbf hfr
  lo:=h.lo
  grown:=⟨hg.os.trans h.grown.os,hg.tape.trans h.grown.tape,hg.output.trans h.grown.output,Nat.le_trans h.grown.size hg.size,fun k hk hne=>(hg.block k (Nat.lt_of_lt_of_le hk h.grown.size) (fun e=>by have:=Option.some.inj e;omega)).trans (h.grown.block k hk hne)⟩
  key:=(hg.block _ (Array.getElem?_eq_some_iff.mp h.key).1 (fun e=>by have:=h.key;rw [Option.some.inj e,hobj] at this;simp [wobj] at this)).trans h.key
  loc:=(hg.block _ (Array.getElem?_eq_some_iff.mp h.loc).1 (fun e=>by have:=h.loc;rw [Option.some.inj e,hobj] at this;simp [wobj] at this)).trans h.loc
  free:=fun r hr hf=>(h.free r hr hf).same (hg.block _ (map_lt h.mem) (fun e=>hbf (Option.some.inj e).symm)) }
theorem Work.set (h : Work l s A0 c0 Bm Bf w0 w n i Ln x A3 c3 wr) (ho : Own Bf w b S ws wr) (hg : wr.grownBy w1 (some b)) : Work l s A0 c0 Bm Bf w0 w n i Ln x A3 c3 w1:=h.put ho.lo ho.obj ho.free hg
theorem set_grown (W : World) (b q : Nat) (u : Value) : W.grownBy (W.setCell ⟨b,q,none⟩ u) (some b) :=
 ⟨rfl,rfl,rfl,by simp [World.setCell],fun k _ hk=>Below.heap_setCell W _ _ k fun e=>hk (by rw [e])⟩
theorem Work.join {vs : Nat → Nat} {b2 q : Nat} (h : Work l s A0 c0 Bm Bf w0 w n i Ln x A3 c3 wr) (hlo : w.heap.size ≤ b) (hne : b2 ≠ b) (hq : q < 8) (hb2 : wr.heap[b2]? = some (wobj vs)) (ho : wr.heap[b]? = some (wobj (part ws vs q)) ∧ Free Bf b wr) (k : Nat) :
  Work l s A0 c0 Bm Bf w0 w n i Ln x A3 c3 ((wr.drewN k).setCell ⟨b,q,none⟩ (.int .u64 ((ws q ||| vs q : Nat) : Int))) ∧ ((wr.drewN k).setCell ⟨b,q,none⟩ (.int .u64 ((ws q ||| vs q : Nat) : Int))).heap[b2]? = some (wobj vs) ∧
   ((wr.drewN k).setCell ⟨b,q,none⟩ (.int .u64 ((ws q ||| vs q : Nat) : Int))).heap[b]? = some (wobj (part ws vs (q + 1))) ∧ Free Bf b ((wr.drewN k).setCell ⟨b,q,none⟩ (.int .u64 ((ws q ||| vs q : Nat) : Int))):=by
 have hd : Below wr.heap.size wr (wr.drewN k):=pw_below_drewN (Below.refl _ _) _
 have hW:=h.move hd
 have hob : (wr.drewN k).heap[b]? = some (wobj (part ws vs q)):=ho.1
 have hfr : Free Bf b (wr.drewN k):=ho.2.same rfl
 have hg:=set_grown (wr.drewN k) b q (.int .u64 ((ws q ||| vs q : Nat) : Int))
 refine ⟨hW.put hlo hob hfr hg,?_,?_,hfr.same (hg.block _ (map_lt hW.mem) (fun e=>map_ne hW.mem hob (Option.some.inj e).symm))⟩
 ·rw [Below.heap_setCell _ _ _ _ hne];exact hb2
 ·have:=wobj_set hob q hq (ws q ||| vs q)
  rw [part_step] at this
  exact this
end
end Go.Proofs.YtlakdfbfkbndiaaDoor.Q
namespace Go.Proofs.YtlakdfbfkbndiaaDoor.Q
open Go.RowKit Go.Proofs.YtlakdfbfkbndiaaDoor.Re Go.Proofs.YtlakdfbfkbndiaaDoorW.PrintWords Go.Proofs.YtlakdfbfkbndiaaDoorW.PrintLast Go.Proofs.YtlakdfbfkbndiaaDoorW.PrintMore
open Go.ChangeMaps (setBlock)
theorem row_notMap {wr : World} {base : Nat} {v : Value} {xs : List Int} {Bf : Nat} {es : Array MapEntry} {clock : Nat} (h : Kd.R (Kd.int .i64) 3 wr base (fun _=>True) v xs) (hb : wr.heap[Bf]? = some (.map es clock)) : Kd.R (Kd.int .i64) 3 wr base (fun k=>k ≠ Bf) v xs :=
 Kd.R_mono (Kd.R_bound h) (fun k hk=>by
  obtain ⟨_,_,_,q,_,cells',hc⟩:=hk
  rintro rfl
  rw [hc] at hb
  simp at hb)
theorem row_call {l : List S49} {s : ByteArray} {A0 : Option Addr} {c0 Bm Bf : Nat} {w0 wr w1 : World} {base : Nat} {v : Value} {xs : List Int} (h : Kd.R (Kd.int .i64) 3 wr base (fun _=>True) v xs) (hm : Mem l s A0 c0 Bm Bf w0 wr) (hg : wr.grownBy w1 (some Bf)) : Kd.R (Kd.int .i64) 3 w1 base (fun _=>True) v xs:=by
 obtain ⟨es,clock,hb,_⟩:=hm.map
 exact Kd.R_mono (Kd.R_grown (row_notMap h hb) hg (fun k hk e=>hk (Option.some.inj e))) (fun _ _=>trivial)
theorem row_put {wr : World} {base b q : Nat} {v u : Value} {xs : List Int} {ws : Nat → Nat} (h : Kd.R (Kd.int .i64) 3 wr base (fun _=>True) v xs) (hb : wr.heap[b]? = some (wobj ws)) : Kd.R (Kd.int .i64) 3 (wr.setCell ⟨b,q,none⟩ u) base (fun _=>True) v xs :=
 Kd.R_set h hb (by simp [Kd.int,Kd.scalar]) q u
theorem row_get {wr : World} {base n : Nat} {A : Option Addr} {c : Nat} {xs : List Int} (h : Kd.R (Kd.int .i64) 3 wr base (fun _=>True) (.slice A n c) xs) (p : Nat) (hp : p < xs.length) : ∃ ad,A = some ad ∧ wr.cell? (ad.add p) = some (.int .i64 (xs.getD p 0)):=by
 obtain ⟨A',c',he,hl,hC⟩:=Kd.R_reads h
 obtain ⟨rfl,rfl,rfl⟩ : A = A' ∧ n = xs.length ∧ c = c':=by simpa using he
 obtain ⟨ad,cs,e0,_,hK,hcell⟩:=Kd.C_get hC (0 : Int) p (by omega) (by omega)
 have hK : cs = [.int .i64 (xs.getD ((p : Int)).toNat 0)]:=hK
 subst hK
 exact ⟨ad,e0,by simpa [Kd.int,Kd.scalar] using hcell 0 _ rfl⟩
theorem nats_get (L : List Nat) (p : Nat) (hp : p < L.length) : (nats L).getD p 0 = ((L.getD p 0 : Nat) : Int):=by
 unfold nats
 rw [List.getD_eq_getElem?_getD,List.getD_eq_getElem?_getD,List.getElem?_map,List.getElem?_eq_getElem hp];rfl
theorem take_next (L : List Nat) (p : Nat) (hp : p < L.length) : L.take (p + 1) = L.take p ++ [L.getD p 0] ∧ L.getD p 0 ∈ L:=by
 rw [List.getD_eq_getElem?_getD,List.getElem?_eq_getElem hp]
 exact ⟨by rw [List.take_add_one,List.getElem?_eq_getElem hp];rfl,List.getElem_mem hp⟩
theorem row_ne {wr : World} {base k : Nat} {ok : Nat → Prop} {v : Value} {xs : List Int} {o : Obj} (h : Kd.R (Kd.int .i64) 3 wr base ok v xs) (hb : wr.heap[k]? = some o) (ho : ∀ c,o ≠ .cells c 3 (0,0)) : some k ≠ v.ownBlock:=fun e=>by
 obtain ⟨inner,hw⟩:=Kd.R_own h
 obtain ⟨c,hc⟩:=own_typed hw k e.symm
 rw [hb] at hc
 exact ho c (Option.some.inj hc)
end Go.Proofs.YtlakdfbfkbndiaaDoor.Q
namespace Go.Proofs.YtlakdfbfkbndiaaDoor.Q
open Go.RowKit Go.Proofs.YtlakdfbfkbndiaaDoor.Re Go.Proofs.YtlakdfbfkbndiaaDoorW.PrintWords Go.Proofs.YtlakdfbfkbndiaaDoorW.PrintLast Go.Proofs.YtlakdfbfkbndiaaDoorW.PrintMore
open Go.ChangeMaps (setBlock)
section
variable {l : List S49} {s : ByteArray} {A0 : Option Addr} {c0 Bm Bf : Nat} {w0 w : World} {n i Ln : Nat} {x : S49} {A3 : Option Addr} {c3 : Nat} {wr w1 : World} {b base : Nat} {S : Nat → Prop} {ws : Nat → Nat} {v : Value} {xs : List Int}
theorem Own.row (h : Own Bf w b S ws wr) (hm : Mem l s A0 c0 Bm Bf w0 wr) (hR : Kd.R (Kd.int .i64) 3 wr base (fun _=>True) v xs) (hg : wr.grownBy w1 v.ownBlock) : Own Bf w b S ws w1 where
 lo:=h.lo
 obj:=(hg.block _ (Array.getElem?_eq_some_iff.mp h.obj).1 (row_ne hR h.obj (by simp [wobj]))).trans h.obj
 free:=by
  obtain ⟨es,clock,hb,_⟩:=hm.map
  exact h.free.same (hg.block _ (map_lt hm) (row_ne hR hb (by simp)))
 set:=h.set
theorem Work.row (h : Work l s A0 c0 Bm Bf w0 w n i Ln x A3 c3 wr) (hR : Kd.R (Kd.int .i64) 3 wr base (fun _=>True) v xs) (hbase : w.heap.size ≤ base) (hg : wr.grownBy w1 v.ownBlock) : Work l s A0 c0 Bm Bf w0 w n i Ln x A3 c3 w1:=by
 obtain ⟨inner,hw⟩:=Kd.R_own hR
 have hlo : ∀ k,v.ownBlock = some k → w.heap.size ≤ k:=fun k hk=>Nat.le_trans hbase (own_base hw k hk)
 have keep : ∀ {k : Nat} {o : Obj},wr.heap[k]? = some o → (∀ c,o ≠ .cells c 3 (0,0)) → w1.heap[k]? = some o:=fun {k o} hb ho=>(hg.block k (Array.getElem?_eq_some_iff.mp hb).1 (row_ne hR hb ho)).trans hb
 have hmap : w1.heap[Bf]? = wr.heap[Bf]?:=by
  obtain ⟨es,clock,hb,_⟩:=h.mem.map
  rw [hb];exact keep hb (by simp)
 exact {
  mem:={
   below:=h.mem.below.grown hg h.mem.below.size (fun k hk=>Nat.le_trans h.lo (hlo k hk))
   bm:=h.mem.bm
   bf:=h.mem.bf
   obj:=keep h.mem.obj (by simp)
   map:=by
    obtain ⟨es,clock,hb,hd,he⟩:=h.mem.map
    refine ⟨es,clock,hmap.trans hb,hd,fun e hm=>?_⟩
    obtain ⟨n',i',b',ws',g1,g2,g3,g4,g5,g6,g7⟩:=he e hm
    exact ⟨n',i',b',ws',g1,g2,g3,g4,g5,keep g6 (by simp [wobj]),g7⟩ }
  lo:=h.lo
  grown:=⟨hg.os.trans h.grown.os,hg.tape.trans h.grown.tape,hg.output.trans h.grown.output,Nat.le_trans h.grown.size hg.size,fun k hk hne=>(hg.block k (Nat.lt_of_lt_of_le hk h.grown.size) (fun e=>by have:=hlo k e.symm;omega)).trans (h.grown.block k hk hne)⟩
  key:=keep h.key (by simp)
  loc:=keep h.loc (by simp)
  free:=fun r hr hf=>(h.free r hr hf).same hmap }
end
end Go.Proofs.YtlakdfbfkbndiaaDoor.Q
namespace Go.Proofs.YtlakdfbfkbndiaaDoor.Q
open Go.RowKit Go.Proofs.YtlakdfbfkbndiaaDoor.Re Go.Proofs.YtlakdfbfkbndiaaDoorW.PrintWords Go.Proofs.YtlakdfbfkbndiaaDoorW.PrintLast Go.Proofs.YtlakdfbfkbndiaaDoorW.PrintMore
open Go.ChangeMaps (setBlock)
theorem row_row {W w1 : World} {base2 : Nat} {v v1 v2 : Value} {ys : List Int} (h2 : Kd.R (Kd.int .i64) 3 W base2 (fun k=>some k ≠ v.ownBlock) v2 ys) (hg : W.grownBy w1 v.ownBlock) (hat : v1.ownBlock = v.ownBlock ∨ ∃ b,v1.ownBlock = some b ∧ W.heap.size ≤ b) :
  Kd.R (Kd.int .i64) 3 w1 base2 (fun k=>some k ≠ v1.ownBlock) v2 ys:=by
 have h3:=Kd.R_grown (Kd.R_mono (Kd.R_bound h2) (fun k hk=>(⟨hk.1,hk.2.2.1⟩ : some k ≠ v.ownBlock ∧ k < W.heap.size))) hg (fun k hk=>hk.1)
 refine Kd.R_mono h3 fun k hk=>?_
 rcases hat with e|⟨b,e,hb⟩
 ·rw [e];exact hk.1
 ·rw [e]
  intro e2
  have:=Option.some.inj e2
  have:=hk.2
  omega
theorem row_true {w : World} {base : Nat} {ok : Nat → Prop} {v : Value} {xs : List Int} (h : Kd.R (Kd.int .i64) 3 w base ok v xs) : Kd.R (Kd.int .i64) 3 w base (fun _=>True) v xs:=Kd.R_mono h (fun _ _=>trivial)
theorem row_grown2 {wr w1 : World} {base b : Nat} {ok : Nat → Prop} {v : Value} {xs : List Int} {ws : Nat → Nat} (h : Kd.R (Kd.int .i64) 3 wr base ok v xs) (hb : wr.heap[b]? = some (wobj ws)) (hg : wr.grownBy w1 (some b)) : Kd.R (Kd.int .i64) 3 w1 base ok v xs :=
 Kd.R_mono (Kd.R_grown (Kd.R_types h hb (by simp [Kd.int,Kd.scalar])) hg (fun k hk e=>hk.2 (Option.some.inj e))) (fun _ hk=>hk.1)
theorem upto_big {S : Nat → Prop} {n m : Nat} (h : ∀ x,S x → x < n) (hn : n ≤ m) : upto S m = upto S n:=by
 obtain ⟨d,rfl⟩ : ∃ d,m = n + d:=⟨m - n,by omega⟩
 exact upto_gap S n d fun j h1 _ hj=>by have:=h j hj;omega
theorem ext_take (Q L : List Nat) (p : Nat) (hp : p < L.length) : ext Q (L.take (p + 1)) = if L.getD p 0 ∈ ext Q (L.take p) then ext Q (L.take p) else ext Q (L.take p) ++ [L.getD p 0]:=by
 rw [(take_next L p hp).1,ext_snoc]
set_option maxRecDepth 100000 in
set_option maxHeartbeats 8000000 in
theorem ends_step {l : List S49} {s : ByteArray} {A0 : Option Addr} {c0 Bm Bf : Nat} {w0 : World} (hB : Base l s A0 c0 w0) (n : Nat) (hn : n < l.length) (ih : ∀ m,m < n → EndsAt l s A0 c0 Bm Bf w0 m) : EndsAt l s A0 c0 Bm Bf w0 n:=by
 intro i hi w hM
 have HBase:=Aside0.mk hB
 have HIH:=Aside0.mk ih
 have HM:=Aside0.mk hM
 clear hB ih hM
 have hl200:=HBase.out.ok.len
 have hs500:=HBase.out.sz
 go_enter Tryd.func61,Tryd.ntmps61
 go_wp2_with fail
 obtain ⟨w1,hw1⟩ : ∃ w1,w1 = w.alloc (.cells #[.int .i64 n,.int .i64 i] 72):=⟨_,rfl⟩
 rw [← hw1]
 have HM1 : Aside0 (Mem l s A0 c0 Bm Bf w0 w1):=⟨HM.out.move (by rw [hw1];exact (Below.refl _ _).alloc (Nat.le_refl _) _)⟩
 have HG1 : Aside0 (w.grownBy w1 (some Bf)):=⟨by rw [hw1];exact World.grownBy_alloc w _ _⟩
 have HK1 : Aside0 (w1.heap[w.heap.size]? = some (.cells #[.int .i64 n,.int .i64 i] 72 (0,0))):=⟨by rw [hw1];exact heap_alloc_new w _⟩
 have HZ1 : Aside0 (w1.heap.size = w.heap.size + 1):=⟨by rw [hw1];simp⟩
 have HF1 : Aside0 (∀ r,r < w.heap.size → Free Bf r w → Free Bf r w1):=⟨fun r _ hf=>hf.same (by rw [hw1];exact Below.heap_alloc w _ _ (Array.getElem?_eq_some_iff.mp HM.out.map.choose_spec.choose_spec.1).1)⟩
 clear hw1
 have hk0 : w1.cell? ⟨w.heap.size,0,none⟩ = some (.int .i64 n):=by simp [World.cell?,HK1.out]
 have hk1 : w1.cell? ⟨w.heap.size,1,none⟩ = some (.int .i64 i):=by simp [World.cell?,HK1.out]
 obtain ⟨hc0,hc1,hc2⟩:=HM1.out.cell
 have hlook:=HM1.out.map.look (by omega) (by omega) hn hi
 unfold pkey at hlook
 have HL:=Aside0.mk hl200
 have HS:=Aside0.mk hs500
 have HI:=Aside0.mk hi
 have HN:=Aside0.mk hn
 clear hl200 hs500 hi hn
 rcases hlook with hlook|⟨b,ws,hlook,hb0,hbw,hbS,hbF⟩
 ·obtain ⟨ad,A3,c3,e0,hx0,hx1,hx2,hx3,hl3,hi3⟩:=at_T49 HBase.out.rd (n : Int) (by omega) (by have:=HN.out;omega)
  simp only [Int.toNat_natCast] at hx0 hx1 hx2 hx3
  have HX : Aside0 (∃ x,x = rd_T49 l n):=⟨_,rfl⟩
  obtain ⟨x,hxe⟩:=HX.out
  rw [← hxe] at hx0 hx1 hx2 hx3 hl3 hi3
  have HXE : Aside0 (nodeAt l n = x):=⟨hxe.symm⟩
  have HRK:=Aside0.mk hi3
  have HCK:=Aside0.mk hl3
  clear hxe HX hi3 hl3
  replace hx0:=(HM1.out.below.cell (World.block_lt_of_cell? w0 _ hx0)).trans hx0
  replace hx1:=(HM1.out.below.cell (World.block_lt_of_cell? w0 _ hx1)).trans hx1
  replace hx2:=(HM1.out.below.cell (World.block_lt_of_cell? w0 _ hx2)).trans hx2
  replace hx3:=(HM1.out.below.cell (World.block_lt_of_cell? w0 _ hx3)).trans hx3
  subst e0
  have p0 : ((0 : Int) ≤ (n : Int)) = True:=eq_true (by omega)
  have p1 : ((n : Int) < (l.length : Int)) = True:=eq_true (by have:=HN.out;omega)
  go_quiet (fail)
  go_upto_block 0 with fail
  obtain ⟨w2,hw2⟩ : ∃ w2,w2 = ((w1.drewN nq).alloc (.cells #[.int .u64 0,.int .u64 0,.int .u64 0,.int .u64 0,.int .u64 0,.int .u64 0,.int .u64 0,.int .u64 0] 113)).alloc (.cells #[.int .i64 x.f0,.bool x.f1,.string x.f2,.slice A3 x.f3.length c3] 49):=⟨_,rfl⟩
  rw [← hw2]
  have hBe : Below w1.heap.size w1 w2:=by rw [hw2];exact below_alloc (below_alloc (pw_below_drewN (Below.refl _ _) _) _) _
  have HWk : Aside0 (Work l s (some ad) c0 Bm Bf w0 w n i (w1.heap.size + 1) x A3 c3 w2):=⟨{
   mem:=HM1.out.move hBe
   lo:=HM.out.below.size
   grown:=HG1.out.trans ⟨hBe.os,hBe.tape,hBe.output,hBe.size,fun k hk _=>hBe.block k hk⟩
   key:=(hBe.block _ (Array.getElem?_eq_some_iff.mp HK1.out).1).trans HK1.out
   loc:=by
    have e : ((w1.drewN nq).alloc (.cells #[.int .u64 0,.int .u64 0,.int .u64 0,.int .u64 0,.int .u64 0,.int .u64 0,.int .u64 0,.int .u64 0] 113)).heap.size = w1.heap.size + 1:=by simp
    rw [hw2,← e];exact heap_alloc_new _ _
   free:=fun r hr hf=>(HF1.out r hr hf).same (hBe.block _ (map_lt HM1.out)) }⟩
  have HOw : Aside0 (Own Bf w w1.heap.size (fun _=>False) (fun _=>0) w2):=⟨{
   lo:=HG1.out.size
   obj:=by rw [hw2,Below.heap_alloc _ _ _ (by simp)];exact heap_alloc_new _ _
   free:=(HM1.out.map.free (Nat.le_refl _)).same (hBe.block _ (map_lt HM1.out))
   set:=IsSet.empty }⟩
  clear hBe hw2
  go_cut [10] (fun v10 wc=>∃ b ws,v10 = .pointer (some ⟨b,0,none⟩) ∧ Aside0 (Work l s (some ad) c0 Bm Bf w0 w n i (w1.heap.size + 1) x A3 c3 wc) ∧ Aside0 (Own Bf w b (meets l s n i) ws wc))
  case first =>
   have hkd:=HBase.out.ok.kd n HN.out
   rw [HXE.out] at hkd
   have hcl:=HWk.out.loc
   have hn0 : w2.cell? ⟨w1.heap.size + 1,0,none⟩ = some (.int .i64 x.f0):=by simp [World.cell?,hcl]
   have hn1 : w2.cell? ⟨w1.heap.size + 1,1,none⟩ = some (.bool x.f1):=by simp [World.cell?,hcl]
   have hn2 : w2.cell? ⟨w1.heap.size + 1,2,none⟩ = some (.string x.f2):=by simp [World.cell?,hcl]
   have hn3 : w2.cell? ⟨w1.heap.size + 1,3,none⟩ = some (.slice A3 x.f3.length c3):=by simp [World.cell?,hcl]
   obtain ⟨hm0,hm1,hm2⟩:=HWk.out.mem.cell
   have HMeet:=Aside0.mk (meets_eq HBase.out.ok s n HN.out)
   rw [HXE.out] at HMeet
   have HOk:=Aside0.mk HBase.out.ok
   clear hk0 hk1 hc0 hc1 hc2 hx0 hx1 hx2 hx3 hlook hcl
   obtain ⟨f0,f1,f2,f3⟩:=x
   dsimp only at hkd hn0 hn1 hn2 hn3 HMeet HRK HCK
   have hcase : f0 = 0 ∨ f0 = 1 ∨ f0 = 2 ∨ f0 = 3 ∨ f0 = 4 ∨ f0 = 7 ∨ f0 = 5 ∨ f0 = 6:=by omega
   clear hkd
   rcases hcase with rfl|rfl|rfl|rfl|rfl|rfl|rfl|rfl
   ·as_aux_lemma =>
    have HS2 : Aside0 (∀ j,meets l s n i j ↔ i < s.size ∧ inS ⟨0,f1,f2,f3⟩ (bt s i) = true ∧ j = i + 1):=⟨fun j=>by rw [HMeet.out,if_pos (by decide)];simp [leafR]⟩
    by_cases h0 : i < s.size
    ·have h0i : ((i : Int) < (s.size : Int)) = True:=eq_true (by omega)
     have h0n : ((0 : Int) ≤ (i : Int)) = True:=eq_true (by omega)
     have H0:=Aside0.mk h0
     have hbt:=Aside0.mk (bt_nat h0)
     have he:=HOk.out.even n HN.out (by rw [HXE.out])
     have ht:=HOk.out.txt n HN.out
     rw [HXE.out] at he ht
     have hin:=inSet_eq ⟨0,f1,f2,f3⟩ (bt s i) he ht
     generalize hq : inS ⟨0,f1,f2,f3⟩ (bt s i) = q at hin HS2
     have hcall:=fun W hW=>impl_inSet.calls _ 0 f1 f2 A3 c3 f3 (bt s i) q W hW HCK.out hin
     rw [hbt.out] at hcall
     have HCall:=Aside0.mk hcall
     clear he ht hin hcall hq
     go_upto_region 25 with fail
     go_still_tail 15,(by kernel_rfl)
     change wpList _ _ _ _ _ w2.drew
     have hdr : Below w2.heap.size w2 w2.drew:=(Below.refl _ _).drew
     replace HOw : Aside0 (Own Bf w w1.heap.size (fun _=>False) (fun _=>0) w2.drew):=⟨HOw.out.move HWk.out.mem hdr⟩
     replace HWk:=Aside0.mk (HWk.out.move hdr)
     clear hdr
     have hcallW:=HCall.out w2.drew (Kd.C_below HRK.out HWk.out.mem.below)
     clear HCall
     generalize w2.drew = w4 at *
     go_wp2_with fail
     refine hcallW.mono ?_
     rintro e w5 ⟨rfl,hbel⟩
     dsimp only
     clear hcallW
     replace HOw : Aside0 (Own Bf w w1.heap.size (fun _=>False) (fun _=>0) w5):=⟨HOw.out.move HWk.out.mem hbel⟩
     replace HWk:=Aside0.mk (HWk.out.move hbel)
     clear hbel
     have hi5 : (i : Int) ≤ 500:=by have:=HS.out;omega
     cases q with
     | true =>
      have hcall:=add_succ_calls w1.heap.size i (by omega) _ _ HOw.out.set w5 HOw.out.obj
      go_wp2_with fail
      refine hcall.mono ?_
      rintro e w' ⟨r,rfl,_,ws,hS',hw',hg',-⟩
      have hF:=HOw.out.free.same (hg'.block _ (map_lt HWk.out.mem) (fun e=>map_ne HWk.out.mem HOw.out.obj (Option.some.inj e).symm))
      have HW':=Aside0.mk (HWk.out.set HOw.out hg')
      have HO' : Aside0 (Own Bf w w1.heap.size (meets l s n i) ws w'):=⟨⟨HOw.out.lo,hw',hF,hS'.congr fun j _=>by rw [HS2.out];simp [h0]⟩⟩
      clear hS' hw' hg' hF
      go_wp2_with fail
      go_meet
      exact ⟨_,ws,rfl,HW',HO'⟩
     | false =>
      have HO' : Aside0 (Own Bf w w1.heap.size (meets l s n i) (fun _=>0) w5):=⟨⟨HOw.out.lo,HOw.out.obj,HOw.out.free,HOw.out.set.congr fun j _=>by rw [HS2.out];simp⟩⟩
      go_wp2_with fail
      go_meet
      exact ⟨_,_,rfl,HWk,HO'⟩
    ·have h0i : ((i : Int) < (s.size : Int)) = False:=eq_false (by omega)
     have HO' : Aside0 (Own Bf w w1.heap.size (meets l s n i) (fun _=>0) w2):=⟨⟨HOw.out.lo,HOw.out.obj,HOw.out.free,HOw.out.set.congr fun j _=>by rw [HS2.out];simp [h0]⟩⟩
     go_upto_region 25 with fail
     go_quiet (fail)
     have HO2 : Aside0 (Own Bf w w1.heap.size (meets l s n i) (fun _=>0) (w2.drewN nq)):=⟨HO'.out.move HWk.out.mem (pw_below_drewN (Below.refl _ _) _)⟩
     go_wp2_with fail
     go_meet
     exact ⟨_,_,rfl,⟨HWk.out.move (pw_below_drewN (Below.refl _ _) _)⟩,HO2⟩
   ·as_aux_lemma =>
    have HS2 : Aside0 (∀ j,meets l s n i j ↔ i = 0 ∧ j = 0):=⟨fun j=>by rw [HMeet.out,if_pos (by decide)];simp [leafR]⟩
    by_cases h0 : i = 0
    ·subst h0
     have hcall:=add_zero_calls w1.heap.size _ _ HOw.out.set w2 HOw.out.obj
     go_wp2_with fail
     refine hcall.mono ?_
     rintro e w' ⟨r,rfl,_,ws,hS',hw',hg',-⟩
     have hF:=HOw.out.free.same (hg'.block _ (map_lt HWk.out.mem) (fun e=>map_ne HWk.out.mem HOw.out.obj (Option.some.inj e).symm))
     have HW':=Aside0.mk (HWk.out.set HOw.out hg')
     have HO' : Aside0 (Own Bf w w1.heap.size (meets l s n 0) ws w'):=⟨⟨HOw.out.lo,hw',hF,hS'.congr fun j _=>by rw [HS2.out];simp⟩⟩
     clear hS' hw' hg' hF
     go_wp2_with fail
     go_meet
     exact ⟨_,ws,rfl,HW',HO'⟩
    ·have h0i : ((i : Int) == 0) = false:=beq_eq_false_iff_ne.mpr (by omega)
     have HO' : Aside0 (Own Bf w w1.heap.size (meets l s n i) (fun _=>0) w2):=⟨⟨HOw.out.lo,HOw.out.obj,HOw.out.free,HOw.out.set.congr fun j _=>by rw [HS2.out];simp [h0]⟩⟩
     go_wp2_with fail
     go_meet
     exact ⟨_,_,rfl,HWk,HO'⟩
   ·as_aux_lemma =>
    have HS2 : Aside0 (∀ j,meets l s n i j ↔ i = s.size ∧ j = i):=⟨fun j=>by rw [HMeet.out,if_pos (by decide)];simp [leafR]⟩
    by_cases h0 : i = s.size
    ·have h0i : ((i : Int) == (s.size : Int)) = true:=beq_iff_eq.mpr (by omega)
     have H0:=Aside0.mk h0
     clear h0
     have hcall:=add_calls w1.heap.size i (by have:=HI.out;have:=HS.out;omega) _ _ HOw.out.set w2 HOw.out.obj
     go_wp2_with fail
     refine hcall.mono ?_
     rintro e w' ⟨r,rfl,_,ws,hS',hw',hg',-⟩
     have hF:=HOw.out.free.same (hg'.block _ (map_lt HWk.out.mem) (fun e=>map_ne HWk.out.mem HOw.out.obj (Option.some.inj e).symm))
     have HW':=Aside0.mk (HWk.out.set HOw.out hg')
     have HO' : Aside0 (Own Bf w w1.heap.size (meets l s n i) ws w'):=⟨⟨HOw.out.lo,hw',hF,hS'.congr fun j _=>by rw [HS2.out];simp [H0.out]⟩⟩
     clear hS' hw' hg' hF
     go_wp2_with fail
     go_meet
     exact ⟨_,ws,rfl,HW',HO'⟩
    ·have h0i : ((i : Int) == (s.size : Int)) = false:=beq_eq_false_iff_ne.mpr (by omega)
     have HO' : Aside0 (Own Bf w w1.heap.size (meets l s n i) (fun _=>0) w2):=⟨⟨HOw.out.lo,HOw.out.obj,HOw.out.free,HOw.out.set.congr fun j _=>by rw [HS2.out];simp [h0]⟩⟩
     go_wp2_with fail
     go_meet
     exact ⟨_,_,rfl,HWk,HO'⟩
   ·as_aux_lemma =>
    have HKid:=Aside0.mk (HOk.out.kid n HN.out)
    rw [HXE.out] at HKid
    have HS2 : Aside0 (∀ j,meets l s n i j ↔ seqR (f3.map fun k=>meets l s k.toNat) i j):=⟨fun j=>by
     have e : kidsR l s n = f3.map fun k=>meets l s k.toNat:=by unfold kidsR;rw [HXE.out]
     rw [HMeet.out,if_neg (by decide),if_pos rfl,e]⟩
    have HFw : Aside0 (∀ j y,seqR ((f3.take j).map fun k=>meets l s k.toNat) i y → y ≤ s.size):=⟨fun j y hy=>(fwd_seq s.size _ (fun R hR=>by
     obtain ⟨k,hk,rfl⟩:=List.mem_map.mp hR
     have hk:=HKid.out k (List.mem_of_mem_take hk)
     exact meets_fwd HOk.out s k.toNat (by have:=HN.out;omega)) i y HI.out hy).2⟩
    have HL3 : Aside0 (f3.length ≤ 9223372036854775807):=⟨HRK.out.2.1⟩
    have HT0:=Aside0.mk HBase.out.tabs
    have hcall:=add_calls w1.heap.size i (by have:=HI.out;have:=HS.out;omega) _ _ HOw.out.set w2 HOw.out.obj
    go_wp2_with fail
    refine hcall.mono ?_
    rintro e w' ⟨r,rfl,_,ws,hS',hw',hg',-⟩
    have hF:=HOw.out.free.same (hg'.block _ (map_lt HWk.out.mem) (fun e=>map_ne HWk.out.mem HOw.out.obj (Option.some.inj e).symm))
    have HW':=Aside0.mk (HWk.out.set HOw.out hg')
    have HO' : Aside0 (Own Bf w w1.heap.size (seqR ((f3.take 0).map fun k=>meets l s k.toNat) i) ws w'):=⟨⟨HOw.out.lo,hw',hF,hS'.congr fun j _=>by simp [seqR,eq_comm]⟩⟩
    have hcl:=HW'.out.loc
    have hn3' : w'.cell? ⟨w1.heap.size + 1,3,none⟩ = some (.slice A3 f3.length c3):=by simp [World.cell?,hcl]
    clear hS' hw' hg' hF hcall hcl hn0 hn1 hn2 hn3 hm0 hm1 hm2
    go_wp2_with fail
    go_loopg [10,154] f3.length (fun gg v10 v154 wr=>∃ (j b : Nat) (ws : Nat → Nat),v10 = .pointer (some ⟨b,0,none⟩) ∧ v154 = .int .i64 j ∧ j ≤ f3.length ∧ f3.length - j ≤ gg ∧ Aside0 (Work l s (some ad) c0 Bm Bf w0 w n i (w1.heap.size + 1) ⟨3,f1,f2,f3⟩ A3 c3 wr) ∧ Aside0 (Own Bf w b (seqR ((f3.take j).map fun k=>meets l s k.toNat) i) ws wr))
    case atStart=>exact ⟨0,_,_,rfl,rfl,by omega,by omega,HW',HO'⟩
    case round =>
     clear HWk HOw HW' HO' hn3'
     obtain ⟨j,b,ws,rfl,rfl,hj,hg,HWk,HOw⟩:=hrel
     by_cases hlt : j < f3.length
     ·have HLt:=Aside0.mk hlt
      have hlt0 : (j : Int) < (f3.length : Int):=by omega
      obtain ⟨ad3,c,e0,_,hK,hcell⟩:=Kd.C_get (Kd.C_below HRK.out HWk.out.mem.below) (0 : Int) j (by omega) (by omega)
      subst e0
      have hK : c = [.int .i64 (f3.getD ((j : Int)).toNat 0)]:=hK
      subst hK
      have hce:=hcell 0 _ rfl
      replace hce : wr.cell? (ad3.add j) = some (.int .i64 (f3.getD j 0)):=by simpa [Kd.int,Kd.scalar] using hce
      clear hcell
      have HMem3 : Aside0 (f3.getD j 0 ∈ f3 ∧ f3.take (j + 1) = f3.take j ++ [f3.getD j 0]):=⟨by
       rw [List.getD_eq_getElem?_getD,List.getElem?_eq_getElem hlt]
       exact ⟨List.getElem_mem hlt,by rw [List.take_add_one,List.getElem?_eq_getElem hlt];rfl⟩⟩
      generalize f3.getD j 0 = z at *
      have hz:=HKid.out z HMem3.out.1
      obtain ⟨m,rfl⟩ : ∃ m : Nat,z = (m : Int):=⟨z.toNat,by omega⟩
      have HMn : Aside0 (m < n):=⟨by omega⟩
      clear hz
      go_upto_region 39 with fail
      obtain ⟨w3,hw3⟩ : ∃ w3,w3 = wr.alloc (.cells #[.int .u64 0,.int .u64 0,.int .u64 0,.int .u64 0,.int .u64 0,.int .u64 0,.int .u64 0,.int .u64 0] 113):=⟨_,rfl⟩
      rw [← hw3]
      have hBe : Below wr.heap.size wr w3:=by rw [hw3];exact below_alloc (Below.refl _ _) _
      have HWk3:=Aside0.mk (HWk.out.move hBe)
      have HOw3:=Aside0.mk (HOw.out.move HWk.out.mem hBe)
      have HNx : Aside0 (Own Bf w wr.heap.size (fun _=>False) (fun _=>0) w3):=⟨{
       lo:=HWk.out.grown.size
       obj:=by rw [hw3];exact heap_alloc_new _ _
       free:=(HWk.out.mem.map.free (Nat.le_refl _)).same (hBe.block _ (map_lt HWk.out.mem))
       set:=IsSet.empty }⟩
      have HNN : Aside0 (b ≠ wr.heap.size):=⟨fun e=>by have:=(Array.getElem?_eq_some_iff.mp HOw.out.obj).1;omega⟩
      clear hBe hw3 hce HWk HOw
      have hlist:=list_calls b ws _ HOw3.out.set w3 HOw3.out.obj (HT0.out.below HWk3.out.mem.below)
      go_wp2_with fail
      refine hlist.mono ?_
      rintro e w4 ⟨v4,rfl,hR4,hB4⟩
      dsimp only
      obtain ⟨L,hL⟩ : ∃ L,L = upto (seqR ((f3.take j).map fun k=>meets l s k.toNat) i) 512:=⟨_,rfl⟩
      rw [← hL] at hR4
      have HLm : Aside0 (∀ y,y ∈ L ↔ y < 512 ∧ seqR ((f3.take j).map fun k=>meets l s k.toNat) i y):=⟨fun y=>by rw [hL];exact mem_upto⟩
      have HLl : Aside0 (L.length ≤ 512):=⟨by rw [hL];exact upto_len _ _⟩
      obtain ⟨A4,c4,rfl,hl4,hC4⟩:=Kd.R_reads hR4
      rw [nats_len] at hR4 hl4 ⊢
      have HR4:=Aside0.mk hR4
      have HWk4:=Aside0.mk (HWk3.out.move hB4)
      have HNx4:=Aside0.mk (HNx.out.move HWk3.out.mem hB4)
      obtain ⟨nx,hnx⟩ : ∃ nx,nx = wr.heap.size:=⟨_,rfl⟩
      rw [← hnx] at HNx4 HNN ⊢
      obtain ⟨bs,hbs⟩ : ∃ bs,bs = w3.heap.size:=⟨_,rfl⟩
      rw [← hbs] at HR4
      clear hlist hL hR4 hB4 hl4 hC4 HWk3 HOw3 HNx hnx hbs
      go_wp2_with fail
      go_loopg [163] L.length (fun g2 v163 wr2=>∃ (p : Nat) (vs : Nat → Nat),v163 = .int .i64 p ∧ p ≤ L.length ∧ L.length - p ≤ g2 ∧ Aside0 (Work l s (some ad) c0 Bm Bf w0 w n i (w1.heap.size + 1) ⟨3,f1,f2,f3⟩ (some ad3) c3 wr2) ∧ Aside0 (Own Bf w nx (fun y=>∃ x,x ∈ L.take p ∧ meets l s m x y) vs wr2) ∧ Aside0 (Kd.R (Kd.int .i64) 3 wr2 bs (fun _=>True) (.slice A4 L.length c4) (nats L)))
      case atStart=>exact ⟨0,_,rfl,by omega,by omega,HWk4,⟨⟨HNx4.out.lo,HNx4.out.obj,HNx4.out.free,HNx4.out.set.congr fun y _=>by simp⟩⟩,HR4⟩
      case round =>
       clear HWk4 HNx4 HR4
       obtain ⟨p,vs,rfl,hp,hg2,HWk,HNx,HR4⟩:=hrel
       by_cases hpl : p < L.length
       ·have hpl0 : (p : Int) < (L.length : Int):=by omega
        have HPl:=Aside0.mk hpl
        obtain ⟨ad4,e4,hcp⟩:=row_get HR4.out p (by rw [nats_len];exact hpl)
        subst e4
        rw [nats_get L p hpl] at hcp
        obtain ⟨htk,hmem⟩:=take_next L p hpl
        generalize L.getD p 0 = x at hcp htk hmem
        have HTk:=Aside0.mk htk
        have HXs : Aside0 (x ≤ s.size):=⟨HFw.out j x ((HLm.out x).mp hmem).2⟩
        have hcall:=HIH.out m HMn.out x HXs.out wr HWk.out.mem
        clear htk hmem
        go_wp2_with fail
        refine hcall.mono ?_
        rintro e w5 ⟨b2,ws2,rfl,hb0,hbw,hbS,hM3,hG3,hnF,hFr⟩
        dsimp only
        have HNx5:=Aside0.mk (HNx.out.call HWk.out.mem hG3 hFr)
        have HR5:=Aside0.mk (row_call HR4.out HWk.out.mem hG3)
        have HWk5:=Aside0.mk (HWk.out.call hM3 hG3 hFr)
        have HB2 : Aside0 (w5.heap[b2]? = some (wobj ws2)):=⟨hbw⟩
        have HS3 : Aside0 (IsSet ws2 (meets l s m x)):=⟨hbS⟩
        have HNe : Aside0 (b2 ≠ nx):=⟨fun e=>hnF (e ▸ HNx5.out.free)⟩
        clear hcall hb0 hbw hbS hM3 hG3 hnF hFr HNx HWk HR4 hcp
        go_wp2_with fail
        go_loopg [171] 8 (fun g3 v171 wr3=>∃ (q : Nat),v171 = .int .i64 q ∧ q ≤ 8 ∧ 8 - q ≤ g3 ∧ Aside0 (Work l s (some ad) c0 Bm Bf w0 w n i (w1.heap.size + 1) ⟨3,f1,f2,f3⟩ (some ad3) c3 wr3) ∧ Aside0 (wr3.heap[b2]? = some (wobj ws2)) ∧ Aside0 (wr3.heap[nx]? = some (wobj (part vs ws2 q)) ∧ Free Bf nx wr3) ∧ Aside0 (Kd.R (Kd.int .i64) 3 wr3 bs (fun _=>True) (.slice (some ad4) L.length c4) (nats L)))
        case atStart=>exact ⟨0,rfl,by omega,by omega,HWk5,HB2,⟨by rw [part_zero];exact HNx5.out.obj,HNx5.out.free⟩,HR5⟩
        case round =>
         clear HWk5 HB2 HR5
         obtain ⟨q,rfl,hq,hg3,HWk4,HB4,HO4,HR4⟩:=hrel
         by_cases hq8 : q < 8
         ·have hq0 : (q : Int) < 8:=by omega
          have hq1 : (0 : Int) ≤ (q : Int):=by omega
          have hcb:=wobj_cell HB4.out q hq8
          have hco:=wobj_cell HO4.out.1 q hq8
          have hfo:=wobj_frozen HO4.out.1 q
          have hpq : part vs ws2 q q = vs q:=if_neg (by omega)
          rw [hpq] at hco
          have hor:=part_lt HNx5.out.set HS3.out q hq8
          clear hpq
          go_wp2_with fail
          go_quiet (fail)
          go_wp2_with fail
          go_region
          go_wp2_with fail
          have HJ:=HWk4.out.join HNx5.out.lo HNe.out hq8 HB4.out HO4.out (nq + 1)
          have HR6:=Aside0.mk (row_put (q:=q) (u:=.int .u64 ((vs q ||| ws2 q : Nat) : Int)) (Kd.R_drewN HR4.out (nq + 1)) HO4.out.1)
          go_roundg (8 - (q + 1))
          case measure=>omega
          case rel=>exact ⟨q + 1,by go_num,by omega,by omega,⟨HJ.1⟩,⟨HJ.2.1⟩,⟨HJ.2.2⟩,HR6⟩
         ·obtain rfl : q = 8:=by omega
          have hq0 : ¬ ((8 : Nat) : Int) < 8:=by omega
          have HTx : Aside0 (∀ y,(∃ x',x' ∈ L.take (p + 1) ∧ meets l s m x' y) ↔ (∃ x',x' ∈ L.take p ∧ meets l s m x' y) ∨ meets l s m x y):=⟨fun y=>by
           rw [HTk.out]
           constructor
           ·rintro ⟨k,hk,hm⟩
            rcases List.mem_append.mp hk with h|h
            ·exact .inl ⟨k,h,hm⟩
            ·have h : k = x:=by simpa using h
             subst h
             exact .inr hm
           ·rintro (⟨k,hk,hm⟩|hm)
            ·exact ⟨k,List.mem_append_left _ hk,hm⟩
            ·exact ⟨x,List.mem_append_right _ (by simp),hm⟩⟩
          have HO5 : Aside0 (Own Bf w nx (fun y=>∃ x',x' ∈ L.take (p + 1) ∧ meets l s m x' y) (part vs ws2 8) wr):=⟨⟨HNx5.out.lo,HO4.out.1,HO4.out.2,(part_set HNx5.out.set HS3.out).congr fun y _=>(HTx.out y).symm⟩⟩
          have hpi : (p : Int) + 1 ≤ 513:=by have:=HPl.out;have:=HLl.out;omega
          go_wp2_with fail
          go_roundg (L.length - (p + 1))
          case measure=>have:=HPl.out;omega
          case rel=>exact ⟨p + 1,_,by go_num,HPl.out,Nat.le_refl _,HWk4,HO5,HR4⟩
       ·obtain rfl : p = L.length:=by omega
        have hpl0 : ¬ (L.length : Int) < (L.length : Int):=by omega
        have HO5 : Aside0 (Own Bf w nx (seqR ((f3.take (j + 1)).map fun k=>meets l s k.toNat) i) vs wr):=⟨⟨HNx.out.lo,HNx.out.obj,HNx.out.free,HNx.out.set.congr fun y _=>by
         rw [List.take_length,HMem3.out.2,List.map_append,List.map_cons,List.map_nil,seqR_snoc]
         constructor
         ·rintro ⟨x',hx',hm⟩
          exact ⟨x',((HLm.out x').mp hx').2,by simpa using hm⟩
         ·rintro ⟨x',hx',hm⟩
          exact ⟨x',(HLm.out x').mpr ⟨by have:=HFw.out j x' hx';have:=HS.out;omega,hx'⟩,by simpa using hm⟩⟩⟩
        go_wp2_with fail
        go_roundg (f3.length - (j + 1))
        case measure=>have:=HLt.out;omega
        case rel=>exact ⟨j + 1,nx,_,rfl,congrArg (Value.int .i64) (by have h1:=HLt.out;have h2:=HL3.out;unfold wrap64;omega),HLt.out,Nat.le_refl _,HWk,HO5⟩
     ·obtain rfl : j = f3.length:=by omega
      have hlt0 : ¬ (f3.length : Int) < (f3.length : Int):=by omega
      have HO6 : Aside0 (Own Bf w b (meets l s n i) ws wr):=⟨⟨HOw.out.lo,HOw.out.obj,HOw.out.free,HOw.out.set.congr fun y _=>by rw [List.take_length];exact (HS2.out y).symm⟩⟩
      go_wp2_with fail
      go_meet
      exact ⟨b,ws,rfl,HWk,HO6⟩
   ·as_aux_lemma =>
    have HS2 : Aside0 (∀ j,meets l s n i j ↔ ∃ k,k ∈ f3 ∧ meets l s k.toNat i j):=⟨fun j=>by rw [HMeet.out,if_neg (by decide),if_neg (by decide),if_pos rfl]⟩
    have HKid:=Aside0.mk (HOk.out.kid n HN.out)
    rw [HXE.out] at HKid
    have HL3 : Aside0 (f3.length ≤ 9223372036854775807):=⟨HRK.out.2.1⟩
    go_wp2_with fail
    go_loopg [196] f3.length (fun gg v196 wr=>∃ (j : Nat) (ws : Nat → Nat),v196 = .int .i64 j ∧ j ≤ f3.length ∧ f3.length - j ≤ gg ∧ Aside0 (Work l s (some ad) c0 Bm Bf w0 w n i (w1.heap.size + 1) ⟨4,f1,f2,f3⟩ A3 c3 wr) ∧ Aside0 (Own Bf w w1.heap.size (fun y=>∃ k,k ∈ f3.take j ∧ meets l s k.toNat i y) ws wr))
    case atStart=>exact ⟨0,_,rfl,by omega,by omega,HWk,⟨⟨HOw.out.lo,HOw.out.obj,HOw.out.free,HOw.out.set.congr fun j _=>by simp⟩⟩⟩
    case round =>
     clear HWk HOw hn0 hn1 hn2 hn3 hm0 hm1 hm2
     obtain ⟨j,ws,rfl,hj,hg,HWk,HOw⟩:=hrel
     by_cases hlt : j < f3.length
     ·have HLt:=Aside0.mk hlt
      have hlt0 : (j : Int) < (f3.length : Int):=by omega
      obtain ⟨ad3,c,e0,_,hK,hcell⟩:=Kd.C_get (Kd.C_below HRK.out HWk.out.mem.below) (0 : Int) j (by omega) (by omega)
      subst e0
      have hK : c = [.int .i64 (f3.getD ((j : Int)).toNat 0)]:=hK
      subst hK
      have hce:=hcell 0 _ rfl
      replace hce : wr.cell? (ad3.add j) = some (.int .i64 (f3.getD j 0)):=by simpa [Kd.int,Kd.scalar] using hce
      clear hcell
      have HMem3 : Aside0 (f3.getD j 0 ∈ f3 ∧ f3.take (j + 1) = f3.take j ++ [f3.getD j 0]):=⟨by
       rw [List.getD_eq_getElem?_getD,List.getElem?_eq_getElem hlt]
       exact ⟨List.getElem_mem hlt,by rw [List.take_add_one,List.getElem?_eq_getElem hlt];rfl⟩⟩
      generalize f3.getD j 0 = z at *
      have hz:=HKid.out z HMem3.out.1
      obtain ⟨m,rfl⟩ : ∃ m : Nat,z = (m : Int):=⟨z.toNat,by omega⟩
      have hcall:=HIH.out m (by omega) i HI.out wr HWk.out.mem
      clear hz
      go_wp2_with fail
      refine hcall.mono ?_
      rintro e w3 ⟨b2,ws2,rfl,hb0,hbw,hbS,hM3,hG3,hnF,hFr⟩
      dsimp only
      have HOw3:=Aside0.mk (HOw.out.call HWk.out.mem hG3 hFr)
      have HWk3:=Aside0.mk (HWk.out.call hM3 hG3 hFr)
      have HB2 : Aside0 (w3.heap[b2]? = some (wobj ws2)):=⟨hbw⟩
      have HS3 : Aside0 (IsSet ws2 (meets l s m i)):=⟨hbS⟩
      have HNe : Aside0 (b2 ≠ w1.heap.size):=⟨fun e=>hnF (e ▸ HOw3.out.free)⟩
      clear hcall hb0 hbw hbS hM3 hG3 hnF hFr HOw HWk hce
      go_wp2_with fail
      go_loopg [204] 8 (fun g2 v204 wr2=>∃ (q : Nat),v204 = .int .i64 q ∧ q ≤ 8 ∧ 8 - q ≤ g2 ∧ Aside0 (Work l s (some ad) c0 Bm Bf w0 w n i (w1.heap.size + 1) ⟨4,f1,f2,f3⟩ (some ad3) c3 wr2) ∧ Aside0 (wr2.heap[b2]? = some (wobj ws2)) ∧ Aside0 (wr2.heap[w1.heap.size]? = some (wobj (part ws ws2 q)) ∧ Free Bf w1.heap.size wr2))
      case atStart=>exact ⟨0,rfl,by omega,by omega,HWk3,HB2,⟨by rw [part_zero];exact HOw3.out.obj,HOw3.out.free⟩⟩
      case round =>
       clear HWk3 HB2
       obtain ⟨q,rfl,hq,hg2,HWk4,HB4,HO4⟩:=hrel
       by_cases hq8 : q < 8
       ·have hq0 : (q : Int) < 8:=by omega
        have hq1 : (0 : Int) ≤ (q : Int):=by omega
        have hcb:=wobj_cell HB4.out q hq8
        have hco:=wobj_cell HO4.out.1 q hq8
        have hfo:=wobj_frozen HO4.out.1 q
        have hpq : part ws ws2 q q = ws q:=if_neg (by omega)
        rw [hpq] at hco
        have hor:=part_lt HOw3.out.set HS3.out q hq8
        clear hpq
        go_wp2_with fail
        go_quiet (fail)
        go_wp2_with fail
        go_region
        go_wp2_with fail
        have HJ:=HWk4.out.join HOw3.out.lo HNe.out hq8 HB4.out HO4.out (nq + 1)
        go_roundg (8 - (q + 1))
        case measure=>omega
        case rel=>exact ⟨q + 1,by go_num,by omega,by omega,⟨HJ.1⟩,⟨HJ.2.1⟩,⟨HJ.2.2⟩⟩
       ·obtain rfl : q = 8:=by omega
        have hq0 : ¬ ((8 : Nat) : Int) < 8:=by omega
        have HTk : Aside0 (∀ y,(∃ k,k ∈ f3.take (j + 1) ∧ meets l s k.toNat i y) ↔ (∃ k,k ∈ f3.take j ∧ meets l s k.toNat i y) ∨ meets l s m i y):=⟨fun y=>by
         rw [HMem3.out.2]
         constructor
         ·rintro ⟨k,hk,hm⟩
          rcases List.mem_append.mp hk with h|h
          ·exact .inl ⟨k,h,hm⟩
          ·have h : k = (m : Int):=by simpa using h
           subst h
           exact .inr (by simpa using hm)
         ·rintro (⟨k,hk,hm⟩|hm)
          ·exact ⟨k,List.mem_append_left _ hk,hm⟩
          ·exact ⟨m,List.mem_append_right _ (by simp),by simpa using hm⟩⟩
        have HO5 : Aside0 (Own Bf w w1.heap.size (fun y=>∃ k,k ∈ f3.take (j + 1) ∧ meets l s k.toNat i y) (part ws ws2 8) wr):=⟨⟨HOw3.out.lo,HO4.out.1,HO4.out.2,(part_set HOw3.out.set HS3.out).congr fun y _=>(HTk.out y).symm⟩⟩
        go_wp2_with fail
        go_roundg (f3.length - (j + 1))
        case measure=>have:=HLt.out;omega
        case rel=>exact ⟨j + 1,_,congrArg (Value.int .i64) (by have h1:=HLt.out;have h2:=HL3.out;unfold wrap64;omega),HLt.out,Nat.le_refl _,HWk4,HO5⟩
     ·obtain rfl : j = f3.length:=by omega
      have hlt0 : ¬ (f3.length : Int) < (f3.length : Int):=by omega
      have hcl:=HWk.out.loc
      have hn0 : wr.cell? ⟨w1.heap.size + 1,0,none⟩ = some (.int .i64 4):=by simp [World.cell?,hcl]
      have HO5 : Aside0 (Own Bf w w1.heap.size (fun y=>∃ k,k ∈ f3 ∧ meets l s k.toNat i y) ws wr):=⟨⟨HOw.out.lo,HOw.out.obj,HOw.out.free,HOw.out.set.congr fun y _=>by rw [List.take_length]⟩⟩
      clear hcl
      have HO6 : Aside0 (Own Bf w w1.heap.size (meets l s n i) ws wr):=⟨⟨HO5.out.lo,HO5.out.obj,HO5.out.free,HO5.out.set.congr fun y _=>(HS2.out y).symm⟩⟩
      go_wp2_with fail
      go_meet
      exact ⟨_,ws,rfl,HWk,HO6⟩
   ·as_aux_lemma =>
    have HOne:=HOk.out.one n HN.out (by rw [HXE.out];show (5 : Int) ≤ 7;decide)
    rw [HXE.out] at HOne
    have HS2 : Aside0 (∀ j,meets l s n i j ↔ (∃ k,k ∈ f3 ∧ meets l s k.toNat i j) ∨ j = i):=⟨fun j=>by
     obtain ⟨k1,hk1⟩:=HOne
     have hk1 : f3 = [k1]:=hk1
     rw [HMeet.out,if_neg (by decide),if_neg (by decide),if_neg (by decide),if_neg (by decide),if_neg (by decide),hk1]
     simp only [List.headD_cons,List.mem_singleton,exists_eq_left]
     constructor
     ·rintro (e|h)
      ·exact .inr e.symm
      ·exact .inl h
     ·rintro (h|e)
      ·exact .inr h
      ·exact .inl e.symm⟩
    clear HOne
    have HKid:=Aside0.mk (HOk.out.kid n HN.out)
    rw [HXE.out] at HKid
    have HL3 : Aside0 (f3.length ≤ 9223372036854775807):=⟨HRK.out.2.1⟩
    go_wp2_with fail
    go_loopg [196] f3.length (fun gg v196 wr=>∃ (j : Nat) (ws : Nat → Nat),v196 = .int .i64 j ∧ j ≤ f3.length ∧ f3.length - j ≤ gg ∧ Aside0 (Work l s (some ad) c0 Bm Bf w0 w n i (w1.heap.size + 1) ⟨7,f1,f2,f3⟩ A3 c3 wr) ∧ Aside0 (Own Bf w w1.heap.size (fun y=>∃ k,k ∈ f3.take j ∧ meets l s k.toNat i y) ws wr))
    case atStart=>exact ⟨0,_,rfl,by omega,by omega,HWk,⟨⟨HOw.out.lo,HOw.out.obj,HOw.out.free,HOw.out.set.congr fun j _=>by simp⟩⟩⟩
    case round =>
     clear HWk HOw hn0 hn1 hn2 hn3 hm0 hm1 hm2
     obtain ⟨j,ws,rfl,hj,hg,HWk,HOw⟩:=hrel
     by_cases hlt : j < f3.length
     ·have HLt:=Aside0.mk hlt
      have hlt0 : (j : Int) < (f3.length : Int):=by omega
      obtain ⟨ad3,c,e0,_,hK,hcell⟩:=Kd.C_get (Kd.C_below HRK.out HWk.out.mem.below) (0 : Int) j (by omega) (by omega)
      subst e0
      have hK : c = [.int .i64 (f3.getD ((j : Int)).toNat 0)]:=hK
      subst hK
      have hce:=hcell 0 _ rfl
      replace hce : wr.cell? (ad3.add j) = some (.int .i64 (f3.getD j 0)):=by simpa [Kd.int,Kd.scalar] using hce
      clear hcell
      have HMem3 : Aside0 (f3.getD j 0 ∈ f3 ∧ f3.take (j + 1) = f3.take j ++ [f3.getD j 0]):=⟨by
       rw [List.getD_eq_getElem?_getD,List.getElem?_eq_getElem hlt]
       exact ⟨List.getElem_mem hlt,by rw [List.take_add_one,List.getElem?_eq_getElem hlt];rfl⟩⟩
      generalize f3.getD j 0 = z at *
      have hz:=HKid.out z HMem3.out.1
      obtain ⟨m,rfl⟩ : ∃ m : Nat,z = (m : Int):=⟨z.toNat,by omega⟩
      have hcall:=HIH.out m (by omega) i HI.out wr HWk.out.mem
      clear hz
      go_wp2_with fail
      refine hcall.mono ?_
      rintro e w3 ⟨b2,ws2,rfl,hb0,hbw,hbS,hM3,hG3,hnF,hFr⟩
      dsimp only
      have HOw3:=Aside0.mk (HOw.out.call HWk.out.mem hG3 hFr)
      have HWk3:=Aside0.mk (HWk.out.call hM3 hG3 hFr)
      have HB2 : Aside0 (w3.heap[b2]? = some (wobj ws2)):=⟨hbw⟩
      have HS3 : Aside0 (IsSet ws2 (meets l s m i)):=⟨hbS⟩
      have HNe : Aside0 (b2 ≠ w1.heap.size):=⟨fun e=>hnF (e ▸ HOw3.out.free)⟩
      clear hcall hb0 hbw hbS hM3 hG3 hnF hFr HOw HWk hce
      go_wp2_with fail
      go_loopg [204] 8 (fun g2 v204 wr2=>∃ (q : Nat),v204 = .int .i64 q ∧ q ≤ 8 ∧ 8 - q ≤ g2 ∧ Aside0 (Work l s (some ad) c0 Bm Bf w0 w n i (w1.heap.size + 1) ⟨7,f1,f2,f3⟩ (some ad3) c3 wr2) ∧ Aside0 (wr2.heap[b2]? = some (wobj ws2)) ∧ Aside0 (wr2.heap[w1.heap.size]? = some (wobj (part ws ws2 q)) ∧ Free Bf w1.heap.size wr2))
      case atStart=>exact ⟨0,rfl,by omega,by omega,HWk3,HB2,⟨by rw [part_zero];exact HOw3.out.obj,HOw3.out.free⟩⟩
      case round =>
       clear HWk3 HB2
       obtain ⟨q,rfl,hq,hg2,HWk4,HB4,HO4⟩:=hrel
       by_cases hq8 : q < 8
       ·have hq0 : (q : Int) < 8:=by omega
        have hq1 : (0 : Int) ≤ (q : Int):=by omega
        have hcb:=wobj_cell HB4.out q hq8
        have hco:=wobj_cell HO4.out.1 q hq8
        have hfo:=wobj_frozen HO4.out.1 q
        have hpq : part ws ws2 q q = ws q:=if_neg (by omega)
        rw [hpq] at hco
        have hor:=part_lt HOw3.out.set HS3.out q hq8
        clear hpq
        go_wp2_with fail
        go_quiet (fail)
        go_wp2_with fail
        go_region
        go_wp2_with fail
        have HJ:=HWk4.out.join HOw3.out.lo HNe.out hq8 HB4.out HO4.out (nq + 1)
        go_roundg (8 - (q + 1))
        case measure=>omega
        case rel=>exact ⟨q + 1,by go_num,by omega,by omega,⟨HJ.1⟩,⟨HJ.2.1⟩,⟨HJ.2.2⟩⟩
       ·obtain rfl : q = 8:=by omega
        have hq0 : ¬ ((8 : Nat) : Int) < 8:=by omega
        have HTk : Aside0 (∀ y,(∃ k,k ∈ f3.take (j + 1) ∧ meets l s k.toNat i y) ↔ (∃ k,k ∈ f3.take j ∧ meets l s k.toNat i y) ∨ meets l s m i y):=⟨fun y=>by
         rw [HMem3.out.2]
         constructor
         ·rintro ⟨k,hk,hm⟩
          rcases List.mem_append.mp hk with h|h
          ·exact .inl ⟨k,h,hm⟩
          ·have h : k = (m : Int):=by simpa using h
           subst h
           exact .inr (by simpa using hm)
         ·rintro (⟨k,hk,hm⟩|hm)
          ·exact ⟨k,List.mem_append_left _ hk,hm⟩
          ·exact ⟨m,List.mem_append_right _ (by simp),by simpa using hm⟩⟩
        have HO5 : Aside0 (Own Bf w w1.heap.size (fun y=>∃ k,k ∈ f3.take (j + 1) ∧ meets l s k.toNat i y) (part ws ws2 8) wr):=⟨⟨HOw3.out.lo,HO4.out.1,HO4.out.2,(part_set HOw3.out.set HS3.out).congr fun y _=>(HTk.out y).symm⟩⟩
        go_wp2_with fail
        go_roundg (f3.length - (j + 1))
        case measure=>have:=HLt.out;omega
        case rel=>exact ⟨j + 1,_,congrArg (Value.int .i64) (by have h1:=HLt.out;have h2:=HL3.out;unfold wrap64;omega),HLt.out,Nat.le_refl _,HWk4,HO5⟩
     ·obtain rfl : j = f3.length:=by omega
      have hlt0 : ¬ (f3.length : Int) < (f3.length : Int):=by omega
      have hcl:=HWk.out.loc
      have hn0 : wr.cell? ⟨w1.heap.size + 1,0,none⟩ = some (.int .i64 7):=by simp [World.cell?,hcl]
      have HO5 : Aside0 (Own Bf w w1.heap.size (fun y=>∃ k,k ∈ f3 ∧ meets l s k.toNat i y) ws wr):=⟨⟨HOw.out.lo,HOw.out.obj,HOw.out.free,HOw.out.set.congr fun y _=>by rw [List.take_length]⟩⟩
      clear hcl
      have hcall:=add_calls w1.heap.size i (by have:=HI.out;have:=HS.out;omega) _ _ HO5.out.set wr HO5.out.obj
      go_wp2_with fail
      refine hcall.mono ?_
      rintro e w' ⟨r,rfl,_,ws',hS',hw',hg',-⟩
      have hF:=HO5.out.free.same (hg'.block _ (map_lt HWk.out.mem) (fun e=>map_ne HWk.out.mem HO5.out.obj (Option.some.inj e).symm))
      have HW':=Aside0.mk (HWk.out.set HO5.out hg')
      have HO' : Aside0 (Own Bf w w1.heap.size (meets l s n i) ws' w'):=⟨⟨HO5.out.lo,hw',hF,hS'.congr fun y _=>(HS2.out y).symm⟩⟩
      clear hS' hw' hg' hF
      go_wp2_with fail
      go_meet
      exact ⟨_,ws',rfl,HW',HO'⟩
   ·as_aux_lemma =>
    have HOne:=HOk.out.one n HN.out (by rw [HXE.out];show (5 : Int) ≤ 5;decide)
    have HKid:=HOk.out.kid n HN.out
    rw [HXE.out] at HOne HKid
    obtain ⟨k1,hk1⟩:=HOne
    have hk1 : f3 = [k1]:=hk1
    subst hk1
    have hz:=HKid k1 (by simp)
    obtain ⟨m,rfl⟩ : ∃ m : Nat,k1 = (m : Int):=⟨k1.toNat,by omega⟩
    have HMn : Aside0 (m < n):=⟨by omega⟩
    clear hz HKid
    have HFw : Aside0 (Fwd (meets l s m) s.size):=⟨meets_fwd HOk.out s m (by have:=HN.out;have:=HMn.out;omega)⟩
    have HS2 : Aside0 (∀ j,meets l s n i j ↔ Plus (meets l s m) i j ∨ j = i):=⟨fun j=>by
     rw [HMeet.out,if_neg (by decide),if_neg (by decide),if_neg (by decide),if_pos rfl]
     show Star (meets l s ((m : Int)).toNat) i j ↔ _
     rw [Int.toNat_natCast]
     exact plus_star⟩
    have HT0:=Aside0.mk HBase.out.tabs
    obtain ⟨ad3,c,e0,_,hK,hcell⟩:=Kd.C_get (Kd.C_below HRK.out HWk.out.mem.below) (0 : Int) 0 (by omega) (by simp)
    subst e0
    have hK : c = [.int .i64 (([(m : Int)] : List Int).getD ((0 : Int)).toNat 0)]:=hK
    subst hK
    have hce:=hcell 0 _ rfl
    have hce2 : w2.cell? ad3 = some (.int .i64 m):=by simpa [Kd.int,Kd.scalar,Addr.add] using hce
    replace hce : w2.cell? (ad3.add 0) = some (.int .i64 m):=by simpa [Kd.int,Kd.scalar] using hce
    clear hcell
    have hcall:=HIH.out m HMn.out i HI.out w2 HWk.out.mem
    go_wp2_with fail
    refine hcall.mono ?_
    rintro e w3 ⟨b2,ws2,rfl,hb0,hbw,hbS,hM3,hG3,hnF,hFr⟩
    dsimp only
    have HOw3:=Aside0.mk (HOw.out.call HWk.out.mem hG3 hFr)
    have HWk3:=Aside0.mk (HWk.out.call hM3 hG3 hFr)
    have hlist:=list_calls b2 ws2 _ hbS w3 hbw (HT0.out.below HWk3.out.mem.below)
    clear hcall hb0 hbw hbS hM3 hG3 hnF hFr HOw HWk hce hce2 hn0 hn1 hn2 hn3 hm0 hm1 hm2
    go_wp2_with fail
    refine hlist.mono ?_
    rintro e w4 ⟨v4,rfl,hR4,hB4⟩
    dsimp only
    obtain ⟨Q0,hQ0⟩ : ∃ Q0,Q0 = upto (meets l s m i) (s.size + 1):=⟨_,rfl⟩
    rw [upto_big (n:=s.size + 1) (fun y hy=>by have:=HFw.out i y HI.out hy;omega) (by have:=HS.out;omega),← hQ0] at hR4
    have HQ0 : Aside0 (Re.Queue (meets l s m) i (s.size + 1) Q0 0):=⟨by rw [hQ0];exact Queue.start fun y hy=>by have:=HFw.out i y HI.out hy;omega⟩
    have HQl : Aside0 (Q0.length ≤ 501):=⟨by have:=HQ0.out.len;have:=HS.out;omega⟩
    obtain ⟨A4,c4,rfl,hl4,hC4⟩:=Kd.R_reads hR4
    rw [nats_len] at hR4 hl4 ⊢
    have HR4:=Aside0.mk hR4
    have HOw4:=Aside0.mk (HOw3.out.move HWk3.out.mem hB4)
    have HWk4:=Aside0.mk (HWk3.out.move hB4)
    replace HR4:=Aside0.mk (Kd.R_lower HR4.out HWk3.out.grown.size)
    clear hlist hQ0 hR4 hB4 hl4 hC4 HWk3 HOw3
    go_wp2_with fail
    go_loopg [61] Q0.length (fun g2 v61 wr2=>∃ (p : Nat) (vs : Nat → Nat),v61 = .int .i64 p ∧ p ≤ Q0.length ∧ Q0.length - p ≤ g2 ∧ Aside0 (Work l s (some ad) c0 Bm Bf w0 w n i (w1.heap.size + 1) ⟨5,f1,f2,[(m : Int)]⟩ (some ad3) c3 wr2) ∧ Aside0 (Own Bf w w1.heap.size (fun y=>y ∈ Q0.take p) vs wr2) ∧ Aside0 (Kd.R (Kd.int .i64) 3 wr2 w.heap.size (fun _=>True) (.slice A4 Q0.length c4) (nats Q0)))
    case atStart=>exact ⟨0,_,rfl,by omega,by omega,HWk4,⟨⟨HOw4.out.lo,HOw4.out.obj,HOw4.out.free,HOw4.out.set.congr fun y _=>by simp⟩⟩,HR4⟩
    case round =>
     clear HWk4 HOw4 HR4
     obtain ⟨p,vs,rfl,hp,hg2,HWk,HOw,HR4⟩:=hrel
     by_cases hpl : p < Q0.length
     ·have hpl0 : (p : Int) < (Q0.length : Int):=by omega
      have HPl:=Aside0.mk hpl
      obtain ⟨ad4,e4,hcp⟩:=row_get HR4.out p (by rw [nats_len];exact hpl)
      subst e4
      rw [nats_get Q0 p hpl] at hcp
      obtain ⟨htk,hmem⟩:=take_next Q0 p hpl
      generalize Q0.getD p 0 = x at hcp htk hmem
      have hxl:=HQ0.out.lt x hmem
      have hcall:=add_calls w1.heap.size x (by have:=HS.out;omega) _ _ HOw.out.set wr HOw.out.obj
      have HTk:=Aside0.mk htk
      clear htk hmem hxl
      go_wp2_with fail
      refine hcall.mono ?_
      rintro e w' ⟨r,rfl,_,ws',hS',hw',hg',-⟩
      dsimp only
      have hF:=HOw.out.free.same (hg'.block _ (map_lt HWk.out.mem) (fun e=>map_ne HWk.out.mem HOw.out.obj (Option.some.inj e).symm))
      have HW':=Aside0.mk (HWk.out.set HOw.out hg')
      have HR':=Aside0.mk (row_grown2 HR4.out HOw.out.obj hg')
      have HO' : Aside0 (Own Bf w w1.heap.size (fun y=>y ∈ Q0.take (p + 1)) ws' w'):=⟨⟨HOw.out.lo,hw',hF,hS'.congr fun y _=>by rw [HTk.out];simp⟩⟩
      have hpi : (p : Int) + 1 ≤ 513:=by have:=HPl.out;have:=HQl.out;omega
      clear hS' hw' hg' hF hcp hcall
      go_wp2_with fail
      go_roundg (Q0.length - (p + 1))
      case measure=>have:=HPl.out;omega
      case rel=>exact ⟨p + 1,_,by go_num,HPl.out,Nat.le_refl _,HW',HO',HR'⟩
     ·obtain rfl : p = Q0.length:=by omega
      have hpl0 : ¬ (Q0.length : Int) < (Q0.length : Int):=by omega
      have HOw5 : Aside0 (Own Bf w w1.heap.size (fun y=>y ∈ Q0) vs wr):=⟨⟨HOw.out.lo,HOw.out.obj,HOw.out.free,HOw.out.set.congr fun y _=>by rw [List.take_length]⟩⟩
      clear HOw
      go_wp2_with fail
      go_loopg [22,25] 513 (fun gg v22 v25 wr=>∃ (i' : Nat) (Q : List Nat) (ws : Nat → Nat),v25 = .int .i64 i' ∧ 513 - i' ≤ gg ∧ i' ≤ Q.length ∧ Aside0 (Re.Queue (meets l s m) i (s.size + 1) Q i') ∧ Aside0 (Work l s (some ad) c0 Bm Bf w0 w n i (w1.heap.size + 1) ⟨5,f1,f2,[(m : Int)]⟩ (some ad3) c3 wr) ∧ Aside0 (Own Bf w w1.heap.size (fun y=>y ∈ Q) ws wr) ∧ Aside0 (Kd.R (Kd.int .i64) 3 wr w.heap.size (fun _=>True) v22 (nats Q)))
      case atStart=>exact ⟨0,Q0,vs,rfl,by omega,by omega,HQ0,HWk,HOw5,HR4⟩
      case round =>
       clear HWk HOw5 HR4 HQ0
       obtain ⟨i',Q,ws,rfl,hg,hi',HQ,HWk,HOw,HR⟩:=hrel
       obtain ⟨A5,c5,hv,_,_⟩:=Kd.R_reads HR.out
       rw [nats_len] at hv
       subst hv
       have HQ5 : Aside0 (Q.length ≤ 501):=⟨by have:=HQ.out.len;have:=HS.out;omega⟩
       have hcl:=HWk.out.loc
       have hn3 : wr.cell? ⟨w1.heap.size + 1,3,none⟩ = some (.slice (some ad3) 1 c3):=by simp [World.cell?,hcl]
       have hn0 : wr.cell? ⟨w1.heap.size + 1,0,none⟩ = some (.int .i64 5):=by simp [World.cell?,hcl]
       clear hcl
       by_cases hlt : i' < Q.length
       ·have hlt0 : (i' : Int) < (Q.length : Int):=by omega
        have HLt:=Aside0.mk hlt
        obtain ⟨ad5,e5,hcq⟩:=row_get HR.out i' (by rw [nats_len];exact hlt)
        subst e5
        rw [nats_get Q i' hlt] at hcq
        have HStep:=Aside0.mk (HQ.out.step hlt (fun q x hq hx=>by have:=HFw.out q x (by omega) hx;omega))
        have hmem:=(take_next Q i' hlt).2
        have HXq : Aside0 (∃ x,Q.getD i' 0 = x):=⟨_,rfl⟩
        obtain ⟨x,hx⟩:=HXq.out
        rw [hx] at hcq HStep hmem
        replace HXq : Aside0 (Q.getD i' 0 = x):=⟨hx⟩
        clear hx
        have HXs : Aside0 (x ≤ s.size):=⟨by have:=HQ.out.lt x hmem;omega⟩
        obtain ⟨ad3',cc,e0,_,hK,hcell⟩:=Kd.C_get (Kd.C_below HRK.out HWk.out.mem.below) (0 : Int) 0 (by omega) (by simp)
        obtain rfl : ad3 = ad3':=Option.some.inj e0
        have hK : cc = [.int .i64 (([(m : Int)] : List Int).getD ((0 : Int)).toNat 0)]:=hK
        subst hK
        have hce:=hcell 0 _ rfl
        replace hce : wr.cell? ad3 = some (.int .i64 m):=by simpa [Kd.int,Kd.scalar,Addr.add] using hce
        clear hcell e0 hmem
        go_upto_region 16 with fail
        refine wp_region_aside_at (v:=.int .i64 0) 9 12 (by kernel_rfl) rfl (by kernel_rfl) (by kernel_rfl) (by kernel_rfl) (fun _ _ _ h=>h) (Or.inl ⟨by rfl,fun w=>?_⟩) (by kernel_rfl) (by kernel_rfl) ?_
        ·first|rfl|(go_simp;done)
        simp only [List.take_succ_cons,List.take_zero,List.drop_succ_cons,List.drop_zero]
        repeat still_step
        try refine wpStill_nil ?_
        change wpList _ _ _ _ _ wr.drew
        have hdr : Below wr.heap.size wr wr.drew:=(Below.refl _ _).drew
        replace HOw:=Aside0.mk (HOw.out.move HWk.out.mem hdr)
        replace HWk:=Aside0.mk (HWk.out.move hdr)
        replace HR:=Aside0.mk (Kd.R_below HR.out hdr)
        clear hdr hce hcq hn3 hn0
        generalize wr.drew = w6 at *
        have hcall:=HIH.out m HMn.out x HXs.out w6 HWk.out.mem
        go_wp2_with fail
        refine hcall.mono ?_
        rintro e w7 ⟨b2,ws2,rfl,hb0,hbw,hbS,hM3,hG3,hnF,hFr⟩
        dsimp only
        replace HR:=Aside0.mk (row_call HR.out HWk.out.mem hG3)
        replace HOw:=Aside0.mk (HOw.out.call HWk.out.mem hG3 hFr)
        replace HWk:=Aside0.mk (HWk.out.call hM3 hG3 hFr)
        have hlist:=list_calls b2 ws2 _ hbS w7 hbw (HT0.out.below HWk.out.mem.below)
        clear hcall hb0 hbw hbS hM3 hG3 hnF hFr
        go_wp2_with fail
        refine hlist.mono ?_
        rintro e w8 ⟨v4,rfl,hR4,hB4⟩
        dsimp only
        obtain ⟨L,hL⟩ : ∃ L,L = upto (meets l s m x) (s.size + 1):=⟨_,rfl⟩
        rw [upto_big (n:=s.size + 1) (fun y hy=>by have:=HFw.out x y HXs.out hy;omega) (by have:=HS.out;omega),← hL] at hR4
        rw [← hL] at HStep
        have HLb : Aside0 (L.length ≤ 501 ∧ ∀ y,y ∈ L → y ≤ s.size):=⟨by rw [hL];have:=upto_len (meets l s m x) (s.size + 1);have:=HS.out;omega,fun y hy=>by rw [hL] at hy;have:=(mem_upto.mp hy).1;omega⟩
        obtain ⟨inner,hown⟩:=Kd.R_own HR.out
        have hR5:=Kd.R_mono (Kd.R_new hR4 hown) (fun k hk=>hk.2)
        obtain ⟨A6,c6,rfl,hl6,hC6⟩:=Kd.R_reads hR4
        rw [nats_len L] at hR5 hl6 ⊢
        have HL5:=Aside0.mk hR5
        replace HR:=Aside0.mk (Kd.R_below HR.out hB4)
        replace HOw:=Aside0.mk (HOw.out.move HWk.out.mem hB4)
        replace HWk:=Aside0.mk (HWk.out.move hB4)
        obtain ⟨bl,hbl⟩ : ∃ bl,bl = w7.heap.size:=⟨_,rfl⟩
        rw [← hbl] at HL5
        clear hlist hL hR4 hR5 hB4 hl6 hC6 hown hbl
        go_wp2_with fail
        go_loopg [22,87] L.length (fun g2 v22 v87 wr2=>∃ (p : Nat) (vs : Nat → Nat),v87 = .int .i64 p ∧ p ≤ L.length ∧ L.length - p ≤ g2 ∧ Aside0 (Work l s (some ad) c0 Bm Bf w0 w n i (w1.heap.size + 1) ⟨5,f1,f2,[(m : Int)]⟩ (some ad3) c3 wr2) ∧ Aside0 (Own Bf w w1.heap.size (fun y=>y ∈ ext Q (L.take p)) vs wr2) ∧ Aside0 (Kd.R (Kd.int .i64) 3 wr2 w.heap.size (fun _=>True) v22 (nats (ext Q (L.take p)))) ∧ Aside0 (Kd.R (Kd.int .i64) 3 wr2 bl (fun k=>some k ≠ v22.ownBlock) (.slice A6 L.length c6) (nats L)) ∧ Aside0 ((ext Q (L.take p)).length ≤ 501 + p))
        case atStart=>exact ⟨0,ws,rfl,by omega,by omega,HWk,HOw,HR,HL5,HQ5⟩
        case round =>
         clear HWk HOw HR HL5
         obtain ⟨p,vs,rfl,hp,hg2,HWk,HOw,HR,HL5,HEl⟩:=hrel
         by_cases hpl : p < L.length
         ·have hpl0 : (p : Int) < (L.length : Int):=by omega
          have HPl:=Aside0.mk hpl
          obtain ⟨ad6,e6,hcp⟩:=row_get (row_true HL5.out) p (by rw [nats_len];exact hpl)
          subst e6
          rw [nats_get L p hpl] at hcp
          have hext:=ext_take Q L p hpl
          have hmem:=(take_next L p hpl).2
          generalize L.getD p 0 = z at hcp hext hmem
          have hzl:=HLb.out.2 z hmem
          have hcall:=add_calls w1.heap.size z (by have:=HS.out;omega) _ _ HOw.out.set wr HOw.out.obj
          have HExt:=Aside0.mk hext
          have hpi : (p : Int) + 1 ≤ 513:=by have:=HLb.out.1;omega
          clear hext hmem hzl
          go_wp2_with fail
          refine hcall.mono ?_
          rintro e w' ⟨r,rfl,hr,ws',hS',hw',hg',-⟩
          dsimp only
          have hF:=HOw.out.free.same (hg'.block _ (map_lt HWk.out.mem) (fun e=>map_ne HWk.out.mem HOw.out.obj (Option.some.inj e).symm))
          have HW':=Aside0.mk (HWk.out.set HOw.out hg')
          have HR':=Aside0.mk (row_grown2 HR.out HOw.out.obj hg')
          have HL':=Aside0.mk (row_grown2 HL5.out HOw.out.obj hg')
          have HO' : Aside0 (Own Bf w w1.heap.size (fun y=>y ∈ ext Q (L.take (p + 1))) ws' w'):=⟨⟨HOw.out.lo,hw',hF,hS'.congr fun y _=>by
           rw [HExt.out]
           split
           ·rename_i h
            constructor
            ·rintro (h1|h1)
             ·exact h1
             ·rw [h1];exact h
            ·exact .inl
           ·simp⟩⟩
          clear hS' hw' hg' hF hcp hcall HWk HOw HR HL5
          cases r with
          | false =>
           have hin : z ∈ ext Q (L.take p):=Classical.byContradiction fun h=>absurd (hr.mpr h) (by decide)
           have HE : Aside0 (ext Q (L.take (p + 1)) = ext Q (L.take p)):=⟨by rw [HExt.out,if_pos hin]⟩
           clear hr hin
           go_wp2_with fail
           go_roundg (L.length - (p + 1))
           case measure=>have:=HPl.out;omega
           case rel=>exact ⟨p + 1,_,by go_num,HPl.out,Nat.le_refl _,HW',HO',⟨by rw [HE.out];exact HR'.out⟩,HL',⟨by rw [HE.out];have:=HEl.out;omega⟩⟩
          | true =>
           have hout:=hr.mp rfl
           have HE : Aside0 (ext Q (L.take (p + 1)) = ext Q (L.take p) ++ [z]):=⟨by rw [HExt.out,if_neg hout]⟩
           have HLN : Aside0 ((nats (ext Q (L.take p))).length < 17592186044415):=⟨by rw [nats_len];have:=HEl.out;have:=HPl.out;have:=HLb.out.1;omega⟩
           have HBsz : Aside0 (w.heap.size ≤ w'.heap.size):=⟨HW'.out.grown.size⟩
           clear hr hout
           go_wp2_with (first|((with_reducible refine gate_builtin (b:=.append) (xs:=#[.tmp 94,.tmp 96]) rfl ?_);at_builtin;refine Kd.R_append (Kd.int .i64) (w0:=w') w.heap.size rfl (.tmp 94) (.tmp 96) 31 3 (.int .i64 0) 8 rfl Tryd.underlying31 info3 rfl (by decide) (by omega) _ (nats (ext Q (L.take p))) (z : Int) [.int .i64 (z : Int)] (fun _=>True) (fun _=>False) rfl rfl ?aP (fun _ hk=>hk.elim) (fun _ _=>trivial) ?aO ?aB ?aS ?aL ?_;(case aP=>exact rfl);(case aO=>exact HR'.out);(case aB=>exact Below.refl _ _);(case aS=>exact HBsz.out);(case aL=>have:=HLN.out;omega);intro v159 w24 ho hb hg hat;rw [← nats_snoc] at ho;have HO2:=Aside0.mk ho;have HG2:=Aside0.mk hg;have HA2:=Aside0.mk hat;clear ho hb hg hat))
           have HWn:=Aside0.mk (HW'.out.row HR'.out (Nat.le_refl _) HG2.out)
           have HOn:=Aside0.mk (HO'.out.row HW'.out.mem HR'.out HG2.out)
           have HLn:=Aside0.mk (row_row HL'.out HG2.out HA2.out)
           go_wp2_with fail
           go_roundg (L.length - (p + 1))
           case measure=>have:=HPl.out;omega
           case rel=>exact ⟨p + 1,_,by go_num,HPl.out,Nat.le_refl _,HWn,HOn,⟨by rw [HE.out];exact HO2.out⟩,HLn,⟨by rw [HE.out,List.length_append,List.length_singleton];have:=HEl.out;omega⟩⟩
         ·obtain rfl : p = L.length:=by omega
          have hpl0 : ¬ (L.length : Int) < (L.length : Int):=by omega
          have HOn : Aside0 (Own Bf w w1.heap.size (fun y=>y ∈ ext Q L) vs wr):=⟨⟨HOw.out.lo,HOw.out.obj,HOw.out.free,HOw.out.set.congr fun y _=>by rw [List.take_length]⟩⟩
          have HRn : Aside0 (Kd.R (Kd.int .i64) 3 wr w.heap.size (fun _=>True) u22 (nats (ext Q L))):=⟨by have h:=HR.out;rw [List.take_length] at h;exact h⟩
          have HLe : Aside0 (i' + 1 ≤ (ext Q L).length):=⟨by
           obtain ⟨m',hm'⟩:=ext_head L Q
           rw [hm',List.length_append]
           have:=HLt.out
           omega⟩
          have hii : (i' : Int) + 1 ≤ 513:=by have:=HLt.out;have:=HQ5.out;omega
          clear HOw HR
          go_wp2_with fail
          go_roundg (513 - (i' + 1))
          case measure=>have:=HLt.out;have:=HQ5.out;omega
          case rel=>exact ⟨i' + 1,_,_,by go_num,Nat.le_refl _,HLe.out,HStep,HWk,HOn,HRn⟩
       ·obtain rfl : i' = Q.length:=by omega
        have hlt0 : ¬ (Q.length : Int) < (Q.length : Int):=by omega
        have HDone:=Aside0.mk (fun y=>HQ.out.done y)
        have HO5 : Aside0 (Own Bf w w1.heap.size (fun y=>Plus (meets l s m) i y) ws wr):=⟨⟨HOw.out.lo,HOw.out.obj,HOw.out.free,HOw.out.set.congr fun y _=>HDone.out y⟩⟩
        clear HOw
        have hcall:=add_calls w1.heap.size i (by have:=HI.out;have:=HS.out;omega) _ _ HO5.out.set wr HO5.out.obj
        go_wp2_with fail
        refine hcall.mono ?_
        rintro e w' ⟨r,rfl,_,ws',hS',hw',hg',-⟩
        dsimp only
        have hF:=HO5.out.free.same (hg'.block _ (map_lt HWk.out.mem) (fun e=>map_ne HWk.out.mem HO5.out.obj (Option.some.inj e).symm))
        have HW':=Aside0.mk (HWk.out.set HO5.out hg')
        have HO' : Aside0 (Own Bf w w1.heap.size (meets l s n i) ws' w'):=⟨⟨HO5.out.lo,hw',hF,hS'.congr fun y _=>(HS2.out y).symm⟩⟩
        clear hS' hw' hg' hF
        go_wp2_with fail
        go_meet
        exact ⟨_,ws',rfl,HW',HO'⟩
   ·as_aux_lemma =>
    have HOne:=HOk.out.one n HN.out (by rw [HXE.out];show (5 : Int) ≤ 6;decide)
    have HKid:=HOk.out.kid n HN.out
    rw [HXE.out] at HOne HKid
    obtain ⟨k1,hk1⟩:=HOne
    have hk1 : f3 = [k1]:=hk1
    subst hk1
    have hz:=HKid k1 (by simp)
    obtain ⟨m,rfl⟩ : ∃ m : Nat,k1 = (m : Int):=⟨k1.toNat,by omega⟩
    have HMn : Aside0 (m < n):=⟨by omega⟩
    clear hz HKid
    have HFw : Aside0 (Fwd (meets l s m) s.size):=⟨meets_fwd HOk.out s m (by have:=HN.out;have:=HMn.out;omega)⟩
    have HS2 : Aside0 (∀ j,meets l s n i j ↔ Plus (meets l s m) i j):=⟨fun j=>by
     rw [HMeet.out,if_neg (by decide),if_neg (by decide),if_neg (by decide),if_neg (by decide),if_pos rfl]
     show Plus (meets l s ((m : Int)).toNat) i j ↔ _
     rw [Int.toNat_natCast]⟩
    have HT0:=Aside0.mk HBase.out.tabs
    obtain ⟨ad3,c,e0,_,hK,hcell⟩:=Kd.C_get (Kd.C_below HRK.out HWk.out.mem.below) (0 : Int) 0 (by omega) (by simp)
    subst e0
    have hK : c = [.int .i64 (([(m : Int)] : List Int).getD ((0 : Int)).toNat 0)]:=hK
    subst hK
    have hce:=hcell 0 _ rfl
    have hce2 : w2.cell? ad3 = some (.int .i64 m):=by simpa [Kd.int,Kd.scalar,Addr.add] using hce
    replace hce : w2.cell? (ad3.add 0) = some (.int .i64 m):=by simpa [Kd.int,Kd.scalar] using hce
    clear hcell
    have hcall:=HIH.out m HMn.out i HI.out w2 HWk.out.mem
    go_wp2_with fail
    refine hcall.mono ?_
    rintro e w3 ⟨b2,ws2,rfl,hb0,hbw,hbS,hM3,hG3,hnF,hFr⟩
    dsimp only
    have HOw3:=Aside0.mk (HOw.out.call HWk.out.mem hG3 hFr)
    have HWk3:=Aside0.mk (HWk.out.call hM3 hG3 hFr)
    have hlist:=list_calls b2 ws2 _ hbS w3 hbw (HT0.out.below HWk3.out.mem.below)
    clear hcall hb0 hbw hbS hM3 hG3 hnF hFr HOw HWk hce hce2 hn0 hn1 hn2 hn3 hm0 hm1 hm2
    go_wp2_with fail
    refine hlist.mono ?_
    rintro e w4 ⟨v4,rfl,hR4,hB4⟩
    dsimp only
    obtain ⟨Q0,hQ0⟩ : ∃ Q0,Q0 = upto (meets l s m i) (s.size + 1):=⟨_,rfl⟩
    rw [upto_big (n:=s.size + 1) (fun y hy=>by have:=HFw.out i y HI.out hy;omega) (by have:=HS.out;omega),← hQ0] at hR4
    have HQ0 : Aside0 (Re.Queue (meets l s m) i (s.size + 1) Q0 0):=⟨by rw [hQ0];exact Queue.start fun y hy=>by have:=HFw.out i y HI.out hy;omega⟩
    have HQl : Aside0 (Q0.length ≤ 501):=⟨by have:=HQ0.out.len;have:=HS.out;omega⟩
    obtain ⟨A4,c4,rfl,hl4,hC4⟩:=Kd.R_reads hR4
    rw [nats_len] at hR4 hl4 ⊢
    have HR4:=Aside0.mk hR4
    have HOw4:=Aside0.mk (HOw3.out.move HWk3.out.mem hB4)
    have HWk4:=Aside0.mk (HWk3.out.move hB4)
    replace HR4:=Aside0.mk (Kd.R_lower HR4.out HWk3.out.grown.size)
    clear hlist hQ0 hR4 hB4 hl4 hC4 HWk3 HOw3
    go_wp2_with fail
    go_loopg [61] Q0.length (fun g2 v61 wr2=>∃ (p : Nat) (vs : Nat → Nat),v61 = .int .i64 p ∧ p ≤ Q0.length ∧ Q0.length - p ≤ g2 ∧ Aside0 (Work l s (some ad) c0 Bm Bf w0 w n i (w1.heap.size + 1) ⟨6,f1,f2,[(m : Int)]⟩ (some ad3) c3 wr2) ∧ Aside0 (Own Bf w w1.heap.size (fun y=>y ∈ Q0.take p) vs wr2) ∧ Aside0 (Kd.R (Kd.int .i64) 3 wr2 w.heap.size (fun _=>True) (.slice A4 Q0.length c4) (nats Q0)))
    case atStart=>exact ⟨0,_,rfl,by omega,by omega,HWk4,⟨⟨HOw4.out.lo,HOw4.out.obj,HOw4.out.free,HOw4.out.set.congr fun y _=>by simp⟩⟩,HR4⟩
    case round =>
     clear HWk4 HOw4 HR4
     obtain ⟨p,vs,rfl,hp,hg2,HWk,HOw,HR4⟩:=hrel
     by_cases hpl : p < Q0.length
     ·have hpl0 : (p : Int) < (Q0.length : Int):=by omega
      have HPl:=Aside0.mk hpl
      obtain ⟨ad4,e4,hcp⟩:=row_get HR4.out p (by rw [nats_len];exact hpl)
      subst e4
      rw [nats_get Q0 p hpl] at hcp
      obtain ⟨htk,hmem⟩:=take_next Q0 p hpl
      generalize Q0.getD p 0 = x at hcp htk hmem
      have hxl:=HQ0.out.lt x hmem
      have hcall:=add_calls w1.heap.size x (by have:=HS.out;omega) _ _ HOw.out.set wr HOw.out.obj
      have HTk:=Aside0.mk htk
      clear htk hmem hxl
      go_wp2_with fail
      refine hcall.mono ?_
      rintro e w' ⟨r,rfl,_,ws',hS',hw',hg',-⟩
      dsimp only
      have hF:=HOw.out.free.same (hg'.block _ (map_lt HWk.out.mem) (fun e=>map_ne HWk.out.mem HOw.out.obj (Option.some.inj e).symm))
      have HW':=Aside0.mk (HWk.out.set HOw.out hg')
      have HR':=Aside0.mk (row_grown2 HR4.out HOw.out.obj hg')
      have HO' : Aside0 (Own Bf w w1.heap.size (fun y=>y ∈ Q0.take (p + 1)) ws' w'):=⟨⟨HOw.out.lo,hw',hF,hS'.congr fun y _=>by rw [HTk.out];simp⟩⟩
      have hpi : (p : Int) + 1 ≤ 513:=by have:=HPl.out;have:=HQl.out;omega
      clear hS' hw' hg' hF hcp hcall
      go_wp2_with fail
      go_roundg (Q0.length - (p + 1))
      case measure=>have:=HPl.out;omega
      case rel=>exact ⟨p + 1,_,by go_num,HPl.out,Nat.le_refl _,HW',HO',HR'⟩
     ·obtain rfl : p = Q0.length:=by omega
      have hpl0 : ¬ (Q0.length : Int) < (Q0.length : Int):=by omega
      have HOw5 : Aside0 (Own Bf w w1.heap.size (fun y=>y ∈ Q0) vs wr):=⟨⟨HOw.out.lo,HOw.out.obj,HOw.out.free,HOw.out.set.congr fun y _=>by rw [List.take_length]⟩⟩
      clear HOw
      go_wp2_with fail
      go_loopg [22,25] 513 (fun gg v22 v25 wr=>∃ (i' : Nat) (Q : List Nat) (ws : Nat → Nat),v25 = .int .i64 i' ∧ 513 - i' ≤ gg ∧ i' ≤ Q.length ∧ Aside0 (Re.Queue (meets l s m) i (s.size + 1) Q i') ∧ Aside0 (Work l s (some ad) c0 Bm Bf w0 w n i (w1.heap.size + 1) ⟨6,f1,f2,[(m : Int)]⟩ (some ad3) c3 wr) ∧ Aside0 (Own Bf w w1.heap.size (fun y=>y ∈ Q) ws wr) ∧ Aside0 (Kd.R (Kd.int .i64) 3 wr w.heap.size (fun _=>True) v22 (nats Q)))
      case atStart=>exact ⟨0,Q0,vs,rfl,by omega,by omega,HQ0,HWk,HOw5,HR4⟩
      case round =>
       clear HWk HOw5 HR4 HQ0
       obtain ⟨i',Q,ws,rfl,hg,hi',HQ,HWk,HOw,HR⟩:=hrel
       obtain ⟨A5,c5,hv,_,_⟩:=Kd.R_reads HR.out
       rw [nats_len] at hv
       subst hv
       have HQ5 : Aside0 (Q.length ≤ 501):=⟨by have:=HQ.out.len;have:=HS.out;omega⟩
       have hcl:=HWk.out.loc
       have hn3 : wr.cell? ⟨w1.heap.size + 1,3,none⟩ = some (.slice (some ad3) 1 c3):=by simp [World.cell?,hcl]
       have hn0 : wr.cell? ⟨w1.heap.size + 1,0,none⟩ = some (.int .i64 6):=by simp [World.cell?,hcl]
       clear hcl
       by_cases hlt : i' < Q.length
       ·have hlt0 : (i' : Int) < (Q.length : Int):=by omega
        have HLt:=Aside0.mk hlt
        obtain ⟨ad5,e5,hcq⟩:=row_get HR.out i' (by rw [nats_len];exact hlt)
        subst e5
        rw [nats_get Q i' hlt] at hcq
        have HStep:=Aside0.mk (HQ.out.step hlt (fun q x hq hx=>by have:=HFw.out q x (by omega) hx;omega))
        have hmem:=(take_next Q i' hlt).2
        generalize Q.getD i' 0 = x at hcq HStep hmem
        have HXs : Aside0 (x ≤ s.size):=⟨by have:=HQ.out.lt x hmem;omega⟩
        obtain ⟨ad3',cc,e0,_,hK,hcell⟩:=Kd.C_get (Kd.C_below HRK.out HWk.out.mem.below) (0 : Int) 0 (by omega) (by simp)
        obtain rfl : ad3 = ad3':=Option.some.inj e0
        have hK : cc = [.int .i64 (([(m : Int)] : List Int).getD ((0 : Int)).toNat 0)]:=hK
        subst hK
        have hce:=hcell 0 _ rfl
        replace hce : wr.cell? ad3 = some (.int .i64 m):=by simpa [Kd.int,Kd.scalar,Addr.add] using hce
        clear hcell e0 hmem
        go_upto_region 16 with fail
        refine wp_region_aside_at (v:=.int .i64 0) 9 12 (by kernel_rfl) rfl (by kernel_rfl) (by kernel_rfl) (by kernel_rfl) (fun _ _ _ h=>h) (Or.inl ⟨by rfl,fun w=>?_⟩) (by kernel_rfl) (by kernel_rfl) ?_
        ·first|rfl|(go_simp;done)
        simp only [List.take_succ_cons,List.take_zero,List.drop_succ_cons,List.drop_zero]
        repeat still_step
        try refine wpStill_nil ?_
        change wpList _ _ _ _ _ wr.drew
        have hdr : Below wr.heap.size wr wr.drew:=(Below.refl _ _).drew
        replace HOw:=Aside0.mk (HOw.out.move HWk.out.mem hdr)
        replace HWk:=Aside0.mk (HWk.out.move hdr)
        replace HR:=Aside0.mk (Kd.R_below HR.out hdr)
        clear hdr hce hcq hn3 hn0
        generalize wr.drew = w6 at *
        have hcall:=HIH.out m HMn.out x HXs.out w6 HWk.out.mem
        go_wp2_with fail
        refine hcall.mono ?_
        rintro e w7 ⟨b2,ws2,rfl,hb0,hbw,hbS,hM3,hG3,hnF,hFr⟩
        dsimp only
        replace HR:=Aside0.mk (row_call HR.out HWk.out.mem hG3)
        replace HOw:=Aside0.mk (HOw.out.call HWk.out.mem hG3 hFr)
        replace HWk:=Aside0.mk (HWk.out.call hM3 hG3 hFr)
        have hlist:=list_calls b2 ws2 _ hbS w7 hbw (HT0.out.below HWk.out.mem.below)
        clear hcall hb0 hbw hbS hM3 hG3 hnF hFr
        go_wp2_with fail
        refine hlist.mono ?_
        rintro e w8 ⟨v4,rfl,hR4,hB4⟩
        dsimp only
        obtain ⟨L,hL⟩ : ∃ L,L = upto (meets l s m x) (s.size + 1):=⟨_,rfl⟩
        rw [upto_big (n:=s.size + 1) (fun y hy=>by have:=HFw.out x y HXs.out hy;omega) (by have:=HS.out;omega),← hL] at hR4
        rw [← hL] at HStep
        have HLb : Aside0 (L.length ≤ 501 ∧ ∀ y,y ∈ L → y ≤ s.size):=⟨by rw [hL];have:=upto_len (meets l s m x) (s.size + 1);have:=HS.out;omega,fun y hy=>by rw [hL] at hy;have:=(mem_upto.mp hy).1;omega⟩
        obtain ⟨inner,hown⟩:=Kd.R_own HR.out
        have hR5:=Kd.R_mono (Kd.R_new hR4 hown) (fun k hk=>hk.2)
        obtain ⟨A6,c6,rfl,hl6,hC6⟩:=Kd.R_reads hR4
        rw [nats_len L] at hR5 hl6 ⊢
        have HL5:=Aside0.mk hR5
        replace HR:=Aside0.mk (Kd.R_below HR.out hB4)
        replace HOw:=Aside0.mk (HOw.out.move HWk.out.mem hB4)
        replace HWk:=Aside0.mk (HWk.out.move hB4)
        obtain ⟨bl,hbl⟩ : ∃ bl,bl = w7.heap.size:=⟨_,rfl⟩
        rw [← hbl] at HL5
        clear hlist hL hR4 hR5 hB4 hl6 hC6 hown hbl
        go_wp2_with fail
        go_loopg [22,87] L.length (fun g2 v22 v87 wr2=>∃ (p : Nat) (vs : Nat → Nat),v87 = .int .i64 p ∧ p ≤ L.length ∧ L.length - p ≤ g2 ∧ Aside0 (Work l s (some ad) c0 Bm Bf w0 w n i (w1.heap.size + 1) ⟨6,f1,f2,[(m : Int)]⟩ (some ad3) c3 wr2) ∧ Aside0 (Own Bf w w1.heap.size (fun y=>y ∈ ext Q (L.take p)) vs wr2) ∧ Aside0 (Kd.R (Kd.int .i64) 3 wr2 w.heap.size (fun _=>True) v22 (nats (ext Q (L.take p)))) ∧ Aside0 (Kd.R (Kd.int .i64) 3 wr2 bl (fun k=>some k ≠ v22.ownBlock) (.slice A6 L.length c6) (nats L)) ∧ Aside0 ((ext Q (L.take p)).length ≤ 501 + p))
        case atStart=>exact ⟨0,ws,rfl,by omega,by omega,HWk,HOw,HR,HL5,HQ5⟩
        case round =>
         clear HWk HOw HR HL5
         obtain ⟨p,vs,rfl,hp,hg2,HWk,HOw,HR,HL5,HEl⟩:=hrel
         by_cases hpl : p < L.length
         ·have hpl0 : (p : Int) < (L.length : Int):=by omega
          have HPl:=Aside0.mk hpl
          obtain ⟨ad6,e6,hcp⟩:=row_get (row_true HL5.out) p (by rw [nats_len];exact hpl)
          subst e6
          rw [nats_get L p hpl] at hcp
          have hext:=ext_take Q L p hpl
          have hmem:=(take_next L p hpl).2
          generalize L.getD p 0 = z at hcp hext hmem
          have hzl:=HLb.out.2 z hmem
          have hcall:=add_calls w1.heap.size z (by have:=HS.out;omega) _ _ HOw.out.set wr HOw.out.obj
          have HExt:=Aside0.mk hext
          have hpi : (p : Int) + 1 ≤ 513:=by have:=HLb.out.1;omega
          clear hext hmem hzl
          go_wp2_with fail
          refine hcall.mono ?_
          rintro e w' ⟨r,rfl,hr,ws',hS',hw',hg',-⟩
          dsimp only
          have hF:=HOw.out.free.same (hg'.block _ (map_lt HWk.out.mem) (fun e=>map_ne HWk.out.mem HOw.out.obj (Option.some.inj e).symm))
          have HW':=Aside0.mk (HWk.out.set HOw.out hg')
          have HR':=Aside0.mk (row_grown2 HR.out HOw.out.obj hg')
          have HL':=Aside0.mk (row_grown2 HL5.out HOw.out.obj hg')
          have HO' : Aside0 (Own Bf w w1.heap.size (fun y=>y ∈ ext Q (L.take (p + 1))) ws' w'):=⟨⟨HOw.out.lo,hw',hF,hS'.congr fun y _=>by
           rw [HExt.out]
           split
           ·rename_i h
            constructor
            ·rintro (h1|h1)
             ·exact h1
             ·rw [h1];exact h
            ·exact .inl
           ·simp⟩⟩
          clear hS' hw' hg' hF hcp hcall HWk HOw HR HL5
          cases r with
          | false =>
           have hin : z ∈ ext Q (L.take p):=Classical.byContradiction fun h=>absurd (hr.mpr h) (by decide)
           have HE : Aside0 (ext Q (L.take (p + 1)) = ext Q (L.take p)):=⟨by rw [HExt.out,if_pos hin]⟩
           clear hr hin
           go_wp2_with fail
           go_roundg (L.length - (p + 1))
           case measure=>have:=HPl.out;omega
           case rel=>exact ⟨p + 1,_,by go_num,HPl.out,Nat.le_refl _,HW',HO',⟨by rw [HE.out];exact HR'.out⟩,HL',⟨by rw [HE.out];have:=HEl.out;omega⟩⟩
          | true =>
           have hout:=hr.mp rfl
           have HE : Aside0 (ext Q (L.take (p + 1)) = ext Q (L.take p) ++ [z]):=⟨by rw [HExt.out,if_neg hout]⟩
           have HLN : Aside0 ((nats (ext Q (L.take p))).length < 17592186044415):=⟨by rw [nats_len];have:=HEl.out;have:=HPl.out;have:=HLb.out.1;omega⟩
           have HBsz : Aside0 (w.heap.size ≤ w'.heap.size):=⟨HW'.out.grown.size⟩
           clear hr hout
           go_wp2_with (first|((with_reducible refine gate_builtin (b:=.append) (xs:=#[.tmp 94,.tmp 96]) rfl ?_);at_builtin;refine Kd.R_append (Kd.int .i64) (w0:=w') w.heap.size rfl (.tmp 94) (.tmp 96) 31 3 (.int .i64 0) 8 rfl Tryd.underlying31 info3 rfl (by decide) (by omega) _ (nats (ext Q (L.take p))) (z : Int) [.int .i64 (z : Int)] (fun _=>True) (fun _=>False) rfl rfl ?aP (fun _ hk=>hk.elim) (fun _ _=>trivial) ?aO ?aB ?aS ?aL ?_;(case aP=>exact rfl);(case aO=>exact HR'.out);(case aB=>exact Below.refl _ _);(case aS=>exact HBsz.out);(case aL=>have:=HLN.out;omega);intro v159 w24 ho hb hg hat;rw [← nats_snoc] at ho;have HO2:=Aside0.mk ho;have HG2:=Aside0.mk hg;have HA2:=Aside0.mk hat;clear ho hb hg hat))
           have HWn:=Aside0.mk (HW'.out.row HR'.out (Nat.le_refl _) HG2.out)
           have HOn:=Aside0.mk (HO'.out.row HW'.out.mem HR'.out HG2.out)
           have HLn:=Aside0.mk (row_row HL'.out HG2.out HA2.out)
           go_wp2_with fail
           go_roundg (L.length - (p + 1))
           case measure=>have:=HPl.out;omega
           case rel=>exact ⟨p + 1,_,by go_num,HPl.out,Nat.le_refl _,HWn,HOn,⟨by rw [HE.out];exact HO2.out⟩,HLn,⟨by rw [HE.out,List.length_append,List.length_singleton];have:=HEl.out;omega⟩⟩
         ·obtain rfl : p = L.length:=by omega
          have hpl0 : ¬ (L.length : Int) < (L.length : Int):=by omega
          have HOn : Aside0 (Own Bf w w1.heap.size (fun y=>y ∈ ext Q L) vs wr):=⟨⟨HOw.out.lo,HOw.out.obj,HOw.out.free,HOw.out.set.congr fun y _=>by rw [List.take_length]⟩⟩
          have HRn : Aside0 (Kd.R (Kd.int .i64) 3 wr w.heap.size (fun _=>True) u22 (nats (ext Q L))):=⟨by have h:=HR.out;rw [List.take_length] at h;exact h⟩
          have HLe : Aside0 (i' + 1 ≤ (ext Q L).length):=⟨by
           obtain ⟨m',hm'⟩:=ext_head L Q
           rw [hm',List.length_append]
           have:=HLt.out
           omega⟩
          have hii : (i' : Int) + 1 ≤ 513:=by have:=HLt.out;have:=HQ5.out;omega
          clear HOw HR
          go_wp2_with fail
          go_roundg (513 - (i' + 1))
          case measure=>have:=HLt.out;have:=HQ5.out;omega
          case rel=>exact ⟨i' + 1,_,_,by go_num,Nat.le_refl _,HLe.out,HStep,HWk,HOn,HRn⟩
       ·obtain rfl : i' = Q.length:=by omega
        have hlt0 : ¬ (Q.length : Int) < (Q.length : Int):=by omega
        have HDone:=Aside0.mk (fun y=>HQ.out.done y)
        have HO5 : Aside0 (Own Bf w w1.heap.size (fun y=>Plus (meets l s m) i y) ws wr):=⟨⟨HOw.out.lo,HOw.out.obj,HOw.out.free,HOw.out.set.congr fun y _=>HDone.out y⟩⟩
        clear HOw
        have HO' : Aside0 (Own Bf w w1.heap.size (meets l s n i) ws wr):=⟨⟨HO5.out.lo,HO5.out.obj,HO5.out.free,HO5.out.set.congr fun y _=>(HS2.out y).symm⟩⟩
        go_wp2_with fail
        go_meet
        exact ⟨_,ws,rfl,HWk,HO'⟩
  case rest =>
   obtain ⟨b,ws,rfl,HWc,HOc⟩:=hcut
   have hkc:=HWc.out.key
   have hkc0 : wc.cell? ⟨w.heap.size,0,none⟩ = some (.int .i64 n):=by simp [World.cell?,hkc]
   have hkc1 : wc.cell? ⟨w.heap.size,1,none⟩ = some (.int .i64 i):=by simp [World.cell?,hkc]
   obtain ⟨hm0,hm1,hm2⟩:=HWc.out.mem.cell
   have hdr : Below wc.heap.size wc wc.drew:=(Below.refl _ _).drew
   replace HOc : Aside0 (Own Bf w b (meets l s n i) ws wc.drew):=⟨HOc.out.move HWc.out.mem hdr⟩
   replace HWc : Aside0 (Work l s (some ad) c0 Bm Bf w0 w n i (w1.heap.size + 1) x A3 c3 wc.drew):=⟨HWc.out.move hdr⟩
   obtain ⟨o,hst,hM3,hG3,hZ3,hN3,hF3⟩:=HWc.out.mem.map.store (by have:=HL.out;omega) (by have:=HS.out;omega) HN.out HI.out (Nat.le_trans HWc.out.lo HOc.out.lo) HOc.out.obj HOc.out.set
   have hb3:=hG3.block b (Array.getElem?_eq_some_iff.mp HOc.out.obj).1 (fun e=>map_ne HWc.out.mem HOc.out.obj (Option.some.inj e))
   have hbm3:=hG3.block Bm (Array.getElem?_eq_some_iff.mp HWc.out.mem.obj).1 (fun e=>map_ne HWc.out.mem HWc.out.mem.obj (Option.some.inj e))
   unfold pkey at hst
   generalize setBlock wc.drew Bf o = w3 at hst hM3 hG3 hZ3 hN3 hF3 hb3 hbm3
   have HRes : Aside0 (w0.heap.size ≤ b ∧ w3.heap[b]? = some (wobj ws) ∧ IsSet ws (meets l s n i) ∧ Mem l s (some ad) c0 Bm Bf w0 w3 ∧ w.grownBy w3 (some Bf) ∧ ¬ Free Bf b w3 ∧ ∀ r,r < w.heap.size → Free Bf r w → Free Bf r w3):=⟨⟨Nat.le_trans HWc.out.lo HOc.out.lo,hb3.trans HOc.out.obj,HOc.out.set,{
    below:=HWc.out.mem.below.grown hG3 HWc.out.mem.below.size (fun k e=>by rw [← Option.some.inj e];exact HWc.out.mem.bf)
    bm:=HWc.out.mem.bm
    bf:=HWc.out.mem.bf
    obj:=hbm3.trans HWc.out.mem.obj
    map:=hM3 },HWc.out.grown.trans hG3,hN3,fun r hr hf=>hF3 r (by have:=HOc.out.lo;omega) (HWc.out.free r hr hf)⟩⟩
   clear hM3 hG3 hZ3 hN3 hF3 hb3 hbm3 hkc hdr hk0 hk1 hc0 hc1 hc2 hx0 hx1 hx2 hx3 hlook
   go_wp2_with fail
   go_region
   go_wp2_with fail
   go_ret
   exact ⟨b,ws,rfl,HRes.out.1,HRes.out.2.1,HRes.out.2.2.1,HRes.out.2.2.2.1,HRes.out.2.2.2.2.1,HRes.out.2.2.2.2.2.1,HRes.out.2.2.2.2.2.2⟩
 ·have HF : Aside0 (w0.heap.size ≤ b ∧ w1.heap[b]? = some (wobj ws) ∧ IsSet ws (meets l s n i) ∧ ¬ Free Bf b w1):=⟨⟨hb0,hbw,hbS,hbF⟩⟩
  clear hb0 hbw hbS hbF
  go_quiet (fail)
  go_wp2_with fail
  go_ret
  exact ⟨b,ws,rfl,HF.out.1,HF.out.2.1,HF.out.2.2.1,HM1.out.move ⟨rfl,rfl,rfl,Nat.le_refl _,fun _ _=>rfl⟩,⟨HG1.out.os,HG1.out.tape,HG1.out.output,HG1.out.size,HG1.out.block⟩,HF.out.2.2.2,HF1.out⟩
end Go.Proofs.YtlakdfbfkbndiaaDoor.Q
namespace Go.Proofs.YtlakdfbfkbndiaaDoor.Q
open Go.RowKit Go.Proofs.YtlakdfbfkbndiaaDoor.Re Go.Proofs.YtlakdfbfkbndiaaDoorW.PrintWords Go.Proofs.YtlakdfbfkbndiaaDoorW.PrintLast Go.Proofs.YtlakdfbfkbndiaaDoorW.PrintMore
noncomputable def endsL (l : List S49) (s : ByteArray) (i : Nat) : List Nat:=upto (meets l s (l.length - 1) i) (s.size + 1)
noncomputable def findV (l : List S49) (s : ByteArray) : Nat → Nat → Int × Int
 | 0,_=>(-1,0)
 | d + 1,i=>if (endsL l s i).length = 0 then findV l s d (i + 1) else ((i : Int),(((endsL l s i).getD ((endsL l s i).length - 1) 0 : Nat) : Int))
end Go.Proofs.YtlakdfbfkbndiaaDoor.Q
namespace Go.Proofs.YtlakdfbfkbndiaaDoor.Q
open Go.RowKit Go.Proofs.YtlakdfbfkbndiaaDoor.Re Go.Proofs.YtlakdfbfkbndiaaDoorW.PrintWords Go.Proofs.YtlakdfbfkbndiaaDoorW.PrintLast Go.Proofs.YtlakdfbfkbndiaaDoorW.PrintMore
section
variable {l : List S49} {s : ByteArray} {A0 : Option Addr} {c0 Bm Bf : Nat} {w0 : World}
theorem ends_calls (hB : Base l s A0 c0 w0) (n : Nat) : n < l.length → EndsAt l s A0 c0 Bm Bf w0 n:=by
 induction n using Nat.strongRecOn with
 | _ n ih=>exact fun hn=>ends_step hB n hn fun m hm=>ih m hm (by omega)
set_option maxRecDepth 100000 in
theorem at_calls (hB : Base l s A0 c0 w0) (i : Nat) (hi : i ≤ s.size) (w : World) (hM : Mem l s A0 c0 Bm Bf w0 w) :
  Calls Tryd.prog 45 #[.pointer (some ⟨Bm,0,none⟩),.int .i64 i] w fun e w'=>∃ v,e = .returned v ∧ Kd.R (Kd.int .i64) 3 w' w.heap.size (fun _=>True) v (nats (endsL l s i)) ∧ Mem l s A0 c0 Bm Bf w0 w' ∧ w.grownBy w' (some Bf):=by
 have hcall:=ends_calls (Bm:=Bm) (Bf:=Bf) hB (l.length - 1) (by have:=hB.ok.pos;omega) i hi w hM
 have e1 : ((l.length - 1 : Nat) : Int) = (l.length : Int) - 1:=by have:=hB.ok.pos;omega
 rw [e1] at hcall
 have h1 : (1 : Int) ≤ (l.length : Int):=by have:=hB.ok.pos;omega
 have h2 : (l.length : Int) ≤ 200:=by have:=hB.ok.len;omega
 obtain ⟨hm0,hm1,hm2⟩:=hM.cell
 have HB:=Aside0.mk hB
 have HI:=Aside0.mk hi
 clear hB hM hi e1
 go_enter Tryd.func45,Tryd.ntmps45
 go_wp2_with fail
 refine hcall.mono ?_
 rintro e w3 ⟨b2,ws2,rfl,hb0,hbw,hbS,hM3,hG3,hnF,hFr⟩
 dsimp only
 have hlist:=list_calls b2 ws2 _ hbS w3 hbw (HB.out.tabs.below hM3.below)
 have HM3:=Aside0.mk hM3
 have HG3:=Aside0.mk hG3
 clear hcall hb0 hbw hbS hM3 hG3 hnF hFr
 go_wp2_with fail
 refine hlist.mono ?_
 rintro e w4 ⟨v4,rfl,hR4,hB4⟩
 dsimp only
 rw [upto_big (n:=s.size + 1) (fun y hy=>by have:=meets_fwd HB.out.ok s (l.length - 1) (by have:=HB.out.ok.pos;omega) i y HI.out hy;omega) (by have:=HB.out.sz;omega)] at hR4
 have HR:=Aside0.mk hR4
 have HM4:=Aside0.mk (HM3.out.move hB4)
 have HG4 : Aside0 (w.grownBy w4 (some Bf)):=⟨HG3.out.trans ⟨hB4.os,hB4.tape,hB4.output,hB4.size,fun k hk _=>hB4.block k hk⟩⟩
 clear hlist hR4 hB4
 go_wp2_with fail
 go_ret
 exact ⟨v4,rfl,Kd.R_lower HR.out HG3.out.size,HM4.out,HG4.out⟩
end
end Go.Proofs.YtlakdfbfkbndiaaDoor.Q
namespace Go.Proofs.YtlakdfbfkbndiaaDoor.Q
open Go.RowKit Go.Proofs.YtlakdfbfkbndiaaDoor.Re Go.Proofs.YtlakdfbfkbndiaaDoorW.PrintWords Go.Proofs.YtlakdfbfkbndiaaDoorW.PrintLast Go.Proofs.YtlakdfbfkbndiaaDoorW.PrintMore
theorem MapOk.empty {D : Nat → Nat → Nat → Prop} {N L B0 Bf : Nat} {w : World} (h : w.heap[Bf]? = some (.map #[] 0)) : MapOk D N L B0 Bf w :=
 ⟨#[],0,h,by simp,fun e he=>by simp at he⟩
theorem heap_last (w : World) (o : Obj) : (w.alloc o).heap[w.heap.size]? = some o:=by
 show (w.heap.push o)[w.heap.size]? = some o
 simp
set_option maxRecDepth 100000 in
theorem new_calls (l : List S49) (s : ByteArray) (A0 : Option Addr) (c0 : Nat) (w : World) (k : Nat) (b : Bool) (hr : Kd.C k49 w A0 l.length l) (hc : l.length ≤ c0) (hok : impl_ReOk.f k l = some b) :
  Calls Tryd.prog 41 #[.slice A0 l.length c0,.string s] w fun e w' =>
   Below w.heap.size w w' ∧ ((b = true ∧ s.size ≤ 500 ∧ ∃ Bm Bf,e = .returned (.pointer (some ⟨Bm,0,none⟩)) ∧ Mem l s A0 c0 Bm Bf w w') ∨ (¬ (b = true ∧ s.size ≤ 500) ∧ e = .returned (.pointer none))):=by
 have hcall:=impl_ReOk.calls k A0 c0 l b w hr hc hok
 have hmm:=@run_makeMap Tryd.prog
 have HD:=Aside0.mk (Below.refl w.heap.size w)
 cases b with
 | false =>
  go_enter Tryd.func41,Tryd.ntmps41
  go_wp2_with fail
  refine hcall.mono ?_
  rintro e w1 ⟨rfl,hb⟩
  dsimp only
  have HB:=Aside0.mk hb
  clear hcall hb
  go_wp2_with fail
  go_ret
  exact ⟨HB.out,.inr ⟨by simp,rfl⟩⟩
 | true =>
  by_cases hs : s.size ≤ 500
  ·have hs0 : ((500 : Int) < (s.size : Int)) = False:=eq_false (by omega)
   go_enter Tryd.func41,Tryd.ntmps41
   go_wp2_with fail
   refine hcall.mono ?_
   rintro e w1 ⟨rfl,hb⟩
   dsimp only
   have HB:=Aside0.mk hb
   clear hcall hb
   go_wp2_with fail
   go_ret
   have h1 : ((w1.alloc (.map #[] 0)).alloc (.cells #[.slice A0 l.length c0,.string s,.map (some w1.heap.size)] 90)).heap[w1.heap.size]? = some (.map #[] 0):=(Below.heap_alloc _ _ _ (by simp)).trans (heap_last w1 _)
   have h2 : ((w1.alloc (.map #[] 0)).alloc (.cells #[.slice A0 l.length c0,.string s,.map (some w1.heap.size)] 90)).heap[w1.heap.size + 1]? = some (.cells #[.slice A0 l.length c0,.string s,.map (some w1.heap.size)] 90 (0,0)):=by
    have:=heap_last (w1.alloc (.map #[] 0)) (.cells #[.slice A0 l.length c0,.string s,.map (some w1.heap.size)] 90)
    rwa [World.size_alloc] at this
   have hB2:=below_alloc (below_alloc HB.out (.map #[] 0)) (.cells #[.slice A0 l.length c0,.string s,.map (some w1.heap.size)] 90)
   exact ⟨hB2,.inl ⟨trivial,hs,w1.heap.size + 1,w1.heap.size,rfl,⟨hB2,by have:=HB.out.size;omega,HB.out.size,h2,MapOk.empty h1⟩⟩⟩
  ·have hs0 : ((500 : Int) < (s.size : Int)) = True:=eq_true (by omega)
   go_enter Tryd.func41,Tryd.ntmps41
   go_wp2_with fail
   refine hcall.mono ?_
   rintro e w1 ⟨rfl,hb⟩
   dsimp only
   have HB:=Aside0.mk hb
   clear hcall hb
   go_wp2_with fail
   go_ret
   exact ⟨HB.out,.inr ⟨fun h=>hs h.2,rfl⟩⟩
end Go.Proofs.YtlakdfbfkbndiaaDoor.Q
namespace Go.Proofs.YtlakdfbfkbndiaaDoor.Q
open Go.RowKit Go.Proofs.YtlakdfbfkbndiaaDoor.Re Go.Proofs.YtlakdfbfkbndiaaDoorW.PrintWords Go.Proofs.YtlakdfbfkbndiaaDoorW.PrintLast Go.Proofs.YtlakdfbfkbndiaaDoorW.PrintMore
section
variable {l : List S49} {s : ByteArray} {A0 : Option Addr} {c0 Bm Bf : Nat} {w0 : World}
theorem endsL_len (hB : Base l s A0 c0 w0) (i : Nat) : (endsL l s i).length ≤ 501:=by
 have:=upto_len (meets l s (l.length - 1) i) (s.size + 1)
 have:=hB.sz
 unfold endsL
 omega
set_option maxRecDepth 100000 in
theorem find_calls (hB : Base l s A0 c0 w0) (i : Nat) (hi : i ≤ s.size + 1) (w : World) (hM : Mem l s A0 c0 Bm Bf w0 w) :
  Calls Tryd.prog 42 #[.pointer (some ⟨Bm,0,none⟩),.int .i64 i] w fun e w' =>
   e = .returned (.tuple #[.int .i64 (findV l s (s.size + 1 - i) i).1,.int .i64 (findV l s (s.size + 1 - i) i).2]) ∧ Mem l s A0 c0 Bm Bf w0 w' ∧ w.grownBy w' (some Bf):=by
 have HB:=Aside0.mk hB
 have HM:=Aside0.mk hM
 have HI:=Aside0.mk hi
 have HG:=Aside0.mk (World.grownBy.refl w (some Bf))
 clear hB hM hi
 go_enter Tryd.func42,Tryd.ntmps42
 go_wp2_with fail
 go_loopg [6] (s.size + 2) (fun g v6 wr=>∃ (j : Nat),v6 = .int .i64 j ∧ s.size + 2 - j ≤ g ∧ j ≤ s.size + 1 ∧ findV l s (s.size + 1 - i) i = findV l s (s.size + 1 - j) j ∧ Aside0 (Mem l s A0 c0 Bm Bf w0 wr) ∧ Aside0 (w.grownBy wr (some Bf)))
 case atStart=>exact ⟨i,rfl,by omega,HI.out,rfl,HM,HG⟩
 case round =>
  clear HM HG
  obtain ⟨j,rfl,hg,hj,hv,HM,HG⟩:=hrel
  obtain ⟨hm0,hm1,hm2⟩:=HM.out.cell
  clear hm0 hm2
  have HV:=Aside0.mk hv
  clear hv
  by_cases hlt : j ≤ s.size
  ·have hlt0 : ((j : Int) ≤ (s.size : Int)) = True:=eq_true (by omega)
   have hcall:=at_calls HB.out j hlt wr HM.out
   have HLt:=Aside0.mk hlt
   have hcap:=endsL_len HB.out j
   clear hlt
   go_wp2_with fail
   refine hcall.mono ?_
   rintro e w4 ⟨v4,rfl,hR4,hM4,hG4⟩
   dsimp only
   obtain ⟨A4,c4,rfl,hl4,hC4⟩:=Kd.R_reads hR4
   rw [nats_len] at hR4 hl4 ⊢
   have HR4:=Aside0.mk hR4
   have HM4:=Aside0.mk hM4
   have HG4:=Aside0.mk (HG.out.trans hG4)
   clear hcall hR4 hM4 hG4 hl4 hC4 HM HG
   by_cases hn : (endsL l s j).length = 0
   ·have hn0 : ((0 : Int) < ((endsL l s j).length : Int)) = False:=eq_false (by omega)
    have hv2 : findV l s (s.size + 1 - j) j = findV l s (s.size + 1 - (j + 1)) (j + 1):=by
     rw [show s.size + 1 - j = (s.size + 1 - (j + 1)) + 1 by have:=HLt.out;omega]
     simp only [findV]
     rw [if_pos hn]
    have hji : (j : Int) + 1 ≤ 502:=by have:=HB.out.sz;have:=HLt.out;omega
    have HV2:=Aside0.mk (HV.out.trans hv2)
    clear HV hv2
    go_wp2_with fail
    go_roundg (s.size + 2 - (j + 1))
    case measure=>have:=HLt.out;omega
    case rel=>exact ⟨j + 1,by go_num,Nat.le_refl _,by have:=HLt.out;omega,HV2.out,HM4,HG4⟩
   ·have hn0 : ((0 : Int) < ((endsL l s j).length : Int)) = True:=eq_true (by omega)
    obtain ⟨n,hnn⟩ : ∃ n,(endsL l s j).length = n + 1:=⟨(endsL l s j).length - 1,by omega⟩
    have hv2 : findV l s (s.size + 1 - j) j = ((j : Int),(((endsL l s j).getD n 0 : Nat) : Int)):=by
     rw [show s.size + 1 - j = (s.size + 1 - (j + 1)) + 1 by have:=HLt.out;omega]
     simp only [findV]
     rw [if_neg hn,hnn];rfl
    obtain ⟨ad4,e4,hcp⟩:=row_get HR4.out n (by rw [nats_len];omega)
    subst e4
    rw [nats_get _ n (by omega)] at hcp
    obtain ⟨x,hx⟩ : ∃ x,(endsL l s j).getD n 0 = x:=⟨_,rfl⟩
    rw [hx] at hcp hv2
    clear hx
    have h1 : ((endsL l s j).length : Int) - 1 = (n : Int):=by omega
    have h2 : (0 : Int) ≤ (n : Int):=by omega
    have h3 : ((n : Int) < ((endsL l s j).length : Int)):=by omega
    have HV2:=Aside0.mk (HV.out.trans hv2)
    clear HV hv2
    go_wp2_with fail
    go_region
    go_wp2_with fail
    go_ret2
    rw [HV2.out]
    have hdr : Below w4.heap.size w4 w4.drew:=(Below.refl _ _).drew
    exact ⟨rfl,HM4.out.move hdr,HG4.out.trans ⟨hdr.os,hdr.tape,hdr.output,hdr.size,fun k hk _=>hdr.block k hk⟩⟩
  ·have hlt0 : ((j : Int) ≤ (s.size : Int)) = False:=eq_false (by omega)
   have hv2 : findV l s (s.size + 1 - j) j = (-1,0):=by
    rw [show s.size + 1 - j = 0 by omega];rfl
   have HV2:=Aside0.mk (HV.out.trans hv2)
   clear HV hv2
   go_wp2_with fail
   go_ret2
   rw [HV2.out]
   exact ⟨rfl,HM.out,HG.out⟩
end
end Go.Proofs.YtlakdfbfkbndiaaDoor.Q
namespace Go.Proofs.YtlakdfbfkbndiaaDoor.Q
open Go.RowKit Go.Proofs.YtlakdfbfkbndiaaDoor.Re Go.Proofs.YtlakdfbfkbndiaaDoorW.PrintWords Go.Proofs.YtlakdfbfkbndiaaDoorW.PrintLast Go.Proofs.YtlakdfbfkbndiaaDoorW.PrintMore
def kPair : Kd (Int × Int):=Kd.pair (Kd.int .i64) (Kd.int .i64)
theorem kPair_mkM (w : World) (base : Nat) (ok : Nat → Prop) (x : Int × Int) : kPair.M w base ok x [.int .i64 x.1,.int .i64 x.2]:=⟨[.int .i64 x.1],[.int .i64 x.2],rfl,rfl,rfl⟩
theorem infoPair : (Tryd.prog.info? 72).map (fun i=>(i.zero,i.size,i.bytes)) = some (some (.agg #[.int .i64 0,.int .i64 0]),2,16):=by kernel_rfl
end Go.Proofs.YtlakdfbfkbndiaaDoor.Q
