/- What the row of FnStars rests on, and the row: for every input that can be read the call returns true and the input reads as it did; condition: what the row lists of the library reads as the program lays it. -/
import Derived.Test.YtlakdfbfkbndiaaDoorKFnStarse
import Derived.Test.YtlakdfbfkbndiaaDoorCards
import Derived.Test.YtlakdfbfkbndiaaDoorRows
import Derived.Test.YtlakdfbfkbndiaaDoorTie
set_option linter.unusedVariables false
set_option linter.unusedSimpArgs false
set_option linter.unusedSectionVars false
set_option linter.unusedVariables false
set_option maxRecDepth 100000
namespace Go.Proofs.YtlakdfbfkbndiaaDoor.Ev.Pr
open Go Go.RowKit Go.Proofs.YtlakdfbfkbndiaaDoorW.PrintWords Go.Proofs.YtlakdfbfkbndiaaDoorW.PrintMore Kd Go.Proofs.YtlakdfbfkbndiaaDoor.Ev
section
variable {ρ : Type}
theorem st_spec_l2atom {x0 : Int} {x1 : ByteArray} {x2 : Int} {x3 : List Tt49} {x4 : Bool} {Q : (Int × Int × (List Tt49) × Bool) → Prop} (h : Tot (fun k κ=>B_spec_l2atom (tb (ρ:=ρ) k) x0 x1 x2 x3 x4 (fun a0 a1 a2 a3=>κ (a0,a1,a2,a3))) Q) : Tot (fun k κ=>(tb (ρ:=ρ) k).spec_l2atom x0 x1 x2 x3 x4 (fun a0 a1 a2 a3=>κ (a0,a1,a2,a3))) Q:=Tot.step (fun _ _=>rfl) h
theorem st_spec_l2has {x0 : ByteArray} {x1 : Int} {Q : Bool → Prop} (h : Tot (fun k κ=>B_spec_l2has (tb (ρ:=ρ) k) x0 x1 (fun a0=>κ a0)) Q) : Tot (fun k κ=>(tb (ρ:=ρ) k).spec_l2has x0 x1 (fun a0=>κ a0)) Q:=Tot.step (fun _ _=>rfl) h
theorem st_spec_l2has_s2 {x2 : ByteArray} {x3 : Int} {x4 : Int} {Q : Bool → Prop} (h : Tot (fun k κ=>B_spec_l2has_s2 (tb (ρ:=ρ) k) x2 x3 x4 (fun a0=>κ a0)) Q) : Tot (fun k κ=>(tb (ρ:=ρ) k).spec_l2has_s2 x2 x3 x4 (fun a0=>κ a0)) Q:=Tot.step (fun _ _=>rfl) h
theorem st_spec_l2set {x0 : ByteArray} {x1 : Int} {x2 : List Tt49} {x3 : Bool} {Q : (Int × Int × (List Tt49) × Bool) → Prop} (h : Tot (fun k κ=>B_spec_l2set (tb (ρ:=ρ) k) x0 x1 x2 x3 (fun a0 a1 a2 a3=>κ (a0,a1,a2,a3))) Q) : Tot (fun k κ=>(tb (ρ:=ρ) k).spec_l2set x0 x1 x2 x3 (fun a0 a1 a2 a3=>κ (a0,a1,a2,a3))) Q:=Tot.step (fun _ _=>rfl) h
theorem st_spec_l2set_s8 {x5 : Bool} {x6 : List Int} {x7 : ByteArray} {x8 : Int} {x9 : List Tt49} {x10 : Bool} {x11 : Int} {x12 : Bool} {x13 : ByteArray} {x14 : List Int} {Q : (Int × Int × (List Tt49) × Bool) → Prop} (h : Tot (fun k κ=>B_spec_l2set_s8 (tb (ρ:=ρ) k) x5 x6 x7 x8 x9 x10 x11 x12 x13 x14 (fun a0 a1 a2 a3=>κ (a0,a1,a2,a3))) Q) : Tot (fun k κ=>(tb (ρ:=ρ) k).spec_l2set_s8 x5 x6 x7 x8 x9 x10 x11 x12 x13 x14 (fun a0 a1 a2 a3=>κ (a0,a1,a2,a3))) Q:=Tot.step (fun _ _=>rfl) h
theorem st_spec_l2set_s15 {x42 : Int} {x43 : Int} {x44 : Bool} {x45 : Bool} {x46 : Bool} {x47 : List Int} {x48 : ByteArray} {x49 : Int} {x50 : List Tt49} {x51 : Bool} {x52 : Int} {x53 : Bool} {x54 : ByteArray} {x55 : List Int} {Q : (Int × Int × (List Tt49) × Bool) → Prop} (h : Tot (fun k κ=>B_spec_l2set_s15 (tb (ρ:=ρ) k) x42 x43 x44 x45 x46 x47 x48 x49 x50 x51 x52 x53 x54 x55 (fun a0 a1 a2 a3=>κ (a0,a1,a2,a3))) Q) : Tot (fun k κ=>(tb (ρ:=ρ) k).spec_l2set_s15 x42 x43 x44 x45 x46 x47 x48 x49 x50 x51 x52 x53 x54 x55 (fun a0 a1 a2 a3=>κ (a0,a1,a2,a3))) Q:=Tot.step (fun _ _=>rfl) h
theorem st_spec_l2set_s17 {x56 : Int} {x57 : Int} {x58 : Bool} {x59 : Bool} {x60 : Bool} {x61 : List Int} {x62 : ByteArray} {x63 : Int} {x64 : List Tt49} {x65 : Bool} {x66 : Int} {x67 : Bool} {x68 : ByteArray} {x69 : List Int} {Q : (Int × Int × (List Tt49) × Bool) → Prop} (h : Tot (fun k κ=>B_spec_l2set_s17 (tb (ρ:=ρ) k) x56 x57 x58 x59 x60 x61 x62 x63 x64 x65 x66 x67 x68 x69 (fun a0 a1 a2 a3=>κ (a0,a1,a2,a3))) Q) : Tot (fun k κ=>(tb (ρ:=ρ) k).spec_l2set_s17 x56 x57 x58 x59 x60 x61 x62 x63 x64 x65 x66 x67 x68 x69 (fun a0 a1 a2 a3=>κ (a0,a1,a2,a3))) Q:=Tot.step (fun _ _=>rfl) h
theorem st_spec_l2set_s19 {x38 : ByteArray} {x39 : Int} {x40 : List Tt49} {x41 : Bool} {Q : (Int × Int × (List Tt49) × Bool) → Prop} (h : Tot (fun k κ=>B_spec_l2set_s19 (tb (ρ:=ρ) k) x38 x39 x40 x41 (fun a0 a1 a2 a3=>κ (a0,a1,a2,a3))) Q) : Tot (fun k κ=>(tb (ρ:=ρ) k).spec_l2set_s19 x38 x39 x40 x41 (fun a0 a1 a2 a3=>κ (a0,a1,a2,a3))) Q:=Tot.step (fun _ _=>rfl) h
theorem st_spec_l2item {x0 : ByteArray} {x1 : Int} {x2 : Bool} {Q : (Int × Int × Bool) → Prop} (h : Tot (fun k κ=>B_spec_l2item (tb (ρ:=ρ) k) x0 x1 x2 (fun a0 a1 a2=>κ (a0,a1,a2))) Q) : Tot (fun k κ=>(tb (ρ:=ρ) k).spec_l2item x0 x1 x2 (fun a0 a1 a2=>κ (a0,a1,a2))) Q:=Tot.step (fun _ _=>rfl) h
end
end Go.Proofs.YtlakdfbfkbndiaaDoor.Ev.Pr
set_option linter.unusedVariables false
namespace Go.Proofs.YtlakdfbfkbndiaaDoor.Ev.Pr
open Go Go.RowKit Go.Proofs.YtlakdfbfkbndiaaDoorW.PrintWords Go.Proofs.YtlakdfbfkbndiaaDoorW.PrintMore Kd Go.Proofs.YtlakdfbfkbndiaaDoor.Ev
section
variable {ρ : Type}
theorem bitand_i64_255 (x : Int) : 0 ≤ bitand .i64 x 255 ∧ bitand .i64 x 255 < 256:=by
 have:=bitand_i64 x 255 (by decide)
 have e : ((255 : Nat) : Int) = 255:=rfl
 rw [e] at this
 omega
structure Cur (c : List Int) (p : Int) : Prop where
 lo : 0 ≤ p
 hi : p ≤ (c.length : Int)
 len : c.length ≤ 9223372036854775807
theorem l1Byte_tot {c : List Int} {p s : Int} (h : Cur c p) :
  Tot (fun k κ=>(tb (ρ:=ρ) k).spec_l1Byte c p s (fun a b d=>κ (a,b,d))) fun r=>(0 ≤ r.1 ∧ r.1 < 256) ∧ Cur c r.2.1:=by
 obtain ⟨hp,hps,hc⟩:=h
 refine st_spec_l1Byte ?_
 unfold B_spec_l1Byte
 refine Tot.bif (fun h=>?_) (fun h=>?_)
 ·have h1:=of_decide_eq_true h
  refine Tot.iteT hp (Tot.iteT h1 (Tot.ret _ (fun k κ=>rfl) ?_))
  have e : w (p + 1) = p + 1:=w_in (by omega)
  exact ⟨bitand_i64_255 _,by show 0 ≤ w (p + 1);omega,by show w (p + 1) ≤ _;omega,hc⟩
 ·exact Tot.ret _ (fun k κ=>rfl) ⟨bitand_i64_255 _,hp,hps,hc⟩
theorem l1Below_tot {c : List Int} {n p s : Int} (h : Cur c p) :
  Tot (fun k κ=>(tb (ρ:=ρ) k).spec_l1Below n c p s (fun a b d=>κ (a,b,d))) fun r=>(0 ≤ r.1 ∧ (0 < n → r.1 < n)) ∧ Cur c r.2.1:=by
 refine st_spec_l1Below ?_
 unfold B_spec_l1Below
 refine Tot.bif (fun h1=>?_) (fun h1=>?_)
 ·have h1:=of_decide_eq_true h1
  exact Tot.ret _ (fun k κ=>rfl) ⟨⟨by simp,fun h=>by omega⟩,h⟩
 have h1:=of_decide_eq_false h1
 have hm : ∀ v : Int,0 ≤ v → 0 ≤ v.tmod n ∧ v.tmod n < n:=fun v hv=>⟨Int.tmod_nonneg _ hv,by
  have:=Int.tmod_lt_of_pos v (show 0 < n by omega)
  exact this⟩
 refine Tot.bif (fun h2=>?_) (fun h2=>?_)
 ·refine Tot.bind3 (l1Byte_tot h) fun a p1 s1 q=>Tot.iteF (by omega) (Tot.ret _ (fun k κ=>rfl) ?_)
  exact ⟨⟨(hm a q.1.1).1,fun _=>(hm a q.1.1).2⟩,q.2⟩
 ·refine Tot.bind3 (l1Byte_tot h) fun a p1 s1 q=>Tot.bind3 (l1Byte_tot q.2) fun a2 p2 s2 q2=>Tot.bind3 (l1Byte_tot q2.2) fun a3 p3 s3 q3=>Tot.bind3 (l1Byte_tot q3.2) fun a4 p4 s4 q4=>Tot.iteF (by omega) (Tot.ret _ (fun k κ=>rfl) ?_)
  have r1:=q.1;have r2:=q2.1;have r3:=q3.1;have r4:=q4.1
  dsimp only at r1 r2 r3 r4
  have e1 : w (a * 16777216) = a * 16777216:=w_in (by omega)
  have e2 : w (a2 * 65536) = a2 * 65536:=w_in (by omega)
  have e3 : w (a3 * 256) = a3 * 256:=w_in (by omega)
  have e4 : w (w (a * 16777216) + w (a2 * 65536)) = a * 16777216 + a2 * 65536:=by rw [e1,e2];exact w_in (by omega)
  have e5 : w (w (w (a * 16777216) + w (a2 * 65536)) + w (a3 * 256)) = a * 16777216 + a2 * 65536 + a3 * 256:=by rw [e4,e3];exact w_in (by omega)
  have e6 : w (w (w (w (a * 16777216) + w (a2 * 65536)) + w (a3 * 256)) + a4) = a * 16777216 + a2 * 65536 + a3 * 256 + a4:=by rw [e5];exact w_in (by omega)
  have h5:=hm (w (w (w (w (a * 16777216) + w (a2 * 65536)) + w (a3 * 256)) + a4)) (by rw [e6];omega)
  exact ⟨⟨h5.1,fun _=>h5.2⟩,q4.2⟩
theorem l1Once_tot {c : List Int} {n p s : Int} (h : Cur c p) :
  Tot (fun k κ=>(tb (ρ:=ρ) k).spec_l1Once n c p s (fun a b d=>κ (a,b,d))) fun r=>Cur c r.2.1:=by
 refine st_spec_l1Once ?_
 unfold B_spec_l1Once
 exact Tot.bind3 (l1Below_tot h) fun a p1 s1 q=>Tot.ret _ (fun k κ=>rfl) q.2
theorem strOfNums_size (l : List Int) : (strOfNums l).size = l.length:=by simp [strOfNums,ByteArray.size]
theorem l1New_s3_tot {c : List Int} (hc : c.length ≤ 9223372036854775807) : ∀ (n : Nat) (i s : Int),0 ≤ i → (c.length : Int) - i ≤ n → Tot (fun k κ=>(tb (ρ:=ρ) k).spec_l1New_s3 c s i (fun a b d=>κ (a,b,d))) fun r=>r.1 = c ∧ Cur c r.2.1
 | n,i,s,hi,hn=>by
  refine st_spec_l1New_s3 ?_
  unfold B_spec_l1New_s3
  have out : Tot (ρ:=ρ) (fun (k : Nat) κ=>(fun a b d=>κ (a,b,d)) c (0 : Int) s) fun r=>r.1 = c ∧ Cur c r.2.1:=Tot.ret _ (fun k κ=>rfl) ⟨rfl,Int.le_refl _,by show (0 : Int) ≤ _;omega,hc⟩
  refine Tot.bif (fun h=>?_) (fun _=>out)
  have h1:=of_decide_eq_true h
  refine Tot.bif (fun h=>?_) (fun _=>out)
  refine Tot.iteT hi (Tot.iteT h1 ?_)
  cases n with
  | zero=>omega
  | succ n =>
   have e : w (i + 1) = i + 1:=w_in (by omega)
   rw [e]
   exact l1New_s3_tot hc n (i + 1) _ (by omega) (by omega)
theorem l1New_tot {c : List Int} (hc : c.length ≤ 9223372036854775807) : Tot (fun k κ=>(tb (ρ:=ρ) k).spec_l1New c (fun a b d=>κ (a,b,d))) fun r=>r.1 = c ∧ Cur c r.2.1:=by
 refine st_spec_l1New ?_
 unfold B_spec_l1New
 exact l1New_s3_tot hc c.length 0 _ (Int.le_refl _) (by omega)
theorem l1of_s3_tot {c : List Int} {n : Int} {al : ByteArray} (hal : 0 < al.size) (hn : n ≤ 1000000) : ∀ (m : Nat) (i : Int) (acc : List Int) (p s : Int),Cur c p → (acc.length : Int) = i → n - i ≤ m → Tot (fun k κ=>(tb (ρ:=ρ) k).spec_l1of_s3 n al i acc c p s (fun a b d=>κ (a,b,d))) fun r=>(r.1.size ≤ acc.length ∨ (r.1.size : Int) ≤ n) ∧ Cur c r.2.1
 | m,i,acc,p,s,hp,hi,hm=>by
  refine st_spec_l1of_s3 ?_
  unfold B_spec_l1of_s3
  refine Tot.bif (fun h=>?_) (fun h=>?_)
  ·have h1:=of_decide_eq_true h
   refine Tot.bind3 (l1Below_tot hp) fun a p1 s1 q=>Tot.iteT q.1.1 (Tot.iteT (q.1.2 (by omega)) (Tot.iteT (by omega) ?_))
   cases m with
   | zero=>omega
   | succ m =>
    have e : w (i + 1) = i + 1:=w_in (by omega)
    rw [e]
    refine (l1of_s3_tot hal hn m (i + 1) (acc ++ [bt al a]) p1 s1 q.2 (by simp;omega) (by omega)).imp fun r hr=>⟨?_,hr.2⟩
    rcases hr.1 with h|h
    ·right
     simp at h
     omega
    ·exact .inr h
  ·exact Tot.ret _ (fun k κ=>rfl) ⟨.inl (by show (strOfNums acc).size ≤ _;rw [strOfNums_size];omega),hp⟩
theorem l1of_tot {c : List Int} {n p s : Int} {al : ByteArray} (hal : 0 < al.size) (hn : n ≤ 1000000) (hp : Cur c p) : Tot (fun k κ=>(tb (ρ:=ρ) k).spec_l1of n al c p s (fun a b d=>κ (a,b,d))) fun r=>(r.1.size = 0 ∨ (r.1.size : Int) ≤ n) ∧ Cur c r.2.1:=by
 refine st_spec_l1of ?_
 unfold B_spec_l1of
 refine (l1of_s3_tot hal hn n.toNat 0 [] p s hp rfl (by omega)).imp fun r hr=>⟨?_,hr.2⟩
 rcases hr.1 with h|h
 ·have h : r.1.size ≤ 0:=h
  exact .inl (by omega)
 ·exact .inr h
theorem l2subject_tot {c : List Int} {p s : Int} (hp : Cur c p) : Tot (fun k κ=>(tb (ρ:=ρ) k).spec_l2subject c p s (fun a b d=>κ (a,b,d))) fun r=>r.1.size ≤ 1000 ∧ Cur c r.2.1:=by
 refine st_spec_l2subject ?_
 unfold B_spec_l2subject
 refine Tot.bind3 (l1Once_tot hp) fun a p1 s1 q=>Tot.bif (fun _=>?_) (fun _=>?_)
 ·refine Tot.bind3 (l1Below_tot q) fun a p2 s2 q2=>?_
  have h1:=q2.1.1
  have h2:=q2.1.2 (by omega)
  dsimp only at h1 h2
  have e : w (500 + a) = 500 + a:=w_in (by omega)
  rw [e]
  refine Tot.bind3 (l1of_tot (by decide) (by omega) q2.2) fun r p3 s3 q3=>Tot.ret _ (fun k κ=>rfl) ⟨?_,q3.2⟩
  have:=q3.1
  dsimp only at this ⊢
  omega
 ·refine Tot.bind3 (l1Below_tot q) fun a p2 s2 q2=>?_
  have h1:=q2.1.1
  have h2:=q2.1.2 (by omega)
  dsimp only at h1 h2
  refine Tot.bind3 (l1of_tot (by decide) (by omega) q2.2) fun r p3 s3 q3=>Tot.ret _ (fun k κ=>rfl) ⟨?_,q3.2⟩
  have:=q3.1
  dsimp only at this ⊢
  omega
theorem l1text_tot {c : List Int} {p s : Int} {l : List ByteArray} {n : Nat} (hl : 0 < l.length) (hn : ∀ x,x ∈ l → x.size ≤ n) (hp : Cur c p) : Tot (fun k κ=>(tb (ρ:=ρ) k).spec_l1text l c p s (fun a b d=>κ (a,b,d))) fun r=>r.1.size ≤ n ∧ Cur c r.2.1:=by
 refine st_spec_l1text ?_
 unfold B_spec_l1text
 refine Tot.bind3 (l1Below_tot hp) fun a p1 s1 q=>Tot.iteT q.1.1 (Tot.iteT (q.1.2 (by omega)) (Tot.ret _ (fun k κ=>rfl) ⟨?_,q.2⟩))
 have h1:=q.1.1
 have h2:=q.1.2 (by omega)
 dsimp only at h1 h2
 show (l.getD a.toNat _).size ≤ n
 rw [List.getD_eq_getElem?_getD,List.getElem?_eq_getElem (show a.toNat < l.length by omega)]
 exact hn _ (List.getElem_mem _)
def bd : Nat → Nat
 | 0=>8
 | d + 1=>2 * bd d + 8
theorem bd_ge : ∀ d,8 ≤ bd d
 | 0=>Nat.le_refl _
 | d + 1=>by unfold bd;omega
theorem l2draw_s18_tot {c : List Int} {p s : Int} {n : Nat} (hn : 1 ≤ n) (hp : Cur c p) : Tot (fun k κ=>(tb (ρ:=ρ) k).spec_l2draw_s18 c p s (fun a b d=>κ (a,b,d))) fun r=>r.1.size ≤ n ∧ Cur c r.2.1:=by
 refine st_spec_l2draw_s18 ?_
 unfold B_spec_l2draw_s18
 refine Tot.bind3 (l1of_tot (by decide) (by omega) hp) fun r p3 s3 q3=>Tot.ret _ (fun k κ=>rfl) ⟨?_,q3.2⟩
 have:=q3.1
 dsimp only at this ⊢
 omega
theorem one_of {c : List Int} {p s : Int} {al : ByteArray} (hal : 0 < al.size) (hp : Cur c p) : Tot (fun k κ=>(tb (ρ:=ρ) k).spec_l1of 1 al c p s (fun a b d=>κ (a,b,d))) fun r=>r.1.size ≤ 1 ∧ Cur c r.2.1 :=
 (l1of_tot hal (by omega) hp).imp fun r hr=>⟨by have:=hr.1;omega,hr.2⟩
theorem size_bs1 (a : UInt8) : (bs [a]).size = 1:=rfl
theorem l2draw_tot {c : List Int} : ∀ (d : Nat) {p s : Int}, d ≤ 10 → Cur c p → Tot (fun k κ => (tb (ρ := ρ) k).spec_l2draw d c p s (fun a b d => κ (a, b, d))) fun r => r.1.size ≤ bd d ∧ Cur c r.2.1
  | d, p, s, hd, hp => by
    have h8 := bd_ge d
    have sub : ∀ {p s : Int}, Cur c p → 0 < (d : Int) → Tot (fun k κ => (tb (ρ := ρ) k).spec_l2draw (w ((d : Int) - 1)) c p s (fun a b d => κ (a, b, d))) fun r => 2 * r.1.size + 8 ≤ bd d ∧ Cur c r.2.1 := fun {p s} hp h => by
      cases d with
      | zero => omega
      | succ d =>
        have e : w (((d + 1 : Nat) : Int) - 1) = (d : Int) := by rw [w_in (by omega)]; omega
        rw [e]
        exact (l2draw_tot d (by omega) hp).imp fun r hr => ⟨by unfold bd; omega, hr.2⟩
    have hb : bd d ≤ 100000 := by
      have h : ∀ n, n ≤ 10 → bd n ≤ 100000 := by decide
      exact h d hd
    refine st_spec_l2draw ?_
    unfold B_spec_l2draw
    have pair : ∀ {p s : Int}, Cur c p → Tot (fun (k : Nat) κ => (tb (ρ := ρ) k).spec_l1of 1 (bs [97, 98, 99]) c p s (fun (v28 : ByteArray) (v29 : Int) (v30 : Int) => (tb (ρ := ρ) k).spec_l1of 1 (bs [42, 43, 63]) c v29 v30 (fun (v31 : ByteArray) (v32 : Int) (v33 : Int) => if v28.size + v31.size ≤ 9223372036854775807 then (fun a b d => κ (a, b, d)) (v28 ++ v31) v32 v33 else none))) fun r => r.1.size ≤ bd d ∧ Cur c r.2.1 := fun hp =>
      Tot.bind3 (one_of (by decide) hp) fun a p1 s1 q1 => Tot.bind3 (one_of (by decide) q1.2) fun b p2 s2 q2 => by
        have h1 := q1.1; have h2 := q2.1
        dsimp only at h1 h2
        exact Tot.iteT (by omega) (Tot.ret _ (fun k κ => rfl) ⟨by show (a ++ b).size ≤ _; rw [ByteArray.size_append]; omega, q2.2⟩)
    have low : ∀ {p s : Int}, Cur c p → Tot (fun k κ => (tb (ρ := ρ) k).spec_l2draw_s18 c p s (fun a b d => κ (a, b, d))) fun r => r.1.size ≤ bd d ∧ Cur c r.2.1 := fun hp => l2draw_s18_tot (by omega) hp
    have alt : ∀ {p s : Int}, Cur c p → 0 < (d : Int) → Tot (fun (k : Nat) κ => (tb (ρ := ρ) k).spec_l2draw (w ((d : Int) - 1)) c p s (fun (v7 : ByteArray) (v8 : Int) (v9 : Int) => if 1 + v7.size ≤ 9223372036854775807 then if ((bs [40]) ++ v7).size + 1 ≤ 9223372036854775807 then (tb (ρ := ρ) k).spec_l2draw (w ((d : Int) - 1)) c v8 v9 (fun (v10 : ByteArray) (v11 : Int) (v12 : Int) => if (((bs [40]) ++ v7) ++ (bs [124])).size + v10.size ≤ 9223372036854775807 then if ((((bs [40]) ++ v7) ++ (bs [124])) ++ v10).size + 1 ≤ 9223372036854775807 then (fun a b d => κ (a, b, d)) (((((bs [40]) ++ v7) ++ (bs [124])) ++ v10) ++ (bs [41])) v11 v12 else none else none) else none else none)) fun r => r.1.size ≤ bd d ∧ Cur c r.2.1 := fun hp h0 =>
      Tot.bind3 (sub hp h0) fun a p1 s1 q1 => by
        have h1 := q1.1
        dsimp only at h1
        refine Tot.iteT (by omega) (Tot.iteT (by simp only [ByteArray.size_append, size_bs1]; omega) (Tot.bind3 (sub q1.2 h0) fun b p2 s2 q2 => ?_))
        have h2 := q2.1
        dsimp only at h2
        exact Tot.iteT (by simp only [ByteArray.size_append, size_bs1]; omega) (Tot.iteT (by simp only [ByteArray.size_append, size_bs1]; omega) (Tot.ret _ (fun k κ => rfl) ⟨by simp only [ByteArray.size_append, size_bs1]; omega, q2.2⟩))
    have rep : ∀ {p s : Int}, Cur c p → 0 < (d : Int) → Tot (fun (k : Nat) κ => (tb (ρ := ρ) k).spec_l2draw (w ((d : Int) - 1)) c p s (fun (v13 : ByteArray) (v14 : Int) (v15 : Int) => if 1 + v13.size ≤ 9223372036854775807 then (tb (ρ := ρ) k).spec_l2draw (w ((d : Int) - 1)) c v14 v15 (fun (v16 : ByteArray) (v17 : Int) (v18 : Int) => if ((bs [40]) ++ v13).size + v16.size ≤ 9223372036854775807 then if (((bs [40]) ++ v13) ++ v16).size + 1 ≤ 9223372036854775807 then (tb (ρ := ρ) k).spec_l1of 1 (bs [42, 43, 63]) c v17 v18 (fun (v19 : ByteArray) (v20 : Int) (v21 : Int) => if ((((bs [40]) ++ v13) ++ v16) ++ (bs [41])).size + v19.size ≤ 9223372036854775807 then (fun a b d => κ (a, b, d)) (((((bs [40]) ++ v13) ++ v16) ++ (bs [41])) ++ v19) v20 v21 else none) else none else none) else none)) fun r => r.1.size ≤ bd d ∧ Cur c r.2.1 := fun hp h0 =>
      Tot.bind3 (sub hp h0) fun a p1 s1 q1 => by
        have h1 := q1.1
        dsimp only at h1
        refine Tot.iteT (by omega) (Tot.bind3 (sub q1.2 h0) fun b p2 s2 q2 => ?_)
        have h2 := q2.1
        dsimp only at h2
        refine Tot.iteT (by simp only [ByteArray.size_append, size_bs1]; omega) (Tot.iteT (by simp only [ByteArray.size_append, size_bs1]; omega) (Tot.bind3 (one_of (by decide) q2.2) fun e p3 s3 q3 => ?_))
        have h3 := q3.1
        dsimp only at h3
        exact Tot.iteT (by simp only [ByteArray.size_append, size_bs1]; omega) (Tot.ret _ (fun k κ => rfl) ⟨by simp only [ByteArray.size_append, size_bs1]; omega, q3.2⟩)
    have two : ∀ {p s : Int}, Cur c p → 0 < (d : Int) → Tot (fun (k : Nat) κ => (tb (ρ := ρ) k).spec_l2draw (w ((d : Int) - 1)) c p s (fun (v34 : ByteArray) (v35 : Int) (v36 : Int) => (tb (ρ := ρ) k).spec_l2draw (w ((d : Int) - 1)) c v35 v36 (fun (v37 : ByteArray) (v38 : Int) (v39 : Int) => if v34.size + v37.size ≤ 9223372036854775807 then (fun a b d => κ (a, b, d)) (v34 ++ v37) v38 v39 else none))) fun r => r.1.size ≤ bd d ∧ Cur c r.2.1 := fun hp h0 =>
      Tot.bind3 (sub hp h0) fun a p1 s1 q1 => Tot.bind3 (sub q1.2 h0) fun b p2 s2 q2 => by
        have h1 := q1.1; have h2 := q2.1
        dsimp only at h1 h2
        exact Tot.iteT (by omega) (Tot.ret _ (fun k κ => rfl) ⟨by simp only [ByteArray.size_append]; omega, q2.2⟩)
    have texts : ∀ {l : List ByteArray} {p s : Int}, 0 < l.length → (l.all fun x => decide (x.size ≤ 8)) = true → Cur c p → Tot (fun (k : Nat) κ => (tb (ρ := ρ) k).spec_l1text l c p s (fun (v22 : ByteArray) (v23 : Int) (v24 : Int) => (fun a b d => κ (a, b, d)) v22 v23 v24)) fun r => r.1.size ≤ bd d ∧ Cur c r.2.1 := fun {l p s} h0 h1 hp =>
      (l1text_tot h0 (fun x hx => of_decide_eq_true (List.all_eq_true.mp h1 x hx)) hp).imp fun r hr => ⟨Nat.le_trans hr.1 h8, hr.2⟩
    refine Tot.bind3 (l1Below_tot hp) fun a p1 s1 q => ?_
    have hq := q.2
    refine Tot.bif (fun _ => ?_) (fun _ => ?_)
    all_goals repeat (first
      | exact low hq
      | exact pair hq
      | exact texts (by decide) (by decide) hq
      | exact alt hq (of_decide_eq_true (by assumption))
      | exact rep hq (of_decide_eq_true (by assumption))
      | exact two hq (of_decide_eq_true (by assumption))
      | refine Tot.bif (fun h => ?_) (fun h => ?_))
theorem l1bend_tot {c : List Int} {x : ByteArray} {p s : Int} (hx : x.size ≤ 100000) (hp : Cur c p) : Tot (fun k κ=>(tb (ρ:=ρ) k).spec_l1bend x c p s (fun a b d=>κ (a,b,d))) fun r=>r.1.size ≤ 200001 ∧ Cur c r.2.1:=by
 refine st_spec_l1bend ?_
 unfold B_spec_l1bend
 have e0 : w ((x.size : Int) + 1) = (x.size : Int) + 1:=w_in (by omega)
 rw [e0]
 refine Tot.bind3 (l1Below_tot hp) fun a p1 s1 q=>Tot.bind3 (l1Below_tot q.2) fun b p2 s2 q2=>?_
 have h1:=q.1.1
 have h2:=q.1.2 (by omega)
 dsimp only at h1 h2
 have hq:=q2.2
 dsimp only at hq
 have s1 : (x.extract 0 a.toNat).size ≤ x.size:=by rw [ByteArray.size_extract];omega
 have s2 : ∀ n,(x.extract n x.size).size ≤ x.size:=fun n=>by rw [ByteArray.size_extract];omega
 refine Tot.bif (fun _=>?_) (fun _=>Tot.bif (fun _=>?_) (fun _=>Tot.bif (fun h=>?_) (fun h=>?_)))
 ·refine Tot.iteT h1 (Tot.iteT (by omega) (Tot.iteT h1 (Tot.iteT (by omega) (Tot.bind3 (one_of (by decide) hq) fun y p3 s3 q3=>?_))))
  have h3:=q3.1
  dsimp only at h3
  have:=s2 a.toNat
  exact Tot.iteT (by omega) (Tot.iteT (by rw [ByteArray.size_append];omega) (Tot.ret _ (fun k κ=>rfl) ⟨by simp only [ByteArray.size_append];omega,q3.2⟩))
 ·exact Tot.iteT h1 (Tot.iteT (by omega) (Tot.ret _ (fun k κ=>rfl) ⟨by show (x.extract 0 a.toNat).size ≤ _;omega,hq⟩))
 ·have h:=of_decide_eq_true h
  have e : w (a + 1) = a + 1:=w_in (by omega)
  rw [e]
  have:=s2 (a + 1).toNat
  exact Tot.iteT h1 (Tot.iteT (by omega) (Tot.iteT (by omega) (Tot.iteT (by omega) (Tot.iteT (by omega) (Tot.ret _ (fun k κ=>rfl) ⟨by simp only [ByteArray.size_append];omega,hq⟩)))))
 ·exact Tot.iteT (by omega) (Tot.ret _ (fun k κ=>rfl) ⟨by simp only [ByteArray.size_append,size_bs1];omega,hq⟩)
theorem l2pattern_tot {c : List Int} {p s : Int} (hp : Cur c p) : Tot (fun k κ=>(tb (ρ:=ρ) k).spec_l2pattern c p s (fun a b d=>κ (a,b,d))) fun r=>r.1.size ≤ 200001 ∧ Cur c r.2.1:=by
 refine st_spec_l2pattern ?_
 unfold B_spec_l2pattern
 refine Tot.bind3 (l2draw_tot 3 (by omega) hp) fun a p1 s1 q=>Tot.bind3 (l1Once_tot q.2) fun b p2 s2 q2=>?_
 have h1:=q.1
 dsimp only at h1
 have hb : bd 3 = 120:=rfl
 rw [hb] at h1
 exact Tot.bif (fun _=>Tot.bind3 (l1bend_tot (by omega) q2) fun y p3 s3 q3=>Tot.ret _ (fun k κ=>rfl) q3) fun _=>Tot.ret _ (fun k κ=>rfl) ⟨by show a.size ≤ _;omega,q2⟩
theorem l2more_tot (x : ByteArray) (p : Int) : Tot (fun k κ=>(tb (ρ:=ρ) k).spec_l2more x p (fun a=>κ a)) fun r=>r = decide (p < (x.size : Int)) :=
 st_spec_l2more (Tot.ret _ (fun k κ=>rfl) rfl)
theorem l2peek_tot {x : ByteArray} {p : Int} (hp : 0 ≤ p) : Tot (fun k κ=>(tb (ρ:=ρ) k).spec_l2peek x p (fun a=>κ a)) fun r=>r = 0 ∨ p < (x.size : Int):=by
 refine st_spec_l2peek ?_
 unfold B_spec_l2peek
 exact Tot.bif (fun h=>Tot.iteT hp (Tot.iteT (of_decide_eq_true h) (Tot.ret _ (fun k κ=>rfl) (.inr (of_decide_eq_true h))))) fun _=>Tot.ret _ (fun k κ=>rfl) (.inl rfl)
theorem l2has_s2_tot {x : ByteArray} {v : Int} (hx : x.size ≤ 1000) : ∀ (n : Nat) (i : Int),0 ≤ i → (x.size : Int) - i ≤ n → Tot (fun k κ=>(tb (ρ:=ρ) k).spec_l2has_s2 x v i (fun a=>κ a)) fun _=>True
 | n,i,hi,hn=>by
  refine st_spec_l2has_s2 ?_
  unfold B_spec_l2has_s2
  refine Tot.bif (fun h=>?_) (fun _=>Tot.ret _ (fun k κ=>rfl) trivial)
  have h1:=of_decide_eq_true h
  refine Tot.iteT hi (Tot.iteT h1 (Tot.bif (fun _=>Tot.ret _ (fun k κ=>rfl) trivial) fun _=>?_))
  cases n with
  | zero=>omega
  | succ n =>
   rw [show w (i + 1) = i + 1 from w_in (by omega)]
   exact l2has_s2_tot hx n (i + 1) (by omega) (by omega)
theorem l2has_tot {x : ByteArray} {v : Int} (hx : x.size ≤ 1000) : Tot (fun k κ=>(tb (ρ:=ρ) k).spec_l2has x v (fun a=>κ a)) fun _=>True:=by
 refine st_spec_l2has ?_
 unfold B_spec_l2has
 exact l2has_s2_tot hx x.size 0 (Int.le_refl _) (by omega)
theorem l2byte_tot (v : Int) : Tot (fun k κ=>(tb (ρ:=ρ) k).spec_l2byte v (fun a b c d=>κ (a,b,c,d))) fun r=>r.2.2.1.size ≤ 1000 ∧ r.2.2.2.length ≤ 1000:=by
 refine st_spec_l2byte ?_
 unfold B_spec_l2byte
 exact Tot.ret _ (fun k κ=>rfl) ⟨by show (strOfNums [_,_]).size ≤ 1000;exact Nat.le_trans (Nat.le_of_eq (by unfold strOfNums;simp [ByteArray.size])) (by decide : 2 ≤ 1000),Nat.zero_le _⟩
def SmN (x : Tt49) : Prop:=x.2.2.1.size ≤ 1000 ∧ x.2.2.2.length ≤ 1000
def Sm (l : List Tt49) : Prop:=∀ x,x ∈ l → SmN x
theorem Sm.nil : Sm []:=fun x h=>by cases h
theorem Sm.snoc {l : List Tt49} (h : Sm l) {x : Tt49} (hx : SmN x) : Sm (l ++ [x]):=fun y hy=>by
 rcases List.mem_append.mp hy with hy|hy
 ·exact h y hy
 ·rw [List.mem_singleton.mp hy];exact hx
def few (l : List Tt49) : Prop:=l.length ≤ 1000000
theorem l2node_tot {a : Int} {b : Bool} {s : ByteArray} {ks : List Int} {l : List Tt49} (hl : few l) : Tot (fun k κ=>(tb (ρ:=ρ) k).spec_l2node a b s ks l (fun a b=>κ (a,b))) fun r=>r.2.length = l.length + 1 ∧ (s.size ≤ 1000 → ks.length ≤ 1000 → Sm l → Sm r.2):=by
 refine st_spec_l2node ?_
 unfold B_spec_l2node
 unfold few at hl
 exact Tot.iteT (by omega) (Tot.ret _ (fun k κ=>rfl) ⟨by simp,fun h1 h2 h3=>h3.snoc ⟨h1,h2⟩⟩)
theorem l2node_1_tot {a : Int} {b : Bool} {s : ByteArray} {l : List Tt49} (hl : few l) : Tot (fun k κ=>(tb (ρ:=ρ) k).spec_l2node_1 a b s l (fun a b=>κ (a,b))) fun r=>r.2.length = l.length + 1 ∧ (s.size ≤ 1000 → Sm l → Sm r.2):=by
 refine st_spec_l2node_1 ?_
 unfold B_spec_l2node_1
 unfold few at hl
 exact Tot.iteT (by omega) (Tot.ret _ (fun k κ=>rfl) ⟨by simp,fun h1 h3=>h3.snoc ⟨h1,by show ([] : List Int).length ≤ 1000;decide⟩⟩)
structure Lft (x : ByteArray) (o : Int) (p : Int) (n : Nat) (S : Prop) (p' : Int) (l' : List Tt49) (bad : Bool) : Prop where
 lo : p ≤ p'
 hi : p' ≤ (x.size : Int) + o
 len : (l'.length : Int) ≤ n + 3 * (p' - p)
 good : bad = false → p' ≤ (x.size : Int) ∧ p < p' ∧ n < l'.length ∧ (l'.length : Int) ≤ n + 3 * (p' - p) - 2
 sm : S → Sm l'
theorem l2item_tot {x : ByteArray} {p : Int} (hx : x.size ≤ 200) (hp : 0 ≤ p) (hp2 : p ≤ (x.size : Int)) : Tot (fun k κ=>(tb (ρ:=ρ) k).spec_l2item x p false (fun a b c=>κ (a,b,c))) fun r=>p ≤ r.2.1 ∧ r.2.1 ≤ (x.size : Int) ∧ (r.2.2 = false → p < r.2.1):=by
 refine st_spec_l2item ?_
 unfold B_spec_l2item
 refine Tot.bind1 (l2more_tot x p) fun m hm=>Tot.bif (fun _=>Tot.ret _ (fun k κ=>rfl) ⟨Int.le_refl _,hp2,fun h=>by cases h⟩) fun hb=>?_
 subst hm
 have h1 : p < (x.size : Int):=by simpa using hb
 refine Tot.bind1 (l2peek_tot hp) fun v _=>Tot.bif (fun _=>Tot.ret _ (fun k κ=>rfl) ⟨Int.le_refl _,hp2,fun h=>by cases h⟩) fun _=>Tot.bind1 (l2peek_tot hp) fun v2 _=>Tot.bif (fun _=>?_) (fun _=>?_)
 ·have e1 : w (p + 1) = p + 1:=w_in (by omega)
  have e2 : w (p + 1 + 1) = p + 2:=by rw [w_in (by omega)];omega
  have e3 : w (p + 2 - 1) = p + 1:=by rw [w_in (by omega)];omega
  rw [e1,e2,e3]
  refine Tot.bind1 (l2more_tot x (p + 1)) fun m hm=>Tot.bif (fun _=>Tot.ret _ (fun k κ=>rfl) ⟨by show p ≤ p + 1;omega,by show p + 1 ≤ _;omega,fun h=>by cases h⟩) fun hb=>?_
  subst hm
  have h2 : p + 1 < (x.size : Int):=by simpa using hb
  exact Tot.iteT (by omega) (Tot.iteT h2 (Tot.ret _ (fun k κ=>rfl) ⟨by show p ≤ p + 2;omega,by show p + 2 ≤ _;omega,fun _=>by show p < p + 2;omega⟩))
 ·have e1 : w (p + 1) = p + 1:=w_in (by omega)
  have e2 : w (p + 1 - 1) = p:=by rw [w_in (by omega)];omega
  rw [e1,e2]
  exact Tot.iteT hp (Tot.iteT h1 (Tot.ret _ (fun k κ=>rfl) ⟨by show p ≤ p + 1;omega,by show p + 1 ≤ _;omega,fun _=>by show p < p + 1;omega⟩))
structure SetL (x : ByteArray) (p : Int) (n : Nat) (S : Prop) (p' : Int) (l' : List Tt49) (bad : Bool) : Prop where
 lo : p ≤ p'
 hi : p' ≤ (x.size : Int)
 len : l'.length ≤ n + 1
 more : n ≤ l'.length
 good : bad = false → p < p' ∧ l'.length = n + 1
 sm : S → Sm l'
theorem strNums_size (l : List Int) : (strOfNums l).size = l.length:=by unfold strOfNums;simp [ByteArray.size]
theorem set_end {x : ByteArray} {p : Int} {l : List Tt49} {ne : Bool} {k0 : Int} {acc ks : List Int} {bad : Bool} (hacc : (acc.length : Int) ≤ 400 ∨ bad = true) (hks : ks.length ≤ 1000) (hl : few l) (hp : 0 ≤ p) (hp2 : p ≤ (x.size : Int)) (hx : x.size ≤ 200) :
  Tot (fun (k : Nat) κ=>bif bad then ((tb (ρ:=ρ) k).spec_l2set_s19 x p l bad (fun a b c d=>κ (a,b,c,d))) else ((tb (ρ:=ρ) k).spec_l2peek x p (fun (v29 : Int)=>bif v29 != 93 then ((tb (ρ:=ρ) k).spec_l2set_s19 x p l bad (fun a b c d=>κ (a,b,c,d))) else ((tb (ρ:=ρ) k).spec_l2node k0 ne (strOfNums acc) ks l (fun (v30 : Int) (v31 : List Tt49)=>(fun a b c d=>κ (a,b,c,d)) v30 (w (p + 1)) v31 bad))))) fun r=>SetL x p l.length (Sm l) r.2.1 r.2.2.1 r.2.2.2:=by
 have out : Tot (fun k κ=>(tb (ρ:=ρ) k).spec_l2set_s19 x p l bad (fun a b c d=>κ (a,b,c,d))) fun r=>SetL x p l.length (Sm l) r.2.1 r.2.2.1 r.2.2.2:=by
  refine st_spec_l2set_s19 ?_
  unfold B_spec_l2set_s19
  exact Tot.ret _ (fun k κ=>rfl) ⟨Int.le_refl _,hp2,by show l.length ≤ _;omega,Nat.le_refl _,(fun h=>by cases h),fun h=>h⟩
 refine Tot.bif (fun _=>out) fun hb=>Tot.bind1 (l2peek_tot hp) fun v hv=>Tot.bif (fun _=>out) fun h93=>?_
 have hlt : p < (x.size : Int):=by
  rcases hv with rfl|h
  ·exact absurd h93 (by decide)
  ·exact h
 rw [show w (p + 1) = p + 1 from w_in (by omega)]
 exact Tot.bind2 (l2node_tot hl) fun a l' h=>Tot.ret _ (fun k κ=>rfl) ⟨by show p ≤ p + 1;omega,by show p + 1 ≤ _;omega,by have h : l'.length = _:=h.1;show l'.length ≤ _;omega,by have h : l'.length = _:=h.1;show _ ≤ l'.length;omega,fun _=>⟨by show p < p + 1;omega,h.1⟩,fun hs=>h.2 (by rw [strNums_size];exact hacc.elim (fun h=>by omega) (fun h=>by rw [hb] at h;cases h)) hks hs⟩
theorem l2set_tot_s8 {x : ByteArray} (hx : x.size ≤ 200) {l : List Tt49} (hl : few l) {k0 : Int} {ne : Bool} {ks : List Int} (hks : ks.length ≤ 1000) {st : ByteArray} :
  ∀ (n : Nat) (p : Int) (first : Bool) (acc : List Int) (bad : Bool),0 ≤ p → p ≤ (x.size : Int) → (bad = false → (acc.length : Int) ≤ 2 * p ∧ (x.size : Int) - p + 1 ≤ n) →
   Tot (fun k κ=>(tb (ρ:=ρ) k).spec_l2set_s8 first acc x p l bad k0 ne st ks (fun a b c d=>κ (a,b,c,d))) fun r=>SetL x p l.length (Sm l) r.2.1 r.2.2.1 r.2.2.2
 | n,p,first,acc,bad,hp,hp2,hn=>by
  refine st_spec_l2set_s8 ?_
  unfold B_spec_l2set_s8
  have hacc : (acc.length : Int) ≤ 400 ∨ bad = true:=by
   cases bad with
   | true=>exact .inr rfl
   | false=>left;have:=(hn rfl).1;omega
  have fin:=set_end (ρ:=ρ) (ne:=ne) (k0:=k0) (acc:=acc) (ks:=ks) (bad:=bad) hacc hks hl hp hp2 hx
  refine Tot.bif (fun hb=>?_) (fun _=>fin)
  have hb : bad = false:=by simpa using hb
  subst hb
  obtain ⟨ha,hm⟩:=hn rfl
  -- behind the items
  have go : ∀ (a b : Int) (f1 f2 f3 : Bool) (p' : Int) (bad' : Bool),p ≤ p' → p' ≤ (x.size : Int) → (bad' = false → p < p') →
    Tot (fun k κ=>(tb (ρ:=ρ) k).spec_l2set_s15 a b f1 f2 f3 acc x p' l bad' k0 ne st ks (fun a b c d=>κ (a,b,c,d))) fun r=>SetL x p l.length (Sm l) r.2.1 r.2.2.1 r.2.2.2:=fun a b f1 f2 f3 p' bad' h1 h2 h3=>by
   have s17 : ∀ bad'' : Bool,(bad'' = false → p < p') → Tot (fun k κ=>(tb (ρ:=ρ) k).spec_l2set_s17 a b f1 f2 f3 acc x p' l bad'' k0 ne st ks (fun a b c d=>κ (a,b,c,d))) fun r=>SetL x p l.length (Sm l) r.2.1 r.2.2.1 r.2.2.2:=fun bad'' h4=>by
    refine st_spec_l2set_s17 ?_
    unfold B_spec_l2set_s17
    refine Tot.iteT (by omega) ?_
    cases n with
    | zero=>omega
    | succ n =>
     exact (l2set_tot_s8 hx hl hks n p' false (acc ++ [a,b]) bad'' (by omega) h2 fun h=>⟨by have:=h4 h;simp;omega,by have:=h4 h;omega⟩).imp fun r hr=>⟨Int.le_trans h1 hr.lo,hr.hi,hr.len,hr.more,fun h=>⟨by have:=(hr.good h).1;omega,(hr.good h).2⟩,hr.sm⟩
   refine st_spec_l2set_s15 ?_
   unfold B_spec_l2set_s15
   exact Tot.bif (fun _=>s17 true fun h=>by cases h) fun _=>s17 bad' h3
  have two : ∀ (f1 f2 f3 : Bool),Tot (fun (k : Nat) κ=>(tb (ρ:=ρ) k).spec_l2item x p false (fun (v15 : Int) (v16 : Int) (v17 : Bool)=>bif !v17 then (bif decide ((w (v16 + 1)) < (x.size : Int)) then (if (0 : Int) ≤ v16 then if v16 < (x.size : Int) then bif (bt x v16) == 45 then (if (0 : Int) ≤ (w (v16 + 1)) then if (w (v16 + 1)) < (x.size : Int) then bif (bt x (w (v16 + 1))) != 93 then ((tb (ρ:=ρ) k).spec_l2item x (w (v16 + 1)) v17 (fun (v18 : Int) (v19 : Int) (v20 : Bool)=>(tb (ρ:=ρ) k).spec_l2set_s15 v15 v18 f1 f2 f3 acc x v19 l v20 k0 ne st ks (fun a b c d=>κ (a,b,c,d)))) else ((tb (ρ:=ρ) k).spec_l2set_s15 v15 v15 f1 f2 f3 acc x v16 l v17 k0 ne st ks (fun a b c d=>κ (a,b,c,d))) else none else none) else ((tb (ρ:=ρ) k).spec_l2set_s15 v15 v15 f1 f2 f3 acc x v16 l v17 k0 ne st ks (fun a b c d=>κ (a,b,c,d))) else none else none) else ((tb (ρ:=ρ) k).spec_l2set_s15 v15 v15 f1 f2 f3 acc x v16 l v17 k0 ne st ks (fun a b c d=>κ (a,b,c,d)))) else ((tb (ρ:=ρ) k).spec_l2set_s15 v15 v15 f1 f2 f3 acc x v16 l v17 k0 ne st ks (fun a b c d=>κ (a,b,c,d))))) fun r=>SetL x p l.length (Sm l) r.2.1 r.2.2.1 r.2.2.2:=fun f1 f2 f3=>by
   refine Tot.bind3 (l2item_tot hx hp hp2) fun a p1 b1 q=>?_
   obtain ⟨q1,q2,q3⟩:=q
   dsimp only at q1 q2 q3
   refine Tot.bif (fun hb=>?_) (fun _=>go _ _ _ _ _ _ _ q1 q2 q3)
   have hb : b1 = false:=by simpa using hb
   subst hb
   have q4:=q3 rfl
   rw [show w (p1 + 1) = p1 + 1 from w_in (by omega)]
   refine Tot.bif (fun h=>?_) (fun _=>go _ _ _ _ _ _ _ q1 q2 q3)
   have h:=of_decide_eq_true h
   refine Tot.iteT (by omega) (Tot.iteT (by omega) (Tot.bif (fun _=>?_) (fun _=>go _ _ _ _ _ _ _ q1 q2 q3)))
   refine Tot.iteT (by omega) (Tot.iteT h (Tot.bif (fun _=>?_) (fun _=>go _ _ _ _ _ _ _ q1 q2 q3)))
   refine Tot.bind3 (l2item_tot hx (by omega) (by omega)) fun a2 p2 b2 r=>?_
   obtain ⟨r1,r2,r3⟩:=r
   dsimp only at r1 r2 r3
   exact go _ _ _ _ _ _ _ (by omega) r2 fun _=>by omega
  refine Tot.bif (fun hf=>?_) (fun hf=>?_)
  ·exact two _ _ _
  ·refine Tot.bind1 (l2more_tot x p) fun m _=>Tot.bif (fun _=>?_) (fun _=>fin)
   exact Tot.bind1 (l2peek_tot hp) fun v _=>Tot.bif (fun _=>two _ _ _) (fun _=>fin)
theorem l2set_tot {x : ByteArray} (hx : x.size ≤ 200) {l : List Tt49} (hl : few l) {p : Int} (hp : 0 ≤ p) (hp2 : p < (x.size : Int)) :
  Tot (fun k κ=>(tb (ρ:=ρ) k).spec_l2set x p l false (fun a b c d=>κ (a,b,c,d))) fun r=>SetL x (p + 1) l.length (Sm l) r.2.1 r.2.2.1 r.2.2.2:=by
 refine st_spec_l2set ?_
 unfold B_spec_l2set
 rw [show w (p + 1) = p + 1 from w_in (by omega),show w (p + 1 + 1) = p + 1 + 1 from w_in (by omega)]
 refine Tot.bind1 (l2peek_tot (by omega)) fun v hv=>Tot.bif (fun h=>?_) (fun _=>?_)
 ·have hlt : p + 1 < (x.size : Int):=by
   rcases hv with rfl|h'
   ·exact absurd h (by decide)
   ·exact h'
  exact (l2set_tot_s8 hx hl (by decide) (x.size + 1) (p + 1 + 1) true [] false (by omega) (by omega) fun _=>⟨by simp;omega,by omega⟩).imp fun r hr=>⟨by have:=hr.lo;omega,hr.hi,hr.len,hr.more,fun h=>⟨by have:=(hr.good h).1;omega,(hr.good h).2⟩,hr.sm⟩
 ·exact l2set_tot_s8 hx hl (by decide) (x.size + 1) (p + 1) true [] false (by omega) (by omega) fun _=>⟨by simp;omega,by omega⟩
def AtomT (ρ : Type) (x : ByteArray) (n : Nat) : Prop:=∀ (dp p : Int) (l : List Tt49),0 ≤ dp → dp ≤ 20 → 0 ≤ p → p ≤ (x.size : Int) → (x.size : Int) - p ≤ n → (l.length : Int) ≤ 3 * p →
 Tot (fun k κ=>(tb (ρ:=ρ) k).spec_l2atom dp x p l false (fun a b c d=>κ (a,b,c,d))) fun r=>Lft x (20 - dp) p l.length (Sm l) r.2.1 r.2.2.1 r.2.2.2
def RepT (ρ : Type) (x : ByteArray) (n : Nat) : Prop:=∀ (dp p : Int) (l : List Tt49),0 ≤ dp → dp ≤ 20 → 0 ≤ p → p ≤ (x.size : Int) → (x.size : Int) - p ≤ n → (l.length : Int) ≤ 3 * p →
 Tot (fun k κ=>(tb (ρ:=ρ) k).spec_l2rep dp x p l false (fun a b c d=>κ (a,b,c,d))) fun r=>Lft x (20 - dp) p l.length (Sm l) r.2.1 r.2.2.1 r.2.2.2
def SeqT (ρ : Type) (x : ByteArray) (n : Nat) : Prop:=∀ (dp p : Int) (l : List Tt49),0 ≤ dp → dp ≤ 20 → 0 ≤ p → p ≤ (x.size : Int) → (x.size : Int) - p ≤ n → (l.length : Int) ≤ 3 * p →
 Tot (fun k κ=>(tb (ρ:=ρ) k).spec_l2seq dp x p l false (fun a b c d=>κ (a,b,c,d))) fun r=>Lft x (20 - dp) p l.length (Sm l) r.2.1 r.2.2.1 r.2.2.2
def AltT (ρ : Type) (x : ByteArray) (n : Nat) : Prop:=∀ (dp p : Int) (l : List Tt49),0 ≤ dp → dp ≤ 20 → 0 ≤ p → p ≤ (x.size : Int) → (x.size : Int) - p ≤ n → (l.length : Int) ≤ 3 * p →
 Tot (fun k κ=>(tb (ρ:=ρ) k).spec_l2alt dp x p l false (fun a b c d=>κ (a,b,c,d))) fun r=>Lft x (20 - dp) p l.length (Sm l) r.2.1 r.2.2.1 r.2.2.2
theorem fewOf {l : List Tt49} {p : Int} (h : (l.length : Int) ≤ 3 * p) (hp : p ≤ 300) : few l:=by unfold few;omega
theorem atom_tot {x : ByteArray} (hx : x.size ≤ 200) {n : Nat} (ih : ∀ m,m < n → AltT ρ x m) : AtomT ρ x n:=fun dp p l hd hd2 hp hp2 hn hl=>by
 have hf : few l:=fewOf hl (by omega)
 refine st_spec_l2atom ?_
 unfold B_spec_l2atom
 have hw1 : w (p + 1) = p + 1:=w_in (by omega)
 have hw2 : w (p + 1 + 1) = p + 2:=by rw [w_in (by omega)];omega
 have hw3 : w (p + 2 - 1) = p + 1:=by rw [w_in (by omega)];omega
 rw [hw1,hw2,hw3]
 have bad0 : ∀ p',p ≤ p' → p' ≤ (x.size : Int) → Lft x (20 - dp) p l.length (Sm l) p' l true:=fun p' h1 h2=>⟨h1,by omega,by omega,(fun h=>by cases h),fun h=>h⟩
 refine Tot.bind1 (l2peek_tot hp) fun v hv=>Tot.bind1 (l2more_tot x p) fun m hm=>Tot.bif (fun _=>Tot.ret _ (fun k κ=>rfl) (bad0 p (Int.le_refl _) hp2)) fun hb=>?_
 subst hm
 have hlt : p < (x.size : Int):=by simpa using hb
 refine Tot.bind1 (l2has_tot (by decide)) fun h _=>Tot.bif (fun _=>Tot.ret _ (fun k κ=>rfl) (bad0 p (Int.le_refl _) hp2)) fun _=>?_
 have one : ∀ l' : List Tt49,l'.length = l.length + 1 → (Sm l → Sm l') → ∀ p',p < p' → p' ≤ (x.size : Int) → Lft x (20 - dp) p l.length (Sm l) p' l' false:=fun l' h hsm p' h1 h2=>⟨by omega,by omega,by omega,fun _=>⟨h2,h1,by omega,by omega⟩,hsm⟩
 refine Tot.bif (fun _=>?_) (fun _=>?_)
 ·refine Tot.bif (fun _=>Tot.ret _ (fun k κ=>rfl) (bad0 p (Int.le_refl _) hp2)) fun hne=>?_
  have hne : dp ≠ 20:=by simpa using hne
  rw [show w (dp + 1) = dp + 1 from w_in (by omega)]
  cases n with
  | zero=>omega
  | succ n =>
   refine Tot.bind4 (ih n (by omega) (dp + 1) (p + 1) l (by omega) (by omega) (by omega) (by omega) (by omega) (by omega)) fun a p1 l1 b1 q=>?_
   obtain ⟨q1,q2,q3,q4,q5⟩:=q
   dsimp only at q1 q2 q3 q4 q5
   refine Tot.bind1 (l2peek_tot (by omega)) fun v2 hv2=>?_
   rw [show w (p1 + 1) = p1 + 1 from w_in (by omega)]
   refine Tot.bif (fun _=>Tot.ret _ (fun k κ=>rfl) ⟨by show p ≤ p1 + 1;omega,by show p1 + 1 ≤ _;omega,by show (l1.length : Int) ≤ _ + 3 * (p1 + 1 - p);omega,(fun h=>by cases h),q5⟩) fun h41=>?_
   have hlt1 : p1 < (x.size : Int):=by
    rcases hv2 with rfl|h
    ·exact absurd h41 (by decide)
    ·exact h
   exact Tot.ret _ (fun k κ=>rfl) ⟨by show p ≤ p1 + 1;omega,by show p1 + 1 ≤ _;omega,by show (l1.length : Int) ≤ _ + 3 * (p1 + 1 - p);omega,fun h=>by
    obtain ⟨g1,g2,g3,g4⟩:=q4 h
    exact ⟨by show p1 + 1 ≤ _;omega,by show p < p1 + 1;omega,g3,by show (l1.length : Int) ≤ _ + 3 * (p1 + 1 - p) - 2;omega⟩,q5⟩
 refine Tot.bif (fun _=>?_) (fun _=>?_)
 ·refine Tot.bind4 (l2set_tot hx hf hp hlt) fun a p1 l1 b1 q=>Tot.ret _ (fun k κ=>rfl) ?_
  obtain ⟨q1,q2,q3,q4,q5,q6⟩:=q
  dsimp only at q1 q2 q3 q4 q5 q6
  exact ⟨by show p ≤ p1;omega,by show p1 ≤ _;omega,by show (l1.length : Int) ≤ _ + 3 * (p1 - p);omega,fun h=>by
   obtain ⟨g1,g2⟩:=q5 h
   exact ⟨q2,by show p < p1;omega,by show l.length < l1.length;omega,by show (l1.length : Int) ≤ _ + 3 * (p1 - p) - 2;omega⟩,q6⟩
 refine Tot.bif (fun _=>Tot.bind2 (l2node_1_tot hf) fun a l1 h=>Tot.ret _ (fun k κ=>rfl) (one l1 h.1 (h.2 (by decide)) (p + 1) (by omega) (by omega))) fun _=>?_
 refine Tot.bif (fun _=>Tot.bind2 (l2node_1_tot hf) fun a l1 h=>Tot.ret _ (fun k κ=>rfl) (one l1 h.1 (h.2 (by decide)) (p + 1) (by omega) (by omega))) fun _=>?_
 refine Tot.bif (fun _=>Tot.bind2 (l2node_1_tot hf) fun a l1 h=>Tot.ret _ (fun k κ=>rfl) (one l1 h.1 (h.2 (by decide)) (p + 1) (by omega) (by omega))) fun _=>?_
 refine Tot.bif (fun _=>?_) (fun _=>?_)
 ·refine Tot.bind1 (l2more_tot x (p + 1)) fun m hm=>Tot.bif (fun _=>Tot.ret _ (fun k κ=>rfl) (bad0 (p + 1) (by omega) (by omega))) fun hb=>?_
  subst hm
  have h2 : p + 1 < (x.size : Int):=by simpa using hb
  exact Tot.iteT (by omega) (Tot.iteT h2 (Tot.bind4 (l2byte_tot _) fun _ _ _ _ hy=>Tot.bind2 (l2node_tot hf) fun a l1 h=>Tot.ret _ (fun k κ=>rfl) (one l1 h.1 (h.2 hy.1 hy.2) (p + 2) (by omega) (by omega))))
 ·exact Tot.bind4 (l2byte_tot _) fun _ _ _ _ hy=>Tot.bind2 (l2node_tot hf) fun a l1 h=>Tot.ret _ (fun k κ=>rfl) (one l1 h.1 (h.2 hy.1 hy.2) (p + 1) (by omega) (by omega))
theorem rep_s2_tot {x : ByteArray} (hx : x.size ≤ 200) : ∀ (n : Nat) (k0 p : Int) (l : List Tt49) (bad : Bool),0 ≤ p → p ≤ 300 → (bad = false → p ≤ (x.size : Int) ∧ (x.size : Int) - p ≤ n) → (l.length : Int) ≤ 3 * p →
  Tot (fun k κ=>(tb (ρ:=ρ) k).spec_l2rep_s2 k0 x p l bad (fun a b c d=>κ (a,b,c,d))) fun r=>(r.2.1 = p ∧ r.2.2.1 = l ∧ r.2.2.2 = bad) ∨ (bad = false ∧ r.2.2.2 = false ∧ p < r.2.1 ∧ r.2.1 ≤ (x.size : Int) ∧ l.length ≤ r.2.2.1.length ∧ (r.2.2.1.length : Int) ≤ l.length + (r.2.1 - p) ∧ (Sm l → Sm r.2.2.1))
 | n,k0,p,l,bad,hp,hp3,hn,hl=>by
  have hf : few l:=fewOf hl hp3
  refine st_spec_l2rep_s2 ?_
  unfold B_spec_l2rep_s2
  have out : Tot (fun (k : Nat) (κ : Int × Int × List Tt49 × Bool → Option ρ)=>(fun a b c d=>κ (a,b,c,d)) k0 p l bad) fun r=>(r.2.1 = p ∧ r.2.2.1 = l ∧ r.2.2.2 = bad) ∨ (bad = false ∧ r.2.2.2 = false ∧ p < r.2.1 ∧ r.2.1 ≤ (x.size : Int) ∧ l.length ≤ r.2.2.1.length ∧ (r.2.2.1.length : Int) ≤ l.length + (r.2.1 - p) ∧ (Sm l → Sm r.2.2.1)):=Tot.ret _ (fun k κ=>rfl) (.inl ⟨rfl,rfl,rfl⟩)
  refine Tot.bif (fun hb=>?_) (fun _=>out)
  have hb : bad = false:=by simpa using hb
  subst hb
  obtain ⟨hp2,hm⟩:=hn rfl
  refine Tot.bind1 (l2more_tot x p) fun m hmo=>Tot.bif (fun hmt=>?_) (fun _=>out)
  subst hmo
  have hlt : p < (x.size : Int):=of_decide_eq_true hmt
  refine Tot.bind1 (l2peek_tot hp) fun v _=>Tot.bind1 (l2has_tot (by decide)) fun h _=>Tot.bif (fun _=>?_) (fun _=>out)
  rw [show w (p + 1) = p + 1 from w_in (by omega)]
  cases n with
  | zero=>omega
  | succ n =>
   have next : ∀ (k1 : Int) (l1 : List Tt49),l1.length = l.length + 1 → (Sm l → Sm l1) → Tot (fun k κ=>(tb (ρ:=ρ) k).spec_l2rep_s2 k1 x (p + 1) l1 false (fun a b c d=>κ (a,b,c,d))) fun r=>(r.2.1 = p ∧ r.2.2.1 = l ∧ r.2.2.2 = false) ∨ (false = false ∧ r.2.2.2 = false ∧ p < r.2.1 ∧ r.2.1 ≤ (x.size : Int) ∧ l.length ≤ r.2.2.1.length ∧ (r.2.2.1.length : Int) ≤ l.length + (r.2.1 - p) ∧ (Sm l → Sm r.2.2.1)):=fun k1 l1 h1 hs1 =>
    (rep_s2_tot hx n k1 (p + 1) l1 false (by omega) (by omega) (fun _=>⟨by omega,by omega⟩) (by omega)).imp fun r hr=>by
     right
     rcases hr with ⟨e1,e2,e3⟩|⟨_,e3,e4,e5,e6,e7,e8⟩
     ·exact ⟨rfl,e3,by omega,by omega,by rw [e2];omega,by rw [e2];omega,by rw [e2];exact hs1⟩
     ·exact ⟨rfl,e3,by omega,by omega,by omega,by omega,fun h=>e8 (hs1 h)⟩
   refine Tot.bind1 (l2peek_tot hp) fun v2 _=>Tot.bif (fun _=>Tot.bind2 (l2node_tot hf) fun a l1 h1=>next a l1 h1.1 (h1.2 (by decide) (by show (1 : Nat) ≤ 1000;decide))) fun _=>Tot.bif (fun _=>Tot.bind2 (l2node_tot hf) fun a l1 h1=>next a l1 h1.1 (h1.2 (by decide) (by show (1 : Nat) ≤ 1000;decide))) fun _=>Tot.bind2 (l2node_tot hf) fun a l1 h1=>next a l1 h1.1 (h1.2 (by decide) (by show (1 : Nat) ≤ 1000;decide))
theorem rep_tot {x : ByteArray} (hx : x.size ≤ 200) {n : Nat} (hA : AtomT ρ x n) : RepT ρ x n:=fun dp p l hd hd2 hp hp2 hn hl=>by
 refine st_spec_l2rep ?_
 unfold B_spec_l2rep
 refine Tot.bind4 (hA dp p l hd hd2 hp hp2 hn hl) fun a p1 l1 b1 q=>?_
 obtain ⟨q1,q2,q3,q4,q5⟩:=q
 dsimp only at q1 q2 q3 q4 q5
 refine (rep_s2_tot hx n a p1 l1 b1 (by omega) (by omega) (fun h=>⟨(q4 h).1,by have:=(q4 h).2.1;omega⟩) (by omega)).imp fun r hr=>?_
 rcases hr with ⟨e1,e2,e3⟩|⟨e0,e3,e4,e5,e6,e7,e8⟩
 ·rw [e1,e2,e3]
  exact ⟨q1,q2,q3,q4,q5⟩
 ·obtain ⟨g1,g2,g3,g4⟩:=q4 e0
  exact ⟨by omega,by omega,by omega,fun _=>⟨e5,by omega,by omega,by omega⟩,fun h=>e8 (q5 h)⟩
structure Gat (x : ByteArray) (o p0 : Int) (n0 : Nat) (S : Prop) (m : Nat) (p : Int) (l : List Tt49) (bad : Bool) : Prop where
 m1 : 1 ≤ m
 lo : p0 ≤ p
 hi : p ≤ (x.size : Int) + o
 len : bad = true → (l.length : Int) ≤ n0 + 3 * (p - p0) - 2 * m + 2
 good : bad = false → p ≤ (x.size : Int) ∧ p0 < p ∧ n0 < l.length ∧ (l.length : Int) ≤ n0 + 3 * (p - p0) - 2 * m
 sm : S → Sm l
theorem Gat.all {x : ByteArray} {o p0 : Int} {n0 m : Nat} {S : Prop} {p : Int} {l : List Tt49} {bad : Bool} (h : Gat x o p0 n0 S m p l bad) : (l.length : Int) ≤ n0 + 3 * (p - p0) - 2 * m + 2:=by
 cases bad with
 | true=>exact h.len rfl
 | false=>have:=(h.good rfl).2.2.2;omega
theorem gather_end {x : ByteArray} (hx : x.size ≤ 200) {o p0 : Int} {n0 : Nat} {S : Prop} {k1 : Int} {kids : List Int} {p : Int} {l : List Tt49} {bad : Bool} (ho : o ≤ 20) (hp0 : 0 ≤ p0) (hn0 : (n0 : Int) ≤ 3 * p0) (h : Gat x o p0 n0 S kids.length p l bad) :
  Tot (fun (k : Nat) κ=>bif (kids.length : Int) == 1 then (if (0 : Int) < (kids.length : Int) then (fun a b c d=>κ (a,b,c,d)) (elI .i64 kids 0) p l bad else none) else ((tb (ρ:=ρ) k).spec_l2node k1 false (bs []) kids l (fun (v27 : Int) (v28 : List Tt49)=>(fun a b c d=>κ (a,b,c,d)) v27 p v28 bad))) fun r=>Lft x o p0 n0 S r.2.1 r.2.2.1 r.2.2.2:=by
 have hall:=h.all
 obtain ⟨m1,lo,hi,len,good,sm⟩:=h
 refine Tot.bif (fun h1=>?_) (fun h1=>?_)
 ·have h1 : (kids.length : Int) = 1:=by simpa using h1
  refine Tot.iteT (by omega) (Tot.ret _ (fun k κ=>rfl) ⟨lo,hi,by show (l.length : Int) ≤ _ + 3 * (p - p0);omega,fun hb=>?_,sm⟩)
  obtain ⟨g1,g2,g3,g4⟩:=good hb
  exact ⟨g1,g2,g3,by show (l.length : Int) ≤ _ + 3 * (p - p0) - 2;omega⟩
 ·have h1 : (kids.length : Int) ≠ 1:=by simpa using h1
  refine Tot.bind2 (l2node_tot (by unfold few;omega)) fun a l1 hl1=>Tot.ret _ (fun k κ=>rfl) ?_
  have hl2:=hl1.2
  have hl1 : l1.length = l.length + 1:=hl1.1
  refine ⟨lo,hi,by show (l1.length : Int) ≤ _ + 3 * (p - p0);omega,fun hb=>?_,fun h=>hl2 (by decide) (by omega) (sm h)⟩
  obtain ⟨g1,g2,g3,g4⟩:=good hb
  exact ⟨g1,g2,by show n0 < l1.length;omega,by show (l1.length : Int) ≤ _ + 3 * (p - p0) - 2;omega⟩
theorem Gat.start {x : ByteArray} {o p0 : Int} {n0 : Nat} {S : Prop} {p : Int} {l : List Tt49} {bad : Bool} (h : Lft x o p0 n0 S p l bad) : Gat x o p0 n0 S 1 p l bad :=
 ⟨Nat.le_refl _,h.lo,h.hi,fun _=>by have:=h.len;omega,(fun hb=>by obtain ⟨g1,g2,g3,g4⟩:=h.good hb;exact ⟨g1,g2,g3,by omega⟩),h.sm⟩
theorem Gat.next {x : ByteArray} {o p0 : Int} {n0 m : Nat} {S : Prop} {p p1 p2 : Int} {l l2 : List Tt49} {bad : Bool} (h : Gat x o p0 n0 S m p l false) (h1 : p ≤ p1) (h2 : Lft x o p1 l.length (Sm l) p2 l2 bad) : Gat x o p0 n0 S (m + 1) p2 l2 bad:=by
 obtain ⟨g1,g2,g3,g4⟩:=h.good rfl
 refine ⟨by omega,by have:=h2.lo;omega,h2.hi,fun _=>by have:=h2.len;have:=h2.lo;omega,fun hb=>?_,fun hs=>h2.sm (h.sm hs)⟩
 obtain ⟨f1,f2,f3,f4⟩:=h2.good hb
 exact ⟨f1,by omega,by omega,by omega⟩
theorem seq_s2_tot {x : ByteArray} (hx : x.size ≤ 200) {p0 : Int} {n0 : Nat} {S : Prop} (hp0 : 0 ≤ p0) (hn0 : (n0 : Int) ≤ 3 * p0) {N : Nat} (hR : RepT ρ x N) {dp : Int} (hd : 0 ≤ dp) (hd2 : dp ≤ 20) : ∀ (n : Nat) (kids : List Int) (p : Int) (l : List Tt49) (bad : Bool),n ≤ N → Gat x (20 - dp) p0 n0 S kids.length p l bad → (bad = false → (x.size : Int) - p ≤ n) →
  Tot (fun k κ=>(tb (ρ:=ρ) k).spec_l2seq_s2 dp kids x p l bad (fun a b c d=>κ (a,b,c,d))) fun r=>Lft x (20 - dp) p0 n0 S r.2.1 r.2.2.1 r.2.2.2
 | n,kids,p,l,bad,hnN,hG,hn=>by
  have fin : Tot (fun k κ=>(tb (ρ:=ρ) k).spec_l2seq_s4 kids x p l bad (fun a b c d=>κ (a,b,c,d))) fun r=>Lft x (20 - dp) p0 n0 S r.2.1 r.2.2.1 r.2.2.2:=by
   refine st_spec_l2seq_s4 ?_
   unfold B_spec_l2seq_s4
   exact gather_end hx (by omega) hp0 hn0 hG
  refine st_spec_l2seq_s2 ?_
  unfold B_spec_l2seq_s2
  refine Tot.bif (fun hb=>?_) (fun _=>fin)
  have hb : bad = false:=by simpa using hb
  subst hb
  have hm:=hn rfl
  obtain ⟨g1,g2,g3,g4⟩:=hG.good rfl
  have hlo:=hG.lo
  refine Tot.bind1 (l2more_tot x p) fun m hmo=>Tot.bif (fun hmt=>?_) (fun _=>fin)
  subst hmo
  have hlt : p < (x.size : Int):=of_decide_eq_true hmt
  refine Tot.bind1 (l2peek_tot (by omega)) fun v _=>Tot.bif (fun _=>?_) (fun _=>fin)
  refine Tot.bind1 (l2peek_tot (by omega)) fun v2 _=>Tot.bif (fun _=>?_) (fun _=>fin)
  refine Tot.bind4 (hR dp p l hd hd2 (by omega) (by omega) (by omega) (by omega)) fun a p1 l1 b1 q=>?_
  dsimp only at q
  refine Tot.iteT (by omega) ?_
  have hG2:=hG.next (Int.le_refl _) q
  cases n with
  | zero=>omega
  | succ n =>
   exact seq_s2_tot hx hp0 hn0 hR hd hd2 n (kids ++ [a]) p1 l1 b1 (by omega) (by simpa using hG2) fun hb=>by have:=(q.good hb).2.1;omega
theorem seq_tot {x : ByteArray} (hx : x.size ≤ 200) {n : Nat} (hR : RepT ρ x n) : SeqT ρ x n:=fun dp p l hd hd2 hp hp2 hn hl=>by
 refine st_spec_l2seq ?_
 unfold B_spec_l2seq
 refine Tot.bind4 (hR dp p l hd hd2 hp hp2 hn hl) fun a p1 l1 b1 q=>?_
 dsimp only at q
 exact seq_s2_tot hx hp hl hR hd hd2 n [a] p1 l1 b1 (Nat.le_refl _) (Gat.start q) fun hb=>by have:=(q.good hb).2.1;omega
theorem alt_s2_tot {x : ByteArray} (hx : x.size ≤ 200) {p0 : Int} {n0 : Nat} {S : Prop} (hp0 : 0 ≤ p0) (hn0 : (n0 : Int) ≤ 3 * p0) {N : Nat} (hS : SeqT ρ x N) {dp : Int} (hd : 0 ≤ dp) (hd2 : dp ≤ 20) : ∀ (n : Nat) (kids : List Int) (p : Int) (l : List Tt49) (bad : Bool),n ≤ N → Gat x (20 - dp) p0 n0 S kids.length p l bad → (bad = false → (x.size : Int) - p ≤ n) →
  Tot (fun k κ=>(tb (ρ:=ρ) k).spec_l2alt_s2 dp kids x p l bad (fun a b c d=>κ (a,b,c,d))) fun r=>Lft x (20 - dp) p0 n0 S r.2.1 r.2.2.1 r.2.2.2
 | n,kids,p,l,bad,hnN,hG,hn=>by
  have fin:=gather_end (ρ:=ρ) (k1:=4) hx (by omega) hp0 hn0 hG
  refine st_spec_l2alt_s2 ?_
  unfold B_spec_l2alt_s2
  refine Tot.bif (fun hb=>?_) (fun _=>fin)
  have hb : bad = false:=by simpa using hb
  subst hb
  have hm:=hn rfl
  obtain ⟨g1,g2,g3,g4⟩:=hG.good rfl
  have hlo:=hG.lo
  refine Tot.bind1 (l2more_tot x p) fun m hmo=>Tot.bif (fun hmt=>?_) (fun _=>fin)
  subst hmo
  have hlt : p < (x.size : Int):=of_decide_eq_true hmt
  refine Tot.bind1 (l2peek_tot (by omega)) fun v _=>Tot.bif (fun _=>?_) (fun _=>fin)
  rw [show w (p + 1) = p + 1 from w_in (by omega)]
  refine Tot.bind4 (hS dp (p + 1) l hd hd2 (by omega) (by omega) (by omega) (by omega)) fun a p1 l1 b1 q=>?_
  dsimp only at q
  refine Tot.iteT (by omega) ?_
  have hG2:=hG.next (by omega) q
  cases n with
  | zero=>omega
  | succ n =>
   exact alt_s2_tot hx hp0 hn0 hS hd hd2 n (kids ++ [a]) p1 l1 b1 (by omega) (by simpa using hG2) fun hb=>by have:=(q.good hb).2.1;omega
theorem alt_tot {x : ByteArray} (hx : x.size ≤ 200) {n : Nat} (hS : SeqT ρ x n) : AltT ρ x n:=fun dp p l hd hd2 hp hp2 hn hl=>by
 refine st_spec_l2alt ?_
 unfold B_spec_l2alt
 refine Tot.bind4 (hS dp p l hd hd2 hp hp2 hn hl) fun a p1 l1 b1 q=>?_
 dsimp only at q
 exact alt_s2_tot hx hp hl hS hd hd2 n [a] p1 l1 b1 (Nat.le_refl _) (Gat.start q) fun hb=>by have:=(q.good hb).2.1;omega
theorem alt_all {x : ByteArray} (hx : x.size ≤ 200) : ∀ (n : Nat),AltT ρ x n:=fun n=>by
 induction n using Nat.strongRecOn with
 | ind n ih=>exact alt_tot hx (seq_tot hx (rep_tot hx (atom_tot hx ih)))
theorem ReParse_tot (x : ByteArray) : Tot (fun k κ=>(tb (ρ:=ρ) k).spec_ReParse x (fun a b=>κ (a,b))) fun r=>r.1.length ≤ 200 ∧ (r.2 = true → 0 < r.1.length) ∧ Sm r.1:=by
 refine st_spec_ReParse ?_
 unfold B_spec_ReParse
 have out : Tot (fun (k : Nat) (κ : List Tt49 × Bool → Option ρ)=>(fun a b=>κ (a,b)) ([] : List Tt49) false) fun r=>r.1.length ≤ 200 ∧ (r.2 = true → 0 < r.1.length) ∧ Sm r.1:=Tot.ret _ (fun k κ=>rfl) ⟨Nat.zero_le _,(fun h=>by cases h),Sm.nil⟩
 refine Tot.bif (fun _=>out) fun h1=>Tot.bif (fun _=>out) fun h2=>?_
 have h2:=of_decide_eq_false h2
 refine Tot.bind4 (alt_all (by omega) x.size 0 0 [] (by omega) (by omega) (by omega) (by omega) (by omega) (by simp)) fun a p1 l1 b1 q=>?_
 dsimp only at q
 refine Tot.bif (fun _=>out) fun hb=>Tot.bif (fun _=>out) fun _=>Tot.bif (fun _=>out) fun h3=>?_
 have h3:=of_decide_eq_false h3
 have h4:=(q.good hb).2.2.1
 exact Tot.ret _ (fun k κ=>rfl) ⟨by show l1.length ≤ 200;omega,(fun _=>by show 0 < l1.length;simpa using h4),q.sm Sm.nil⟩
theorem Sm.get {l : List Tt49} (h : Sm l) (i : Int) : SmN (elt49 l i):=by
 show SmN (l.getD i.toNat _)
 rw [List.getD_eq_getElem?_getD]
 cases hx : l[i.toNat]? with
 | none=>exact ⟨Nat.zero_le _,Nat.zero_le _⟩
 | some x=>exact h x (List.mem_of_getElem? hx)
theorem Sm.set {l : List Tt49} (h : Sm l) (i : Nat) {x : Tt49} (hx : SmN x) : Sm (l.set i x):=fun y hy=>by
 rcases List.mem_or_eq_of_mem_set hy with hy|rfl
 ·exact h y hy
 ·exact hx
theorem Sm.two {a b x : Tt49} (ha : SmN a) (hb : SmN b) (hx : SmN x) : Sm [a,b,x]:=fun y hy=>by
 rcases List.mem_cons.mp hy with rfl|hy
 ·exact ha
 rcases List.mem_cons.mp hy with rfl|hy
 ·exact hb
 ·rw [List.mem_singleton.mp hy];exact hx
theorem l2tree_s13_tot {l : List Tt49} {c : List Int} {p s : Int} (hp : Cur c p) (hl : l.length ≤ 201) (hs : Sm l) : Tot (fun k κ=>(tb (ρ:=ρ) k).spec_l2tree_s13 l c p s (fun a b d=>κ (a,b,d))) fun r=>(r.1.length ≤ 201 ∧ Sm r.1) ∧ Cur c r.2.1:=by
 refine st_spec_l2tree_s13 ?_
 unfold B_spec_l2tree_s13
 exact Tot.ret _ (fun k κ=>rfl) ⟨⟨hl,hs⟩,hp⟩
theorem l2tree_tot {c : List Int} {p s : Int} (hp : Cur c p) : Tot (fun k κ=>(tb (ρ:=ρ) k).spec_l2tree c p s (fun a b d=>κ (a,b,d))) fun r=>(r.1.length ≤ 201 ∧ Sm r.1) ∧ Cur c r.2.1:=by
 refine st_spec_l2tree ?_
 unfold B_spec_l2tree
 refine Tot.bind3 (l2pattern_tot hp) fun x p1 s1 q=>Tot.bind2 (ReParse_tot x) fun l ok h=>?_
 have hq:=q.2
 have hl:=h.1
 have hl0:=h.2.1
 have hs:=h.2.2
 dsimp only at hq hl hl0 hs
 have txt : ∀ {p s : Int},Cur c p → Tot (fun (k : Nat) κ=>(tb (ρ:=ρ) k).spec_l1text [bs [],bs [97],bs [98,97],bs [97,98],bs [93,93],bs [45,45]] c p s (fun a b d=>κ (a,b,d))) fun r=>r.1.size ≤ 8 ∧ Cur c r.2.1:=fun hp=>l1text_tot (by decide) (fun x hx=>of_decide_eq_true (List.all_eq_true.mp (show ([bs [],bs [97],bs [98,97],bs [97,98],bs [93,93],bs [45,45]].all fun x=>decide (x.size ≤ 8)) = true by decide) x hx)) hp
 refine Tot.bif (fun _=>?_) (fun hok=>?_)
 ·refine Tot.bind4 (l2byte_tot _) fun a1 b1 c1 d1 y1=>Tot.bind4 (l2byte_tot _) fun a2 b2 c2 d2 y2=>Tot.bind3 (l1Below_tot hq) fun a p2 s2 q2=>?_
  have hs3 : Sm [(a1,b1,c1,d1),(a2,b2,c2,d2),(4,false,bs [],[0,1])]:=Sm.two y1 y2 ⟨by decide,by decide⟩
  have h2:=q2.2
  dsimp only at h2
  refine Tot.bif (fun _=>?_) (fun _=>Tot.bif (fun _=>?_) (fun _=>Tot.bif (fun _=>?_) (fun _=>Tot.bif (fun _=>?_) (fun _=>?_))))
  ·refine Tot.bind3 (l1Below_tot h2) fun b p3 s3 q3=>Tot.bind3 (l1Below_tot q3.2) fun d p4 s4 q4=>Tot.iteT q3.1.1 (Tot.iteT (q3.1.2 (by omega)) ?_)
   exact l2tree_s13_tot q4.2 (by simp) (hs3.set _ ⟨(hs3.get _).1,(hs3.get _).2⟩)
  ·refine Tot.bind3 (l1Below_tot h2) fun b p3 s3 q3=>Tot.iteT q3.1.1 (Tot.iteT (q3.1.2 (by omega)) ?_)
   exact l2tree_s13_tot q3.2 (by simp) (hs3.set _ ⟨(hs3.get _).1,(hs3.get _).2⟩)
  ·refine Tot.bind3 (l1Below_tot h2) fun b p3 s3 q3=>Tot.bind3 (txt q3.2) fun d p4 s4 q4=>Tot.iteT q3.1.1 (Tot.iteT (q3.1.2 (by omega)) ?_)
   exact l2tree_s13_tot q4.2 (by simp) (hs3.set _ ⟨Nat.le_trans q4.1 (by decide),(hs3.get _).2⟩)
  ·exact l2tree_s13_tot h2 (by simp) (hs3.snoc (x:=(5,false,bs [],[2])) ⟨by show (0 : Nat) ≤ 1000;decide,by show (1 : Nat) ≤ 1000;decide⟩)
  ·exact l2tree_s13_tot h2 (by simp) hs3
 ·have h0 : 0 < l.length:=hl0 (by simpa using hok)
  refine Tot.bind3 (l1Below_tot hq) fun a p2 s2 q2=>?_
  have h2:=q2.2
  dsimp only at h2
  refine Tot.bif (fun _=>?_) (fun _=>Tot.bif (fun _=>?_) (fun _=>Tot.bif (fun _=>?_) (fun _=>Tot.bif (fun _=>?_) (fun _=>?_))))
  ·refine Tot.bind3 (l1Below_tot h2) fun b p3 s3 q3=>Tot.bind3 (l1Below_tot q3.2) fun d p4 s4 q4=>Tot.iteT q3.1.1 (Tot.iteT (q3.1.2 (by omega)) ?_)
   exact l2tree_s13_tot q4.2 (by simp;omega) (hs.set _ ⟨(hs.get _).1,(hs.get _).2⟩)
  ·refine Tot.bind3 (l1Below_tot h2) fun b p3 s3 q3=>Tot.iteT q3.1.1 (Tot.iteT (q3.1.2 (by omega)) ?_)
   exact l2tree_s13_tot q3.2 (by simp;omega) (hs.set _ ⟨(hs.get _).1,(hs.get _).2⟩)
  ·refine Tot.bind3 (l1Below_tot h2) fun b p3 s3 q3=>Tot.bind3 (txt q3.2) fun d p4 s4 q4=>Tot.iteT q3.1.1 (Tot.iteT (q3.1.2 (by omega)) ?_)
   exact l2tree_s13_tot q4.2 (by simp;omega) (hs.set _ ⟨Nat.le_trans q4.1 (by decide),(hs.get _).2⟩)
  ·exact Tot.iteT (by omega) (l2tree_s13_tot h2 (by simp;omega) (hs.snoc ⟨by show (0 : Nat) ≤ 1000;decide,by show (1 : Nat) ≤ 1000;decide⟩))
  ·exact l2tree_s13_tot h2 (by omega) hs
theorem DrawReFind_tot {c : List Int} (hc : c.length ≤ 9223372036854775807) : Tot (fun k κ=>(tb (ρ:=ρ) k).spec_DrawReFind c (fun a b=>κ (a,b))) fun r=>(r.1.length ≤ 201 ∧ Sm r.1) ∧ r.2.size ≤ 1000:=by
 refine st_spec_DrawReFind ?_
 unfold B_spec_DrawReFind
 refine Tot.bind3 (l1New_tot hc) fun c1 p1 s1 q=>?_
 obtain ⟨e,q⟩:=q
 dsimp only at e q
 subst e
 exact Tot.bind3 (l2tree_tot q) fun l p2 s2 q2=>Tot.bind3 (l2subject_tot q2.2) fun x p3 s3 q3=>Tot.ret _ (fun k κ=>rfl) ⟨q2.1,q3.1⟩
end
end Go.Proofs.YtlakdfbfkbndiaaDoor.Ev.Pr
set_option linter.unusedVariables false
namespace Go.Proofs.YtlakdfbfkbndiaaDoor.Re
theorem Star.head {R : Rel} {i j : Nat} (h : Star R i j) : i = j ∨ ∃ m,m ≠ i ∧ R i m ∧ Star R m j:=by
 induction h with
 | refl=>exact .inl rfl
 | @tail j k h s ih =>
  rcases ih with rfl|⟨m,h1,h2,h3⟩
  ·by_cases hk : k = i
   ·exact .inl hk.symm
   ·exact .inr ⟨k,hk,s,.refl k⟩
  ·exact .inr ⟨m,h1,h2,.tail h3 s⟩
theorem Star.cons {R : Rel} {i m j : Nat} (h : R i m) (g : Star R m j) : Star R i j:=Star.trans (Star.one h) g
theorem Star.fwd {R : Rel} (hf : ∀ i j,R i j → i ≤ j) {i j : Nat} (h : Star R i j) : i ≤ j:=by
 induction h with
 | refl=>exact Nat.le_refl _
 | tail _ s ih=>exact Nat.le_trans ih (hf _ _ s)
def starB (r : Nat → Nat → Bool) : Nat → Nat → Nat → Bool
 | 0,i,j=>i == j
 | d + 1,i,j=>i == j || (List.range (j + 1)).any fun m=>decide (i < m) && r i m && starB r d m j
theorem starB_iff {R : Rel} {r : Nat → Nat → Bool} (h : ∀ i j,r i j = true ↔ R i j) (hf : ∀ i j,R i j → i ≤ j) : ∀ (d i j : Nat),j ≤ i + d → (starB r d i j = true ↔ Star R i j)
 | 0,i,j,hd=>by
  simp only [starB,beq_iff_eq]
  constructor
  ·rintro rfl;exact .refl _
  ·intro g;have:=g.fwd hf;omega
 | d + 1,i,j,hd=>by
  simp only [starB,Bool.or_eq_true,beq_iff_eq,List.any_eq_true,List.mem_range,Bool.and_eq_true,decide_eq_true_eq]
  constructor
  ·rintro (rfl|⟨m,h1,⟨h2,h3⟩,h4⟩)
   ·exact .refl _
   ·exact .cons ((h i m).mp h3) ((starB_iff h hf d m j (by omega)).mp h4)
  ·intro g
   rcases g.head with rfl|⟨m,h1,h2,h3⟩
   ·exact .inl rfl
   ·have:=hf _ _ h2
    have:=h3.fwd hf
    exact .inr ⟨m,by omega,⟨by omega,(h i m).mpr h2⟩,(starB_iff h hf d m j (by omega)).mpr h3⟩
def seqB : List (Nat → Nat → Bool) → Nat → Nat → Bool
 | [],i,j=>i == j
 | r :: l,i,j=>(List.range (j + 1)).any fun m=>r i m && seqB l m j
theorem seqR_fwd : ∀ {l : List Rel},(∀ R,R ∈ l → ∀ i j,R i j → i ≤ j) → ∀ i j,seqR l i j → i ≤ j
 | [],_,i,j,h=>Nat.le_of_eq h
 | R :: l,hf,i,j,⟨m,h1,h2⟩=>Nat.le_trans (hf R List.mem_cons_self _ _ h1) (seqR_fwd (fun S hS=>hf S (List.mem_cons_of_mem _ hS)) _ _ h2)
theorem seqB_iff {α : Type} {f : α → Nat → Nat → Bool} {g : α → Rel} : ∀ {l : List α},(∀ a,a ∈ l → ∀ i j,f a i j = true ↔ g a i j) → (∀ a,a ∈ l → ∀ i j,g a i j → i ≤ j) → ∀ i j,seqB (l.map f) i j = true ↔ seqR (l.map g) i j
 | [],_,_,i,j=>by simp [seqB,seqR]
 | a :: l,h,hf,i,j=>by
  simp only [List.map_cons,seqB,seqR,List.any_eq_true,List.mem_range,Bool.and_eq_true]
  constructor
  ·rintro ⟨m,h1,h2,h3⟩
   exact ⟨m,(h a List.mem_cons_self _ _).mp h2,(seqB_iff (fun b hb=>h b (List.mem_cons_of_mem _ hb)) (fun b hb=>hf b (List.mem_cons_of_mem _ hb)) _ _).mp h3⟩
  ·rintro ⟨m,h2,h3⟩
   have:=seqR_fwd (l:=l.map g) (fun R hR=>by obtain ⟨b,hb,rfl⟩:=List.mem_map.mp hR;exact hf b (List.mem_cons_of_mem _ hb)) _ _ h3
   exact ⟨m,by omega,(h a List.mem_cons_self _ _).mpr h2,(seqB_iff (fun b hb=>h b (List.mem_cons_of_mem _ hb)) (fun b hb=>hf b (List.mem_cons_of_mem _ hb)) _ _).mpr h3⟩
theorem den_fwd {P : Pat} (hs : ∀ n i j,P.st n i j → i ≤ j) : ∀ f n i j,den P f n i j → i ≤ j
 | 0,n,i,j,h=>h.elim
 | f + 1,n,i,j,h=>by
  simp only [den] at h
  split at h
  ·exact hs _ _ _ h
  split at h
  ·exact seqR_fwd (fun R hR=>by obtain ⟨k,_,rfl⟩:=List.mem_map.mp hR;exact den_fwd hs f k) _ _ h
  split at h
  ·obtain ⟨k,_,h⟩:=h;exact den_fwd hs f k _ _ h
  split at h
  ·exact Star.fwd (den_fwd hs f _) h
  split at h
  ·obtain ⟨m,h1,h2⟩:=h;exact Nat.le_trans (Star.fwd (den_fwd hs f _) h1) (den_fwd hs f _ _ _ h2)
  ·rcases h with rfl|h
   ·exact Nat.le_refl _
   ·exact den_fwd hs f _ _ _ h
def denB (P : Pat) (st : Nat → Nat → Nat → Bool) : Nat → Nat → Nat → Nat → Bool
 | 0,_=>fun _ _=>false
 | f + 1,n =>
  if P.kd n < 3 then st n
  else if P.kd n = 3 then seqB ((P.ks n).map (denB P st f))
  else if P.kd n = 4 then fun i j=>(P.ks n).any fun k=>denB P st f k i j
  else if P.kd n = 5 then fun i j=>starB (denB P st f ((P.ks n).headD 0)) j i j
  else if P.kd n = 6 then fun i j=>(List.range (j + 1)).any fun m=>starB (denB P st f ((P.ks n).headD 0)) m i m && denB P st f ((P.ks n).headD 0) m j
  else fun i j=>i == j || denB P st f ((P.ks n).headD 0) i j
theorem denB_iff {P : Pat} {st : Nat → Nat → Nat → Bool} (hs : ∀ n i j,P.st n i j → i ≤ j) (h : ∀ n i j,st n i j = true ↔ P.st n i j) : ∀ f n i j,denB P st f n i j = true ↔ den P f n i j
 | 0,n,i,j=>by simp [denB,den]
 | f + 1,n,i,j=>by
  have ih:=denB_iff hs h f
  have fw:=den_fwd hs f
  simp only [denB,den]
  split
  ·exact h n i j
  split
  ·exact seqB_iff (fun k _=>ih k) (fun k _=>fw k) i j
  split
  ·simp only [List.any_eq_true,ih]
  split
  ·exact starB_iff (ih _) (fw _) j i j (by omega)
  split
  ·simp only [List.any_eq_true,List.mem_range,Bool.and_eq_true,ih]
   constructor
   ·rintro ⟨m,h1,h2,h3⟩
    exact ⟨m,(starB_iff (ih _) (fw _) m i m (by omega)).mp h2,h3⟩
   ·rintro ⟨m,h2,h3⟩
    have:=fw _ _ _ h3
    exact ⟨m,by omega,(starB_iff (ih _) (fw _) m i m (by omega)).mpr h2,h3⟩
  ·simp only [Bool.or_eq_true,beq_iff_eq,ih]
end Go.Proofs.YtlakdfbfkbndiaaDoor.Re
set_option linter.unusedVariables false
namespace Go.Proofs.YtlakdfbfkbndiaaDoor.Q
open Go.RowKit Go.Proofs.YtlakdfbfkbndiaaDoor.Re Go.Proofs.YtlakdfbfkbndiaaDoorW.PrintWords Go.Proofs.YtlakdfbfkbndiaaDoorW.PrintLast Go.Proofs.YtlakdfbfkbndiaaDoorW.PrintMore
def leafB (x : S49) (s : ByteArray) (i j : Nat) : Bool:=if x.f0 = 0 then decide (i < s.size) && inS x (bt s i) && (j == i + 1) else if x.f0 = 1 then (i == 0) && (j == 0) else (i == s.size) && (j == i)
def endsC (l : List S49) (s : ByteArray) (i : Nat) : List Nat:=(List.range (s.size + 1)).filter fun j=>denB (patOf l s) (fun n=>leafB (nodeAt l n) s) l.length (l.length - 1) i j
theorem ends_eq (l : List S49) (s : ByteArray) (i : Nat) : endsL l s i = endsC l s i:=by
 unfold endsL endsC upto
 refine List.filter_congr fun j _=>?_
 have h:=denB_iff (P:=patOf l s) (st:=fun n=>leafB (nodeAt l n) s) (fun n i j h=>by
  have h : leafR (nodeAt l n) s i j:=h
  unfold leafR at h
  split at h
  ·omega
  split at h
  ·omega
  ·omega) (fun n i j=>by
  show leafB (nodeAt l n) s i j = true ↔ leafR (nodeAt l n) s i j
  unfold leafB leafR
  split
  ·simp only [Bool.and_eq_true,decide_eq_true_eq,beq_iff_eq,and_assoc]
  split
  ·simp only [Bool.and_eq_true,beq_iff_eq]
  ·simp only [Bool.and_eq_true,beq_iff_eq]) l.length (l.length - 1) i j
 by_cases hm : meets l s (l.length - 1) i j
 ·rw [h.mpr hm];simp [hm]
 ·have : denB (patOf l s) (fun n=>leafB (nodeAt l n) s) l.length (l.length - 1) i j = false:=by
   cases hb : denB (patOf l s) (fun n=>leafB (nodeAt l n) s) l.length (l.length - 1) i j with
   | false=>rfl
   | true=>exact absurd (h.mp hb) hm
  rw [this];simp [hm]
def findC (l : List S49) (s : ByteArray) : Nat → Nat → Int × Int
 | 0,_=>(-1,0)
 | d + 1,i=>if (endsC l s i).length = 0 then findC l s d (i + 1) else ((i : Int),(((endsC l s i).getD ((endsC l s i).length - 1) 0 : Nat) : Int))
theorem find_eq (l : List S49) (s : ByteArray) : ∀ d i,findV l s d i = findC l s d i
 | 0,_=>rfl
 | d + 1,i=>by simp only [findV,findC,ends_eq,find_eq l s d]
def occC (l : List S49) (s : ByteArray) : Nat → Nat → List (Int × Int)
 | 0,_=>[]
 | g + 1,i=>if i ≤ s.size then (if (findC l s (s.size + 1 - i) i).1 < 0 then [] else findC l s (s.size + 1 - i) i :: occC l s g (if (findC l s (s.size + 1 - i) i).1 = (findC l s (s.size + 1 - i) i).2 then (findC l s (s.size + 1 - i) i).2.toNat + 1 else (findC l s (s.size + 1 - i) i).2.toNat)) else []
theorem occ_eq (l : List S49) (s : ByteArray) : ∀ g i,occV l s g i = occC l s g i
 | 0,_=>rfl
 | g + 1,i=>by simp only [occV,occC,find_eq,occ_eq l s g]
end Go.Proofs.YtlakdfbfkbndiaaDoor.Q
namespace Go.Proofs.YtlakdfbfkbndiaaDoor.Q
open Go.RowKit Go.Proofs.YtlakdfbfkbndiaaDoor.Re Go.Proofs.YtlakdfbfkbndiaaDoorW.PrintWords Go.Proofs.YtlakdfbfkbndiaaDoorW.PrintLast Go.Proofs.YtlakdfbfkbndiaaDoorW.PrintMore
structure Mach (B bm : Nat) (v : Value) (N : Int) (es : List S85) (w : World) : Prop where
 lo : B ≤ bm
 obj : w.heap[bm]? = some (.cells #[v,.int .i64 N] 59 (0,0))
 row : Kd.R k85 85 w B (fun _=>True) v es
 sz : B ≤ w.heap.size
theorem Mach.move {B bm : Nat} {v : Value} {N : Int} {es : List S85} {w w1 : World} (h : Mach B bm v N es w) (hb : Below w.heap.size w w1) : Mach B bm v N es w1 :=
 ⟨h.lo,(hb.block _ (Array.getElem?_eq_some_iff.mp h.obj).1).trans h.obj,Kd.R_below h.row hb,Nat.le_trans h.sz hb.size⟩
def Else (bm : Nat) (w w1 : World) : Prop:=∀ k o,k ≠ bm → w.heap[k]? = some o → (∀ c,o ≠ .cells c 85 (0,0)) → w1.heap[k]? = some o
theorem Else.refl (bm : Nat) (w : World) : Else bm w w:=fun _ _ _ h _=>h
theorem Else.trans {bm : Nat} {w w1 w2 : World} (h : Else bm w w1) (g : Else bm w1 w2) : Else bm w w2:=fun k o hk ho hn=>g k o hk (h k o hk ho hn) hn
theorem Else.below {bm : Nat} {w w1 : World} (h : Below w.heap.size w w1) : Else bm w w1:=fun k o _ ho _=>(h.block k (Array.getElem?_eq_some_iff.mp ho).1).trans ho
theorem way_ne {w : World} {B k : Nat} {v : Value} {es : List S85} {o : Obj} (h : Kd.R k85 85 w B (fun _=>True) v es) (hb : w.heap[k]? = some o) (ho : ∀ c,o ≠ .cells c 85 (0,0)) : some k ≠ v.ownBlock:=fun e=>by
 obtain ⟨inner,hw⟩:=Kd.R_own h
 obtain ⟨c,hc⟩:=own_typed hw k e.symm
 rw [hb] at hc
 exact ho c (Option.some.inj hc)
end Go.Proofs.YtlakdfbfkbndiaaDoor.Q
namespace Go.Proofs.YtlakdfbfkbndiaaDoor.Q
open Go.RowKit Go.Proofs.YtlakdfbfkbndiaaDoor.Re Go.Proofs.YtlakdfbfkbndiaaDoorW.PrintWords Go.Proofs.YtlakdfbfkbndiaaDoorW.PrintLast Go.Proofs.YtlakdfbfkbndiaaDoorW.PrintMore
section
variable {l : List S49} {A0 : Option Addr} {c0 : Nat} {w0 : World}
structure Bw (B bm : Nat) (w0 w : World) (Ln : Nat) (x : S49) (A3 : Option Addr) (c3 : Nat) (wr : World) : Prop where
 b0 : Below B w0 wr
 bw : Below B w wr
 el : Else bm w wr
 loc : wr.heap[Ln]? = some (.cells #[.int .i64 x.f0,.bool x.f1,.string x.f2,.slice A3 x.f3.length c3] 49 (0,0))
 ne : Ln ≠ bm
theorem Bw.step {B bm : Nat} {w0 w : World} {Ln : Nat} {x : S49} {A3 : Option Addr} {c3 : Nat} {wr w1 : World} (h : Bw B bm w0 w Ln x A3 c3 wr) (hb : Below B wr w1) (he : Else bm wr w1) : Bw B bm w0 w Ln x A3 c3 w1 :=
 ⟨h.b0.trans hb,h.bw.trans hb,h.el.trans he,he _ _ h.ne h.loc (by simp),h.ne⟩
theorem Mach.count {B bm : Nat} {v : Value} {N : Int} {es : List S85} {w : World} (h : Mach B bm v N es w) (M : Int) : Mach B bm v M es (w.setCell ⟨bm,1,none⟩ (.int .i64 M)) ∧ Below B w (w.setCell ⟨bm,1,none⟩ (.int .i64 M)) ∧ Else bm w (w.setCell ⟨bm,1,none⟩ (.int .i64 M)):=by
 refine ⟨⟨h.lo,by simp [World.setCell,Array.getElem?_modify,h.obj],Kd.R_set h.row h.obj (by decide) 1 _,by have:=h.sz;simp [World.setCell];omega⟩,(Below.refl _ _).setCell h.lo _,fun k o hk ho _=>?_⟩
 rw [Below.heap_setCell _ _ _ _ hk];exact ho
end
end Go.Proofs.YtlakdfbfkbndiaaDoor.Q
namespace Go.Proofs.YtlakdfbfkbndiaaDoor.Q
open Go.RowKit Go.Proofs.YtlakdfbfkbndiaaDoor.Re Go.Proofs.YtlakdfbfkbndiaaDoorW.PrintWords Go.Proofs.YtlakdfbfkbndiaaDoorW.PrintLast Go.Proofs.YtlakdfbfkbndiaaDoorW.PrintMore
section
variable (l : List S49) (s : ByteArray)
def epsB (e : Re.Way) (t : Nat) : Bool:=decide (e.2.2 < 0) || ((decide ((nodeAt l e.2.2.toNat).f0 = 1) && decide (t = 0)) || (decide ((nodeAt l e.2.2.toNat).f0 = 2) && decide (t = s.size)))
end
end Go.Proofs.YtlakdfbfkbndiaaDoor.Q
namespace Go.Proofs.YtlakdfbfkbndiaaDoor.Q
open Go.RowKit Go.Proofs.YtlakdfbfkbndiaaDoor.Re Go.Proofs.YtlakdfbfkbndiaaDoorW.PrintWords Go.Proofs.YtlakdfbfkbndiaaDoorW.PrintLast Go.Proofs.YtlakdfbfkbndiaaDoorW.PrintMore
def Ev {α : Type} (g : Nat → Option α) (r : α) : Prop:=∃ K,∀ k,K ≤ k → g k = some r
theorem Ev.mk {α : Type} {g : Nat → Option α} {r : α} (h : ∀ k,g k = some r) : Ev g r:=⟨0,fun k _=>h k⟩
theorem Ev.congr {α : Type} {f g : Nat → Option α} {r : α} (h : Ev f r) (e : ∀ k,g k = f k) : Ev g r:=by
 obtain ⟨K,hK⟩:=h
 exact ⟨K,fun k hk=>(e k).trans (hK k hk)⟩
theorem Ev.succ {α : Type} {g : Nat → Option α} {r : α} (h : Ev (fun k=>g (k + 1)) r) : Ev g r:=by
 obtain ⟨K,hK⟩:=h
 exact ⟨K + 1,fun k hk=>by obtain ⟨j,rfl⟩ : ∃ j,k = j + 1:=⟨k - 1,by omega⟩;exact hK j (by omega)⟩
theorem Ev.add {α : Type} {g : Nat → Option α} {r : α} (n : Nat) (h : Ev (fun k=>g (k + n)) r) : Ev g r:=by
 obtain ⟨K,hK⟩:=h
 exact ⟨K + n,fun k hk=>by obtain ⟨j,rfl⟩ : ∃ j,k = j + n:=⟨k - n,by omega⟩;exact hK j (by omega)⟩
theorem Ev.up {α : Type} {g : Nat → Option α} {r : α} (n : Nat) (h : Ev g r) : Ev (fun k=>g (k + n)) r:=by
 obtain ⟨K,hK⟩:=h
 exact ⟨K,fun k hk=>hK (k + n) (by omega)⟩
theorem Ev.bind {α β : Type} {f : Nat → Option α} {g : Nat → α → Option β} {a : α} {r : β} (h : Ev f a) (h2 : Ev (fun k=>g k a) r) : Ev (fun k=>(f k).bind (g k)) r:=by
 obtain ⟨K,hK⟩:=h
 obtain ⟨M,hM⟩:=h2
 exact ⟨K + M,fun k hk=>by show (f k).bind (g k) = some r;rw [hK k (by omega)];exact hM k (by omega)⟩
inductive Eps (l : List S49) (s : ByteArray) (E : List Re.Way) (t : Nat) (m : List Bool) : Nat → Prop
 | base {q : Nat} : m.getD q false = true → Eps l s E t m q
 | step {e : Re.Way} : e ∈ E → epsB l s e t = true → Eps l s E t m e.1.toNat → Eps l s E t m e.2.1.toNat
end Go.Proofs.YtlakdfbfkbndiaaDoor.Q
namespace Go.Proofs.YtlakdfbfkbndiaaDoor.Q
open Go.RowKit Go.Proofs.YtlakdfbfkbndiaaDoor.Re Go.Proofs.YtlakdfbfkbndiaaDoorW.PrintWords Go.Proofs.YtlakdfbfkbndiaaDoorW.PrintLast Go.Proofs.YtlakdfbfkbndiaaDoorW.PrintMore
section
variable {l : List S49} {s : ByteArray} {E : List Re.Way} {N : Nat} {t : Nat}
theorem Eps.trans {m m1 : List Bool} (h : ∀ q,m1.getD q false = true → Eps l s E t m q) {q : Nat} (g : Eps l s E t m1 q) : Eps l s E t m q:=by
 induction g with
 | base h1=>exact h _ h1
 | step he hb _ ih=>exact .step he hb ih
def setB (l : List S49) (s : ByteArray) (e : Re.Way) (t : Nat) : Bool:=decide (0 ≤ e.2.2) && (decide ((nodeAt l e.2.2.toNat).f0 = 0) && inS (nodeAt l e.2.2.toNat) (bt s t))
end
end Go.Proofs.YtlakdfbfkbndiaaDoor.Q
namespace Go.Proofs.YtlakdfbfkbndiaaDoor.Q
open Go.RowKit Go.Proofs.YtlakdfbfkbndiaaDoor.Re Go.Proofs.YtlakdfbfkbndiaaDoorW.PrintWords Go.Proofs.YtlakdfbfkbndiaaDoorW.PrintLast Go.Proofs.YtlakdfbfkbndiaaDoorW.PrintMore
theorem toList_nil (s : ByteArray) : s.toList = ([] : List UInt8) ↔ s.size = 0:=by
 have h : s.toList.length = s.size:=by simp [ByteArray.toList_eq,Array.length_toList]
 constructor
 ·intro e;rw [e] at h;exact h.symm
 ·intro e;rw [e] at h;exact List.eq_nil_of_length_eq_zero h
def pairsB (s : ByteArray) : Nat → Nat → Bool
 | 0,_=>true
 | d + 1,i=>if bt s ((i + 1 : Nat) : Int) < bt s (i : Int) then false else pairsB s d (i + 2)
def nodeB (x : S49) : Bool :=
 if x.f0 = 0 then (if x.f2.size % 2 = 0 ∧ x.f3.length = 0 ∧ ¬ (x.f2.size = 0 ∧ x.f1 = false) then pairsB x.f2 (x.f2.size / 2) 0 else false)
 else if x.f1 = true ∨ x.f2.size ≠ 0 then false
 else if x.f0 = 1 ∨ x.f0 = 2 then decide (x.f3.length = 0)
 else if x.f0 = 3 ∨ x.f0 = 4 then decide (2 ≤ x.f3.length)
 else if x.f0 = 5 ∨ x.f0 = 6 ∨ x.f0 = 7 then decide (x.f3.length = 1)
 else false
theorem implPairs (f0 : Int) (neg : Bool) (s : ByteArray) (f3 : List Int) (hs : s.size ≤ 1099511627776) : ∀ (d i k : Nat),i + 2 * d = s.size → d < k → impl_isReNode.l0 k (i : Int) f0 neg s f3 = some (pairsB s d i)
 | 0,i,0,_,hk=>absurd hk (by omega)
 | 0,i,k + 1,hi,_=>by
  simp only [impl_isReNode.l0]
  rw [if_neg (by omega)];rfl
 | d + 1,i,0,_,hk=>absurd hk (by omega)
 | d + 1,i,k + 1,hi,hk=>by
  have w1 : wrap64 ((i : Int) + 1) = ((i + 1 : Nat) : Int):=by unfold wrap64;omega
  have w2 : wrap64 ((i : Int) + 2) = ((i + 2 : Nat) : Int):=by unfold wrap64;omega
  simp only [impl_isReNode.l0,pairsB]
  rw [w1,w2,if_pos (by omega),if_pos (by omega),if_pos (by omega),if_pos (by omega),implPairs f0 neg s f3 hs d (i + 2) k (by omega) (by omega)]
  split <;> rfl
theorem specPairs (f0 : Int) (neg : Bool) (s : ByteArray) (f3 : List Int) (hs : s.size ≤ 1099511627776) : ∀ (d i k : Nat),i + 2 * d = s.size → d < k → spec_l2pairs.l0 k (i : Int) f0 neg s f3 = some (pairsB s d i)
 | 0,i,0,_,hk=>absurd hk (by omega)
 | 0,i,k + 1,hi,_=>by
  have w1 : wrap64 ((i : Int) + 1) = ((i + 1 : Nat) : Int):=by unfold wrap64;omega
  simp only [spec_l2pairs.l0]
  rw [w1,if_neg (by omega)];rfl
 | d + 1,i,0,_,hk=>absurd hk (by omega)
 | d + 1,i,k + 1,hi,hk=>by
  have w1 : wrap64 ((i : Int) + 1) = ((i + 1 : Nat) : Int):=by unfold wrap64;omega
  have w2 : wrap64 ((i : Int) + 2) = ((i + 2 : Nat) : Int):=by unfold wrap64;omega
  simp only [spec_l2pairs.l0,pairsB]
  rw [w1,w2,if_pos (by omega),if_pos (by omega),if_pos (by omega),if_pos (by omega),specPairs f0 neg s f3 hs d (i + 2) k (by omega) (by omega)]
  split <;> rfl
theorem implNode_ev (x : S49) (hs : x.f2.size ≤ 1099511627776) : Ev (fun k=>impl_isReNode.f k x.f0 x.f1 x.f2 x.f3) (nodeB x):=by
 obtain ⟨f0,neg,s,f3⟩:=x
 dsimp only at hs ⊢
 refine ⟨s.size + 10,fun k hk=>?_⟩
 obtain ⟨k,rfl⟩ : ∃ j,k = j + 5:=⟨k - 5,by omega⟩
 have hj3 : ∀ b,impl_isReNode.j3 (k + 5) b f0 neg s f3 = if b = true then some false else impl_isReNode.l0 (k + 4) 0 f0 neg s f3:=fun b=>by simp only [impl_isReNode.j3]
 have e0 : (s.toList != ([] : List UInt8)) = decide (s.size ≠ 0):=by
  by_cases c : s.size = 0
  ·rw [(toList_nil s).mpr c];simp [c]
  ·rw [decide_eq_true c];exact bne_iff_ne.mpr fun h=>c ((toList_nil s).mp h)
 show impl_isReNode.f (k + 5) f0 neg s f3 = _
 unfold impl_isReNode.f nodeB
 dsimp only
 by_cases h0 : f0 = 0
 ·rw [if_pos h0,if_pos h0]
  by_cases h2 : s.size % 2 = 0
  ·rw [if_pos (by omega)]
   by_cases h3 : f3.length = 0
   ·rw [if_neg (by omega)]
    by_cases h4 : s.size = 0
    ·rw [if_pos ((toList_nil s).mpr h4),hj3]
     cases neg with
     | false=>rw [Bool.not_false,if_pos rfl,if_neg (fun h=>h.2.2 ⟨h4,rfl⟩)]
     | true =>
      rw [Bool.not_true,if_neg (by decide),if_pos ⟨h2,h3,fun h=>absurd h.2 (by decide)⟩]
      exact implPairs f0 true s f3 hs (s.size / 2) 0 (k + 4) (by omega) (by omega)
    ·rw [if_neg (fun h=>h4 ((toList_nil s).mp h)),hj3,if_neg (by decide),if_pos ⟨h2,h3,fun h=>h4 h.1⟩]
     exact implPairs f0 neg s f3 hs (s.size / 2) 0 (k + 4) (by omega) (by omega)
   ·rw [if_pos (by omega),hj3,if_pos rfl,if_neg (fun h=>h3 h.2.1)]
  ·rw [if_neg (by omega),hj3,if_pos rfl,if_neg (fun h=>h2 h.1)]
 ·rw [if_neg h0,if_neg h0,e0]
  have hj0 : ∀ b,impl_isReNode.j0 (k + 5) b f0 neg s f3 = if b = true then some false else if f0 = 1 ∨ f0 = 2 then some (decide (f3.length = 0)) else if f0 = 3 ∨ f0 = 4 then some (decide (2 ≤ f3.length)) else if f0 = 5 ∨ f0 = 6 ∨ f0 = 7 then some (decide (f3.length = 1)) else some false:=fun b=>by
   have l0 : ((f3.length : Int) == 0) = decide (f3.length = 0):=by
    by_cases c : f3.length = 0 <;> simp [c]
   have l1 : ((f3.length : Int) == 1) = decide (f3.length = 1):=by
    by_cases c : f3.length = 1
    ·simp [c]
    ·rw [decide_eq_false c];exact beq_eq_false_iff_ne.mpr fun h=>c (by omega)
   have l2 : decide ((f3.length : Int) ≥ 2) = decide (2 ≤ f3.length):=by
    by_cases c : 2 ≤ f3.length
    ·rw [decide_eq_true c];exact decide_eq_true (by omega)
    ·rw [decide_eq_false c];exact decide_eq_false (by omega)
   simp only [impl_isReNode.j0,impl_isReNode.j1,impl_isReNode.j2,l0,l1,l2]
   cases b with
   | true=>rfl
   | false =>
    simp only [Bool.false_eq_true,if_false]
    by_cases c1 : f0 = 1
    ·subst c1;rfl
    by_cases c2 : f0 = 2
    ·subst c2;rfl
    by_cases c3 : f0 = 3
    ·subst c3;rfl
    by_cases c4 : f0 = 4
    ·subst c4;rfl
    by_cases c5 : f0 = 5
    ·subst c5;rfl
    by_cases c6 : f0 = 6
    ·subst c6;rfl
    by_cases c7 : f0 = 7
    ·subst c7;rfl
    simp [c1,c2,c3,c4,c5,c6,c7]
  cases neg with
  | true=>rw [if_pos rfl,hj0,if_pos rfl,if_pos (.inl rfl)]
  | false =>
   rw [if_neg (by decide),hj0]
   by_cases c : s.size = 0
   ·rw [decide_eq_false (show ¬ s.size ≠ 0 from fun h=>h c),if_neg (by decide),if_neg (show ¬ (false = true ∨ s.size ≠ 0) from fun h=>h.elim (by decide) (fun h=>h c))]
    split
    ·rfl
    ·split
     ·rfl
     ·split <;> rfl
   ·rw [decide_eq_true c,if_pos rfl,if_pos (.inr c)]
theorem specNode_ev (x : S49) (hs : x.f2.size ≤ 1099511627776) : Ev (fun k=>spec_l2kidsOk.f k x.f0 x.f1 x.f2 x.f3) (nodeB x):=by
 obtain ⟨f0,neg,s,f3⟩:=x
 dsimp only at hs ⊢
 refine ⟨s.size + 10,fun k hk=>?_⟩
 obtain ⟨k,rfl⟩ : ∃ j,k = j + 5:=⟨k - 5,by omega⟩
 have hj0 : ∀ b,spec_l2pairs.j0 (k + 5) b f0 neg s f3 = if b = true then some false else spec_l2pairs.l0 (k + 4) 0 f0 neg s f3:=fun b=>by simp only [spec_l2pairs.j0]
 have e0 : (s.toList == ([] : List UInt8)) = decide (s.size = 0):=by
  by_cases c : s.size = 0
  ·rw [(toList_nil s).mpr c];simp [c]
  ·rw [decide_eq_false c];exact beq_eq_false_iff_ne.mpr fun h=>c ((toList_nil s).mp h)
 show spec_l2kidsOk.f (k + 5) f0 neg s f3 = _
 unfold spec_l2kidsOk.f nodeB
 dsimp only
 by_cases h0 : f0 = 0
 ·rw [if_pos h0,if_pos h0]
  by_cases h3 : f3.length = 0
  ·rw [if_pos (by omega)]
   unfold spec_l2pairs.f
   by_cases h2 : s.size % 2 = 0
   ·rw [if_neg (by omega)]
    by_cases h4 : s.size = 0
    ·rw [if_pos (by omega),hj0]
     cases neg with
     | false=>rw [Bool.not_false,if_pos rfl,if_neg (fun h=>h.2.2 ⟨h4,rfl⟩)];rfl
     | true =>
      rw [Bool.not_true,if_neg (by decide),if_pos ⟨h2,h3,fun h=>absurd h.2 (by decide)⟩,show (0 : Int) = ((0 : Nat) : Int) from rfl,specPairs f0 true s f3 hs (s.size / 2) 0 (k + 4) (by omega) (by omega)];rfl
    ·rw [if_neg (by omega),hj0,if_neg (by decide),if_pos ⟨h2,h3,fun h=>h4 h.1⟩,show (0 : Int) = ((0 : Nat) : Int) from rfl,specPairs f0 neg s f3 hs (s.size / 2) 0 (k + 4) (by omega) (by omega)];rfl
   ·rw [if_pos (by omega),hj0,if_pos rfl,if_neg (fun h=>h2 h.1)];rfl
  ·rw [if_neg (by omega),if_neg (fun h=>h3 h.2.1)]
 ·rw [if_neg h0,if_neg h0]
  have l0 : ((f3.length : Int) = 0) ↔ (f3.length = 0):=by omega
  have l1 : ((f3.length : Int) = 1) ↔ (f3.length = 1):=by omega
  have l2 : ((f3.length : Int) ≥ 2) ↔ (2 ≤ f3.length):=by omega
  have fin : ∀ (p : Prop) [Decidable p],(if p then (if neg = true then some false else some (s.toList == ([] : List UInt8))) else some false) = some (if neg = true ∨ s.size ≠ 0 then false else decide p):=fun p _=>by
   rw [e0]
   cases neg <;> by_cases c : s.size = 0 <;> by_cases d : p <;> simp [c,d]
  have res : ∀ b,b = decide (f0 = 1 ∨ f0 = 2) → spec_l2kidsOk.j0 (k + 5) f0 b f0 neg s f3 = some (if neg = true ∨ s.size ≠ 0 then false else if f0 = 1 ∨ f0 = 2 then decide (f3.length = 0) else if f0 = 3 ∨ f0 = 4 then decide (2 ≤ f3.length) else if f0 = 5 ∨ f0 = 6 ∨ f0 = 7 then decide (f3.length = 1) else false):=fun b hb=>by
   simp only [spec_l2kidsOk.j0,spec_l2kidsOk.j1,fin,l0,l1,l2,hb]
   by_cases c1 : f0 = 1
   ·subst c1;rfl
   by_cases c2 : f0 = 2
   ·subst c2;rfl
   by_cases c3 : f0 = 3
   ·subst c3;rfl
   by_cases c4 : f0 = 4
   ·subst c4;rfl
   by_cases c5 : f0 = 5
   ·subst c5;rfl
   by_cases c6 : f0 = 6
   ·subst c6;rfl
   by_cases c7 : f0 = 7
   ·subst c7;rfl
   simp [c1,c2,c3,c4,c5,c6,c7]
  by_cases c1 : f0 = 1
  ·rw [if_pos c1,res _ (by rw [c1];rfl)]
  ·rw [if_neg c1,res _ (by by_cases c2 : f0 = 2 <;> simp [c1,c2])]
def cnts (n : Nat) (D : List Int) : List Int:=(List.range n).map fun (j : Nat)=>(D.count (j : Int) : Int)
theorem cnts_len (n : Nat) (D : List Int) : (cnts n D).length = n:=by simp [cnts]
theorem cnts_nil (n : Nat) : cnts n [] = List.replicate n 0:=by
 apply List.ext_getElem
 ·simp [cnts]
 ·intro i h1 h2
  simp [cnts]
theorem cnts_rd (n : Nat) (D : List Int) (q : Int) (h0 : 0 ≤ q) (h1 : q < n) : rd (cnts n D) q = (D.count q : Int):=by
 unfold rd cnts
 obtain ⟨m,rfl⟩:=Int.eq_ofNat_of_zero_le h0
 have hm : m < n:=by omega
 rw [List.getD_eq_getElem?_getD,Int.toNat_natCast,List.getElem?_map,List.getElem?_range hm];rfl
theorem cnts_set (n : Nat) (D : List Int) (q : Int) (h0 : 0 ≤ q) (h1 : q < n) : (cnts n D).set q.toNat ((D.count q : Int) + 1) = cnts n (D ++ [q]):=by
 obtain ⟨m,rfl⟩:=Int.eq_ofNat_of_zero_le h0
 have hm : m < n:=by omega
 apply List.ext_getElem
 ·simp [cnts]
 ·intro i h1 h2
  rw [List.getElem_set]
  have hi : i < n:=by simpa [cnts] using h2
  by_cases c : ((m : Int)).toNat = i
  ·have c' : m = i:=by omega
   rw [if_pos c]
   subst c'
   simp [cnts,List.count_append]
  ·have c' : ¬ (m : Int) = (i : Int):=by omega
   rw [if_neg c]
   simp [cnts,List.count_append,List.count_singleton,c']
def chkB (n : Nat) (D : List Int) : Bool:=(List.range (n - 1)).all fun (j : Nat)=>decide (D.count (j : Int) = 1)
def kidB (i : Nat) (q : Int) : Bool:=decide (0 ≤ q) && decide (q < (i : Int))
def resB (l : List S49) : Nat → Nat → List Int → Bool
 | 0,_,D=>chkB l.length D
 | d + 1,i,D=>nodeB (nodeAt l i) && ((nodeAt l i).f3.all (kidB i) && resB l d (i + 1) (D ++ (nodeAt l i).f3))
def okB (l : List S49) : Bool:=decide (1 ≤ l.length) && (decide (l.length ≤ 200) && resB l l.length 0 [])
theorem resB_twice (l : List S49) (j : Nat) (hj : j < l.length - 1) : ∀ (d i : Nat) (D : List Int),2 ≤ D.count (j : Int) → resB l d i D = false
 | 0,_,D,h=>by
  simp only [resB,chkB]
  rw [List.all_eq_false]
  exact ⟨j,List.mem_range.mpr hj,by simp;omega⟩
 | d + 1,i,D,h=>by
  simp only [resB]
  rw [resB_twice l j hj d (i + 1) _ (by rw [List.count_append];omega),Bool.and_false,Bool.and_false]
structure Fits (l : List S49) : Prop where
 kids : ∀ n,n < l.length → (nodeAt l n).f3.length ≤ 1048576
 set : ∀ n,n < l.length → (nodeAt l n).f2.size ≤ 1048576
end Go.Proofs.YtlakdfbfkbndiaaDoor.Q
namespace Go.Proofs.YtlakdfbfkbndiaaDoor.Q
open Go.RowKit Go.Proofs.YtlakdfbfkbndiaaDoor.Re Go.Proofs.YtlakdfbfkbndiaaDoorW.PrintWords Go.Proofs.YtlakdfbfkbndiaaDoorW.PrintLast Go.Proofs.YtlakdfbfkbndiaaDoorW.PrintMore
section
variable {l : List S49}
theorem between_eq (q a b : Int) : impl_between.f q a b = some (decide (a ≤ q) && decide (q ≤ b)):=by
 unfold impl_between.f
 by_cases h : q ≥ a
 ·rw [if_pos h,decide_eq_true (show a ≤ q from h),Bool.true_and]
 ·rw [if_neg h,decide_eq_false (show ¬ a ≤ q from h),Bool.false_and]
theorem drop_at (ks : List Int) (p : Nat) (hp : p < ks.length) : ks.drop p = rd ks (p : Int) :: ks.drop (p + 1):=by
 unfold rd
 rw [Int.toNat_natCast,List.drop_eq_getElem_cons hp,List.getD_eq_getElem?_getD,List.getElem?_eq_getElem hp];rfl
theorem implOk_l1 (hl : l.length ≤ 200) (i : Nat) (hi : i < l.length) (ks : List Int) (hks : ks.length ≤ 1048576) : ∀ (e p : Nat),p + e = ks.length → ∀ (k : Nat) (D : List Int),D.length ≤ 1048576 * i + p →
  impl_ReOk.l1 (k + e + 1) l (cnts l.length D) (i : Int) l (l.length : Int) (i : Int) ks (ks.length : Int) (p : Int) =
   if (ks.drop p).all (kidB i) = true then impl_ReOk.l0 k l (cnts l.length (D ++ ks.drop p)) l (l.length : Int) ((i + 1 : Nat) : Int) else some false
 | 0,p,hp,k,D,hD=>by
  have wi : wrap64 ((i : Int) + 1) = ((i + 1 : Nat) : Int):=by unfold wrap64;omega
  simp only [impl_ReOk.l1]
  rw [if_neg (by omega),wi,List.drop_eq_nil_of_le (by omega),List.append_nil]
  rfl
 | e + 1,p,hp,k,D,hD=>by
  have hlt : p < ks.length:=by omega
  have wp : wrap64 ((p : Int) + 1) = ((p + 1 : Nat) : Int):=by unfold wrap64;omega
  have wi : wrap64 ((i : Int) - 1) = (i : Int) - 1:=by unfold wrap64;omega
  have ih:=implOk_l1 hl i hi ks hks e (p + 1) (by omega) k
  have e1 : k + (e + 1) + 1 = (k + e + 1) + 1:=rfl
  rw [e1]
  generalize k + e + 1 = K at ih ⊢
  simp only [impl_ReOk.l1]
  rw [if_pos (by omega),if_pos (by omega),if_pos (by omega),between_eq,Option.bind_some,wi,wp,drop_at ks p hlt]
  generalize rd ks (p : Int) = q
  by_cases hq : 0 ≤ q ∧ q < (i : Int)
  ·have hb : (decide (0 ≤ q) && decide (q ≤ (i : Int) - 1)) = true:=by rw [decide_eq_true hq.1,decide_eq_true (show q ≤ (i : Int) - 1 by omega)];rfl
   have hk : kidB i q = true:=by unfold kidB;rw [decide_eq_true hq.1,decide_eq_true hq.2];rfl
   have hc : D.count q ≤ D.length:=List.count_le_length
   have wc : wrap64 ((D.count q : Int) + 1) = (D.count q : Int) + 1:=by unfold wrap64;omega
   rw [hb,if_pos rfl,if_pos hq.1,if_pos (by rw [cnts_len];omega),cnts_rd _ _ _ hq.1 (by omega),wc,cnts_set _ _ _ hq.1 (by omega),
    ih (D ++ [q]) (by rw [List.length_append,List.length_singleton];omega),List.all_cons,hk,Bool.true_and,List.append_assoc]
   rfl
  ·have hb : (decide (0 ≤ q) && decide (q ≤ (i : Int) - 1)) = false:=by
    by_cases c : 0 ≤ q
    ·rw [decide_eq_false (show ¬ q ≤ (i : Int) - 1 by omega),Bool.and_false]
    ·rw [decide_eq_false c,Bool.false_and]
   have hk : kidB i q = false:=by
    unfold kidB
    by_cases c : 0 ≤ q
    ·rw [decide_eq_false (show ¬ q < (i : Int) by omega),Bool.and_false]
    ·rw [decide_eq_false c,Bool.false_and]
   rw [hb,if_neg (by decide),List.all_cons,hk,Bool.false_and,if_neg (by decide)]
theorem rdn (l : List S49) (i : Nat) : rd_T49 l (i : Int) = nodeAt l i:=rfl
theorem take_cnts (n : Nat) (D : List Int) : ((cnts n D).take (n - 1)).any (fun x=>x != 1) = !chkB n D:=by
 unfold cnts chkB
 rw [← List.map_take,List.any_map,List.take_range,show min (n - 1) n = n - 1 by omega,List.not_all_eq_any_not]
 refine congrArg (fun f=>List.any (List.range (n - 1)) f) (funext fun j=>?_)
 show ((D.count (j : Int) : Int) != 1) = !decide (D.count (j : Int) = 1)
 by_cases c : D.count (j : Int) = 1
 ·rw [c];rfl
 ·rw [decide_eq_false c]
  exact bne_iff_ne.mpr fun h=>c (by omega)
theorem implOk_l0 (hF : Fits l) (h1 : 1 ≤ l.length) (hl : l.length ≤ 200) : ∀ (d i : Nat) (D : List Int),i + d = l.length → D.length ≤ 1048576 * i → Ev (fun k=>impl_ReOk.l0 k l (cnts l.length D) l (l.length : Int) (i : Int)) (resB l d i D):=by
 intro d
 induction d with
 | zero =>
  intro i D hi hD
  refine Ev.succ (Ev.mk fun k=>?_)
  have wl : wrap64 ((l.length : Int) - 1) = ((l.length - 1 : Nat) : Int):=by unfold wrap64;omega
  simp only [impl_ReOk.l0]
  rw [if_neg (by omega),wl,if_pos (by omega),if_pos (by rw [cnts_len];omega),Int.toNat_natCast]
  unfold slices_ContainsFunc_int_int.f
  rw [if_pos rfl,Option.bind_some,take_cnts,Bool.not_not]
  rfl
 | succ d ih =>
  intro i D hi hD
  have hlt : i < l.length:=by omega
  have hks:=hF.kids i hlt
  have hn:=implNode_ev (nodeAt l i) (by have:=hF.set i hlt;omega)
  refine Ev.succ (Ev.congr (Ev.bind hn (g:=fun k t=>if t = true then (impl_ReOk.l1 k l (cnts l.length D) (i : Int) l (l.length : Int) (i : Int) (nodeAt l i).f3 ((nodeAt l i).f3.length : Int) 0) else (some false)) ?_) (fun k=>by
   simp only [impl_ReOk.l0]
   rw [if_pos (show (i : Int) < (l.length : Int) by omega),if_pos (Int.natCast_nonneg i),if_pos (show (i : Int) < (l.length : Int) by omega),rdn]))
  simp only [resB]
  cases nodeB (nodeAt l i) with
  | false=>exact Ev.mk fun k=>rfl
  | true =>
   rw [Bool.true_and]
   have hs : ∀ k,impl_ReOk.l1 (k + (nodeAt l i).f3.length + 1) l (cnts l.length D) (i : Int) l (l.length : Int) (i : Int) (nodeAt l i).f3 ((nodeAt l i).f3.length : Int) 0 = if (nodeAt l i).f3.all (kidB i) = true then impl_ReOk.l0 k l (cnts l.length (D ++ (nodeAt l i).f3)) l (l.length : Int) ((i + 1 : Nat) : Int) else some false:=fun k =>
    implOk_l1 hl i hlt (nodeAt l i).f3 hks (nodeAt l i).f3.length 0 (by omega) k D (by omega)
   refine Ev.add ((nodeAt l i).f3.length + 1) (Ev.congr (f:=fun k=>if (nodeAt l i).f3.all (kidB i) = true then impl_ReOk.l0 k l (cnts l.length (D ++ (nodeAt l i).f3)) l (l.length : Int) ((i + 1 : Nat) : Int) else some false) ?_ (fun k=>by
    show (if true = true then _ else _) = _
    rw [if_pos rfl,← Nat.add_assoc];exact hs k))
   cases c : (nodeAt l i).f3.all (kidB i) with
   | false=>exact Ev.mk fun k=>rfl
   | true =>
    rw [Bool.true_and]
    exact ih (i + 1) (D ++ (nodeAt l i).f3) (by omega) (by rw [List.length_append];omega)
theorem implOk_ev (hF : Fits l) : Ev (fun k=>impl_ReOk.f k l) (okB l):=by
 unfold okB
 by_cases h1 : 1 ≤ l.length
 ·by_cases hl : l.length ≤ 200
  ·rw [decide_eq_true h1,decide_eq_true hl,Bool.true_and,Bool.true_and]
   refine Ev.congr (implOk_l0 hF h1 hl l.length 0 [] (by omega) (by simp)) fun k=>?_
   unfold impl_ReOk.f
   rw [between_eq,Option.bind_some,decide_eq_true (show (1 : Int) ≤ (l.length : Int) by omega),decide_eq_true (show (l.length : Int) ≤ 200 by omega)]
   rw [Bool.true_and,if_pos rfl,if_pos (Int.natCast_nonneg _),Int.toNat_natCast,if_pos (by omega),cnts_nil]
   rfl
  ·refine Ev.mk fun k=>?_
   show impl_ReOk.f k l = _
   unfold impl_ReOk.f
   rw [between_eq,Option.bind_some,decide_eq_false (show ¬ (l.length : Int) ≤ 200 by omega),Bool.and_false,if_neg (by decide),decide_eq_false hl,Bool.false_and,Bool.and_false]
 ·refine Ev.mk fun k=>?_
  show impl_ReOk.f k l = _
  unfold impl_ReOk.f
  rw [between_eq,Option.bind_some,decide_eq_false (show ¬ (1 : Int) ≤ (l.length : Int) by omega),Bool.false_and,if_neg (by decide),decide_eq_false h1,Bool.false_and]
theorem specOk_l1 (hl : l.length ≤ 200) (i : Nat) (hi : i < l.length) (r : Bool) : ∀ (e p : Nat),p + e = (nodeAt l i).f3.length → (nodeAt l i).f3.length ≤ 1048576 → ∀ (D : List Int),D.length ≤ 1048576 * i + p →
  (((nodeAt l i).f3.drop p).all (kidB i) = true → Ev (fun k=>spec_ReOk.l0 k l (cnts l.length (D ++ (nodeAt l i).f3.drop p)) ((i + 1 : Nat) : Int)) r) → (((nodeAt l i).f3.drop p).all (kidB i) = false → r = false) →
  (∀ q : Int,0 ≤ q → q < (i : Int) → 2 ≤ (D ++ (nodeAt l i).f3.drop p).count q → r = false) →
  Ev (fun k=>spec_ReOk.l1 k l (cnts l.length D) (i : Int) (p : Int)) r
 | 0,p,hp,hks,D,hD,hgo,hno,htw=>by
  have wi : wrap64 ((i : Int) + 1) = ((i + 1 : Nat) : Int):=by unfold wrap64;omega
  rw [List.drop_eq_nil_of_le (by omega),List.append_nil] at hgo
  refine Ev.succ (Ev.congr (hgo rfl) fun k=>?_)
  simp only [spec_ReOk.l1]
  rw [if_pos (Int.natCast_nonneg i),if_pos (show (i : Int) < (l.length : Int) by omega),rdn,if_neg (by omega),wi]
 | e + 1,p,hp,hks,D,hD,hgo,hno,htw=>by
  have hlt : p < (nodeAt l i).f3.length:=by omega
  have wp : wrap64 ((p : Int) + 1) = ((p + 1 : Nat) : Int):=by unfold wrap64;omega
  have ih:=specOk_l1 hl i hi r e (p + 1) (by omega) hks
  have hu : ∀ k,spec_ReOk.l1 (k + 1) l (cnts l.length D) (i : Int) (p : Int) = if rd (nodeAt l i).f3 (p : Int) < 0 then some false else if rd (nodeAt l i).f3 (p : Int) ≥ (i : Int) then some false else if 0 ≤ rd (nodeAt l i).f3 (p : Int) then (if rd (nodeAt l i).f3 (p : Int) < ((cnts l.length D).length : Int) then (if rd (cnts l.length D) (rd (nodeAt l i).f3 (p : Int)) > 0 then some false else spec_ReOk.l1 k l ((cnts l.length D).set (rd (nodeAt l i).f3 (p : Int)).toNat (wrap64 (rd (cnts l.length D) (rd (nodeAt l i).f3 (p : Int)) + 1))) (i : Int) ((p + 1 : Nat) : Int)) else none) else none:=fun k=>by
   conv=>lhs;simp only [spec_ReOk.l1]
   rw [if_pos (Int.natCast_nonneg i),if_pos (show (i : Int) < (l.length : Int) by omega),rdn,if_pos (show (p : Int) < ((nodeAt l i).f3.length : Int) by omega),if_pos (Int.natCast_nonneg p),wp]
  rw [drop_at _ p hlt] at hgo hno htw
  generalize rd (nodeAt l i).f3 (p : Int) = q at hu hgo hno htw
  by_cases hq : 0 ≤ q ∧ q < (i : Int)
  ·have hk : kidB i q = true:=by unfold kidB;rw [decide_eq_true hq.1,decide_eq_true hq.2];rfl
   have hc : D.count q ≤ D.length:=List.count_le_length
   have wc : wrap64 ((D.count q : Int) + 1) = (D.count q : Int) + 1:=by unfold wrap64;omega
   rw [List.all_cons,hk,Bool.true_and] at hgo hno
   by_cases hz : (D.count q : Int) > 0
   ·have hr : r = false:=htw q hq.1 hq.2 (by rw [List.count_append,List.count_cons_self];omega)
    refine Ev.succ (Ev.mk fun k=>?_)
    rw [hu k,if_neg (by omega),if_neg (by omega),if_pos hq.1,if_pos (by rw [cnts_len];omega),cnts_rd _ _ _ hq.1 (by omega),if_pos hz,hr]
   ·have happ : D ++ q :: (nodeAt l i).f3.drop (p + 1) = (D ++ [q]) ++ (nodeAt l i).f3.drop (p + 1):=by rw [List.append_assoc];rfl
    rw [happ] at hgo htw
    refine Ev.succ (Ev.congr (ih (D ++ [q]) (by rw [List.length_append,List.length_singleton];omega) hgo hno htw) fun k=>?_)
    rw [hu k,if_neg (by omega),if_neg (by omega),if_pos hq.1,if_pos (by rw [cnts_len];omega),cnts_rd _ _ _ hq.1 (by omega),if_neg hz,wc,cnts_set _ _ _ hq.1 (by omega)]
  ·have hk : kidB i q = false:=by
    unfold kidB
    by_cases c : 0 ≤ q
    ·rw [decide_eq_false (show ¬ q < (i : Int) by omega),Bool.and_false]
    ·rw [decide_eq_false c,Bool.false_and]
   rw [List.all_cons,hk,Bool.false_and] at hno
   refine Ev.succ (Ev.mk fun k=>?_)
   rw [hu k,hno rfl]
   by_cases c : q < 0
   ·rw [if_pos c]
   ·rw [if_neg c,if_pos (by omega)]
theorem specOk_l2 (hl : l.length ≤ 200) (D : List Int) : ∀ (d j k : Nat),j + d = l.length - 1 → 1 ≤ l.length → d < k → spec_ReOk.l2 k l (cnts l.length D) (j : Int) = some ((List.range' j d).all fun (j : Nat)=>decide (D.count (j : Int) = 1))
 | 0,j,0,_,_,hk=>absurd hk (by omega)
 | 0,j,k + 1,hj,h1,_=>by
  have wj : wrap64 ((j : Int) + 1) = ((j + 1 : Nat) : Int):=by unfold wrap64;omega
  simp only [spec_ReOk.l2]
  rw [wj,if_neg (by omega)]
  rfl
 | d + 1,j,0,_,_,hk=>absurd hk (by omega)
 | d + 1,j,k + 1,hj,h1,hk=>by
  have wj : wrap64 ((j : Int) + 1) = ((j + 1 : Nat) : Int):=by unfold wrap64;omega
  simp only [spec_ReOk.l2]
  rw [wj,if_pos (by omega),if_pos (by omega),if_pos (by rw [cnts_len];omega),cnts_rd _ _ _ (Int.natCast_nonneg j) (by omega),specOk_l2 hl D d (j + 1) k (by omega) h1 (by omega),List.range'_succ,List.all_cons]
  by_cases c : D.count (j : Int) = 1
  ·rw [if_pos (by omega),decide_eq_true c,Bool.true_and]
  ·rw [if_neg (by omega),decide_eq_false c,Bool.false_and]
theorem specOk_l0 (hF : Fits l) (h1 : 1 ≤ l.length) (hl : l.length ≤ 200) : ∀ (d i : Nat) (D : List Int),i + d = l.length → D.length ≤ 1048576 * i → Ev (fun k=>spec_ReOk.l0 k l (cnts l.length D) (i : Int)) (resB l d i D):=by
 intro d
 induction d with
 | zero =>
  intro i D hi hD
  refine Ev.succ ⟨l.length + 1,fun k hk=>?_⟩
  show spec_ReOk.l0 (k + 1) l (cnts l.length D) (i : Int) = _
  have h2:=specOk_l2 hl D (l.length - 1) 0 k (by omega) h1 (by omega)
  conv=>lhs;simp only [spec_ReOk.l0]
  rw [if_neg (by omega)]
  refine h2.trans ?_
  rw [← List.range_eq_range'];rfl
 | succ d ih =>
  intro i D hi hD
  have hlt : i < l.length:=by omega
  have hks:=hF.kids i hlt
  have hn:=specNode_ev (nodeAt l i) (by have:=hF.set i hlt;omega)
  refine Ev.succ (Ev.congr (Ev.bind hn (g:=fun k t=>if t = true then (spec_ReOk.l1 k l (cnts l.length D) (i : Int) 0) else (some false)) ?_) (fun k=>by
   simp only [spec_ReOk.l0]
   rw [if_pos (show (i : Int) < (l.length : Int) by omega),if_pos (Int.natCast_nonneg i),rdn]))
  simp only [resB]
  cases nodeB (nodeAt l i) with
  | false=>exact Ev.mk fun k=>rfl
  | true =>
   rw [Bool.true_and]
   refine Ev.congr (f:=fun k=>spec_ReOk.l1 k l (cnts l.length D) (i : Int) 0) ?_ (fun k=>if_pos rfl)
   refine specOk_l1 hl i hlt _ (nodeAt l i).f3.length 0 (by omega) hks D (by omega) ?_ ?_ ?_
   ·intro hall
    rw [List.drop_zero] at hall ⊢
    rw [hall,Bool.true_and]
    exact ih (i + 1) (D ++ (nodeAt l i).f3) (by omega) (by rw [List.length_append];omega)
   ·intro hall
    rw [List.drop_zero] at hall
    rw [hall,Bool.false_and]
   ·intro q h0 hq h2
    rw [List.drop_zero] at h2
    obtain ⟨m,rfl⟩:=Int.eq_ofNat_of_zero_le h0
    rw [resB_twice l m (by omega) d (i + 1) _ h2,Bool.and_false]
theorem specOk_ev (hF : Fits l) : Ev (fun k=>spec_ReOk.f k l) (okB l):=by
 unfold okB
 by_cases h1 : 1 ≤ l.length
 ·by_cases hl : l.length ≤ 200
  ·rw [decide_eq_true h1,decide_eq_true hl,Bool.true_and,Bool.true_and]
   refine Ev.succ (Ev.congr (specOk_l0 hF h1 hl l.length 0 [] (by omega) (by simp)) fun k=>?_)
   unfold spec_ReOk.f
   rw [if_neg (by omega),decide_eq_false (show ¬ (l.length : Int) > 200 by omega)]
   simp only [spec_ReOk.j0]
   rw [if_neg (by decide),if_pos (Int.natCast_nonneg _),Int.toNat_natCast,if_pos (by omega),cnts_nil]
   rfl
  ·refine Ev.succ (Ev.mk fun k=>?_)
   show spec_ReOk.f (k + 1) l = _
   unfold spec_ReOk.f
   rw [if_neg (by omega),decide_eq_true (show (l.length : Int) > 200 by omega),decide_eq_false hl,Bool.false_and,Bool.and_false]
   simp only [spec_ReOk.j0,if_true]
 ·refine Ev.succ (Ev.mk fun k=>?_)
  show spec_ReOk.f (k + 1) l = _
  unfold spec_ReOk.f
  rw [if_pos (by omega),decide_eq_false h1,Bool.false_and]
  simp only [spec_ReOk.j0,if_true]
def flatN (l : List S49) : Nat → List Int
 | 0=>[]
 | m + 1=>flatN l m ++ (nodeAt l m).f3
theorem resB_all : ∀ (d i : Nat),i + d = l.length → resB l d i (flatN l i) = true → (∀ n,i ≤ n → n < l.length → nodeB (nodeAt l n) = true ∧ (nodeAt l n).f3.all (kidB n) = true) ∧ chkB l.length (flatN l l.length) = true
 | 0,i,hi,h=>by
  have e : i = l.length:=by omega
  subst e
  exact ⟨fun n h1 h2=>absurd h2 (by omega),h⟩
 | d + 1,i,hi,h=>by
  simp only [resB,Bool.and_eq_true] at h
  obtain ⟨h1,h2,h3⟩:=h
  obtain ⟨g1,g2⟩:=resB_all d (i + 1) (by omega) h3
  refine ⟨fun n hn hn2=>?_,g2⟩
  by_cases c : n = i
  ·subst c;exact ⟨h1,h2⟩
  ·exact g1 n (by omega) hn2
theorem okB_all (h : okB l = true) : (1 ≤ l.length ∧ l.length ≤ 200) ∧ (∀ n,n < l.length → nodeB (nodeAt l n) = true ∧ (nodeAt l n).f3.all (kidB n) = true) ∧ chkB l.length (flatN l l.length) = true:=by
 unfold okB at h
 simp only [Bool.and_eq_true,decide_eq_true_eq] at h
 obtain ⟨g1,g2⟩:=resB_all l.length 0 (by omega) h.2.2
 exact ⟨⟨h.1,h.2.1⟩,fun n hn=>g1 n (by omega) hn,g2⟩
theorem nodeB_told {x : S49} (h : nodeB x = true) : (0 ≤ x.f0 ∧ x.f0 ≤ 7) ∧ (5 ≤ x.f0 → x.f3.length = 1) ∧ (x.f0 = 3 → 2 ≤ x.f3.length) ∧ (x.f0 = 0 → x.f2.size % 2 = 0):=by
 unfold nodeB at h
 by_cases h0 : x.f0 = 0
 ·rw [if_pos h0] at h
  by_cases c : x.f2.size % 2 = 0 ∧ x.f3.length = 0 ∧ ¬ (x.f2.size = 0 ∧ x.f1 = false)
  ·exact ⟨⟨by omega,by omega⟩,fun _=>by omega,fun _=>by omega,fun _=>c.1⟩
  ·rw [if_neg c] at h;cases h
 ·rw [if_neg h0] at h
  by_cases c : x.f1 = true ∨ x.f2.size ≠ 0
  ·rw [if_pos c] at h;cases h
  ·rw [if_neg c] at h
   by_cases c1 : x.f0 = 1 ∨ x.f0 = 2
   ·exact ⟨⟨by omega,by omega⟩,fun _=>by omega,fun _=>by omega,fun _=>by omega⟩
   ·rw [if_neg c1] at h
    by_cases c2 : x.f0 = 3 ∨ x.f0 = 4
    ·rw [if_pos c2,decide_eq_true_eq] at h
     exact ⟨⟨by omega,by omega⟩,fun _=>by omega,fun _=>h,fun _=>by omega⟩
    ·rw [if_neg c2] at h
     by_cases c3 : x.f0 = 5 ∨ x.f0 = 6 ∨ x.f0 = 7
     ·rw [if_pos c3,decide_eq_true_eq] at h
      exact ⟨⟨by omega,by omega⟩,fun _=>h,fun _=>by omega,fun _=>by omega⟩
     ·rw [if_neg c3] at h;cases h
theorem kidB_told {n : Nat} {q : Int} {ks : List Int} (h : ks.all (kidB n) = true) (hq : q ∈ ks) : 0 ≤ q ∧ q < (n : Int):=by
 have:=List.all_eq_true.mp h q hq
 unfold kidB at this
 simpa using this
theorem okB_valid (hF : Fits l) (h : okB l = true) : Valid l:=by
 obtain ⟨⟨h1,h2⟩,h3,_⟩:=okB_all h
 refine ⟨h1,h2,fun n hn=>(nodeB_told (h3 n hn).1).1,fun n hn k hk=>kidB_told (h3 n hn).2 hk,fun n hn h5=>?_,fun n hn hf=>?_,fun n hn hf=>(nodeB_told (h3 n hn).1).2.2.2 hf,fun n hn=>by have:=hF.set n hn;omega⟩
 ·exact List.length_eq_one_iff.mp ((nodeB_told (h3 n hn).1).2.1 h5)
 ·intro e
  have:=(nodeB_told (h3 n hn).1).2.2.1 hf
  rw [e] at this
  exact absurd this (by decide)
end
end Go.Proofs.YtlakdfbfkbndiaaDoor.Q
namespace Go.Proofs.YtlakdfbfkbndiaaDoor.Q
open Go.RowKit Go.Proofs.YtlakdfbfkbndiaaDoor.Re Go.Proofs.YtlakdfbfkbndiaaDoorW.PrintWords Go.Proofs.YtlakdfbfkbndiaaDoorW.PrintLast Go.Proofs.YtlakdfbfkbndiaaDoorW.PrintMore
theorem okV_iff {l : List S49} (hF : Fits l) : okV l ↔ okB l = true:=by
 obtain ⟨K,hK⟩:=implOk_ev hF
 exact (ok_one (hK K (Nat.le_refl _))).symm
theorem sure {l : List S49} (hF : Fits l) : sureL l:=by
 obtain ⟨K,hK⟩:=implOk_ev hF
 exact ⟨⟨K,_,hK K (Nat.le_refl _)⟩,fun h=>okB_valid hF ((okV_iff hF).mp h)⟩
def conv (x : S56) : S49:=⟨x.f0,x.f1,x.f2,x.f3⟩
end Go.Proofs.YtlakdfbfkbndiaaDoor.Q
namespace Go.Proofs.YtlakdfbfkbndiaaDoor.Q
open Go.RowKit Go.Proofs.YtlakdfbfkbndiaaDoor.Re Go.Proofs.YtlakdfbfkbndiaaDoorW.PrintWords Go.Proofs.YtlakdfbfkbndiaaDoorW.PrintLast Go.Proofs.YtlakdfbfkbndiaaDoorW.PrintMore
section
variable (l0 : List S56)
def Given (l0 : List S56) : Prop:=l0.length ≤ 9223372036854775807 ∧ ∀ n,n < l0.length → (nodeAt (l0.map conv) n).f2.size ≤ 9223372036854775807 ∧ (nodeAt (l0.map conv) n).f3.length ≤ 9223372036854775807
end
end Go.Proofs.YtlakdfbfkbndiaaDoor.Q
namespace Go.Proofs.YtlakdfbfkbndiaaDoor.Q
open Go.RowKit Go.Proofs.YtlakdfbfkbndiaaDoor.Re Go.Proofs.YtlakdfbfkbndiaaDoorW.PrintWords Go.Proofs.YtlakdfbfkbndiaaDoorW.PrintLast Go.Proofs.YtlakdfbfkbndiaaDoorW.PrintMore
section
variable {l : List S49}
noncomputable def findA (l : List S49) (s : ByteArray) : Int × Int:=if okB l = true ∧ s.size ≤ 500 then findR l s else (-1,0)
theorem implFind_eq (hF : Fits l) (s : ByteArray) : impl_ReFind.f l s = some (findA l s):=by
 unfold impl_ReFind.f findA
 rw [if_pos (sure hF)]
 by_cases c : okB l = true ∧ s.size ≤ 500
 ·rw [if_pos c,if_pos ⟨(okV_iff hF).mpr c.1,c.2⟩]
 ·rw [if_neg c,if_neg fun h=>c ⟨(okV_iff hF).mp h.1,h.2⟩]
end
end Go.Proofs.YtlakdfbfkbndiaaDoor.Q
namespace Go.Proofs.YtlakdfbfkbndiaaDoor.Q
open Go Go.ChangeShapes Go.WideShapes Go.Deep Go.Proofs.YtlakdfbfkbndiaaDoorW.PrintWords
def okInt (k : IntKind) (n : Int) : Prop:=(Lit.int k n).wf = true
def okStr (s : ByteArray) : Prop:=s.size ≤ maxLen
def okBool (_ : Bool) : Prop:=True
end Go.Proofs.YtlakdfbfkbndiaaDoor.Q
namespace Go.Proofs.YtlakdfbfkbndiaaDoor.Pure
open Go Go.RowKit Go.Proofs.YtlakdfbfkbndiaaDoor.Q Go.Proofs.YtlakdfbfkbndiaaDoorW.PrintWords Go.Proofs.YtlakdfbfkbndiaaDoorW.PrintLast Go.Proofs.YtlakdfbfkbndiaaDoorW.PrintMore
def NodesOk (l0 : List S56) : Prop:=∀ a ∈ l0,okInt .i64 a.f0 ∧ okBool a.f1 ∧ okStr a.f2 ∧ (a.f3.length ≤ maxLen ∧ ∀ b_ ∈ a.f3,okInt .i64 b_)
theorem given (l0 : List S56) (h1 : l0.length ≤ maxLen) (h2 : NodesOk l0) : Given l0:=by
 refine ⟨h1,fun n hn=>?_⟩
 have e : nodeAt (l0.map conv) n = conv (l0[n]'hn):=by
  unfold nodeAt rd_T49
  rw [Int.toNat_natCast,List.getD_eq_getElem?_getD,List.getElem?_map,List.getElem?_eq_getElem hn];rfl
 rw [e]
 obtain ⟨_,_,h3,h4,_⟩:=h2 _ (List.getElem_mem hn)
 exact ⟨h3,h4⟩
end Go.Proofs.YtlakdfbfkbndiaaDoor.Pure
set_option linter.unusedVariables false
namespace Go.Proofs.YtlakdfbfkbndiaaDoor.Q
open Go.RowKit Go.Proofs.YtlakdfbfkbndiaaDoor.Re Go.Proofs.YtlakdfbfkbndiaaDoorW.PrintWords Go.Proofs.YtlakdfbfkbndiaaDoorW.PrintLast Go.Proofs.YtlakdfbfkbndiaaDoorW.PrintMore
def Tch (w W : World) (S : Nat → Prop) : Prop:=w.heap.size ≤ W.heap.size ∧ ∀ j,j < w.heap.size → (¬ S j → W.heap[j]? = w.heap[j]?) ∧ ∀ cur e,w.heap[j]? = some (.cells cur e (0,0)) → ∃ cur',W.heap[j]? = some (.cells cur' e (0,0)) ∧ cur'.size = cur.size
end Go.Proofs.YtlakdfbfkbndiaaDoor.Q
set_option linter.unusedVariables false
namespace Go.Proofs.YtlakdfbfkbndiaaDoor.Q
open Go.RowKit Go.Proofs.YtlakdfbfkbndiaaDoor.Re Go.Proofs.YtlakdfbfkbndiaaDoorW.PrintWords Go.Proofs.YtlakdfbfkbndiaaDoorW.PrintLast Go.Proofs.YtlakdfbfkbndiaaDoorW.PrintMore
section
variable {w W V : World} {S S' : Nat → Prop}
theorem Tch.refl (w : World) (S : Nat → Prop) : Tch w w S:=⟨Nat.le_refl _,fun j _=>⟨fun _=>rfl,fun cur _ h=>⟨cur,h,rfl⟩⟩⟩
theorem Tch.trans (h : Tch w W S) (h' : Tch W V S') (hs : ∀ j,S' j → S j) : Tch w V S:=⟨Nat.le_trans h.1 h'.1,fun j hj=>by
 obtain ⟨h1,h2⟩:=h.2 j hj
 obtain ⟨h3,h4⟩:=h'.2 j (Nat.lt_of_lt_of_le hj h.1)
 refine ⟨fun hn=>(h3 fun h=>hn (hs j h)).trans (h1 hn),fun cur e hc=>?_⟩
 obtain ⟨cur1,h5,h6⟩:=h2 cur e hc
 obtain ⟨cur2,h7,h8⟩:=h4 cur1 e h5
 exact ⟨cur2,h7,h8.trans h6⟩⟩
theorem Tch.below (hb : Below w.heap.size w W) (S : Nat → Prop) : Tch w W S:=⟨hb.size,fun j hj=>⟨fun _=>hb.block j hj,fun cur e h=>⟨cur,(hb.block j hj).trans h,rfl⟩⟩⟩
theorem Tch.set {b t : Nat} {cur : Array Value} (h : w.heap[b]? = some (.cells cur t (0,0))) (hS : S b) (i : Nat) (u : Value) : Tch w (w.setCell ⟨b,i,none⟩ u) S:=⟨by simp [World.setCell],fun j hj=>by
 by_cases hjb : j = b
 ·subst hjb
  refine ⟨fun hn=>absurd hS hn,fun cur' e hc=>?_⟩
  rw [h] at hc
  simp only [Option.some.injEq,Obj.cells.injEq] at hc
  obtain ⟨rfl,rfl,-⟩:=hc
  exact ⟨_,blk_set h i u,by simp⟩
 ·have e:=Below.heap_setCell w ⟨b,i,none⟩ u j hjb
  exact ⟨fun _=>e,fun cur' t hc=>⟨cur',e.trans hc,rfl⟩⟩⟩
theorem Tch.kept (h : Tch w W S) : Kept w W S:=⟨h.1,fun i hi hn=>(h.2 i hi).1 hn⟩
end
end Go.Proofs.YtlakdfbfkbndiaaDoor.Q
set_option linter.unusedVariables false
namespace Go.Proofs.YtlakdfbfkbndiaaDoor.Q
open Go.RowKit Go.Proofs.YtlakdfbfkbndiaaDoor.Re Go.Proofs.YtlakdfbfkbndiaaDoorW.PrintWords Go.Proofs.YtlakdfbfkbndiaaDoorW.PrintLast Go.Proofs.YtlakdfbfkbndiaaDoorW.PrintMore
theorem cell_of {w : World} {b t i : Nat} {cur : Array Value} (h : w.heap[b]? = some (.cells cur t (0,0))) (hi : i < cur.size) : ∃ u,w.cell? ⟨b,i,none⟩ = some u ∧ w.frozen? ⟨b,i,none⟩ = false :=
 ⟨cur[i],by simp [World.cell?,h,hi],by simp [World.frozen?,h]⟩
def NInv (P0 : Nat → Prop) (base g : Nat) (l : List S49) (W : World) : Prop:=∃ cells,W.heap[g]? = some (.cells cells 49 (0,0)) ∧ ∀ i,i < l.length → i * 4 + 4 ≤ cells.size ∧ ∃ A c,cells[i * 4 + 3]? = some (.slice A (rd_T49 l i).f3.length c) ∧
 ((rd_T49 l i).f3.length = 0 ∨ ∃ b cur,A = some ⟨b,0,none⟩ ∧ base ≤ b ∧ b ≠ g ∧ P0 b ∧ W.heap[b]? = some (.cells cur 3 (0,0)) ∧ (rd_T49 l i).f3.length ≤ cur.size)
end Go.Proofs.YtlakdfbfkbndiaaDoor.Q
set_option linter.unusedVariables false
namespace Go.Proofs.YtlakdfbfkbndiaaDoor.Q
open Go.RowKit Go.Proofs.YtlakdfbfkbndiaaDoor.Re Go.Proofs.YtlakdfbfkbndiaaDoorW.PrintWords Go.Proofs.YtlakdfbfkbndiaaDoorW.PrintLast Go.Proofs.YtlakdfbfkbndiaaDoorW.PrintMore
section
variable {P0 S : Nat → Prop} {base g n cap : Nat} {l : List S49} {W W' : World}
theorem NInv.step (h : NInv P0 base g l W) (hT : Tch W W' S) (hg : ¬ S g) : NInv P0 base g l W':=by
 obtain ⟨cells,h1,h2⟩:=h
 refine ⟨cells,((hT.2 g (blk_lt h1)).1 hg).trans h1,fun i hi=>?_⟩
 obtain ⟨h3,A,c,h4,h5⟩:=h2 i hi
 refine ⟨h3,A,c,h4,h5.imp id ?_⟩
 rintro ⟨b,cur,a1,a2,a3,a4,a5,a6⟩
 obtain ⟨cur',c1,c2⟩:=(hT.2 b (blk_lt a5)).2 cur 3 a5
 exact ⟨b,cur',a1,a2,a3,a4,c1,by rw [c2];exact a6⟩
theorem NInv.set (h : NInv P0 base g l W) (i j : Nat) (hj : j < 3) (u : Value) : NInv P0 base g l (W.setCell ⟨g,i * 4 + j,none⟩ u):=by
 obtain ⟨cells,h1,h2⟩:=h
 refine ⟨_,blk_set h1 (i * 4 + j) u,fun k hk=>?_⟩
 obtain ⟨h3,A,c,h4,h5⟩:=h2 k hk
 refine ⟨by simpa using h3,A,c,?_,h5.imp id ?_⟩
 ·rw [Array.getElem?_setIfInBounds_ne (by omega)]
  exact h4
 ·rintro ⟨b,cur,a1,a2,a3,a4,a5,a6⟩
  exact ⟨b,cur,a1,a2,a3,a4,blk_far a5 (p:=⟨g,i * 4 + j,none⟩) a3 u,a6⟩
theorem NInv.cell (h : NInv P0 base g l W) {i j : Nat} (hi : i < l.length) (hj : j < 4) : ∃ u,W.cell? ⟨g,i * 4 + j,none⟩ = some u ∧ W.frozen? ⟨g,i * 4 + j,none⟩ = false:=by
 obtain ⟨cells,h1,h2⟩:=h
 exact cell_of h1 (by have:=(h2 i hi).1;omega)
theorem NInv.row (h : NInv P0 base g l W) {i : Nat} (hi : i < l.length) : ∃ A c,W.cell? ⟨g,i * 4 + 3,none⟩ = some (.slice A (rd_T49 l i).f3.length c) ∧ ((rd_T49 l i).f3.length = 0 ∨ ∃ b cur,A = some ⟨b,0,none⟩ ∧ base ≤ b ∧ b ≠ g ∧ P0 b ∧ W.heap[b]? = some (.cells cur 3 (0,0)) ∧ (rd_T49 l i).f3.length ≤ cur.size):=by
 obtain ⟨cells,h1,h2⟩:=h
 obtain ⟨h3,A,c,h4,h5⟩:=h2 i hi
 exact ⟨A,c,by simp [World.cell?,h1,h4],h5⟩
theorem row_size {v : Value} {e : Nat} {ok : Nat → Prop} {xs : List Int} {b c : Nat} (h : (Kd.int .i64).R e W base ok v xs) (hv : v = .slice (some ⟨b,0,none⟩) xs.length c) : ∃ cur,W.heap[b]? = some (.cells cur e (0,0)) ∧ xs.length ≤ cur.size:=by
 obtain ⟨inner,ho⟩:=Kd.R_own h
 rcases ho.2 with ⟨h2,_⟩|⟨g,cap',cur,h2,h3,h4,h5,h6,h7,h8⟩
 ·rw [h2] at hv;cases hv
 ·rw [h2] at hv
  cases hv
  refine ⟨cur,h4,?_⟩
  have : (Kd.int .i64).sz = 1:=rfl
  rw [this] at h7
  omega
theorem NInv.of (h : k49.R 49 W base P0 (.slice (some ⟨g,0,none⟩) n cap) l) : NInv P0 base g l W:=by
 obtain ⟨hn,hnc,hC⟩:=Kd.R_reads' h
 obtain ⟨inner0,ho⟩:=Kd.R_own h
 obtain ⟨cells,hcl⟩:=own_typed ho g (by simp [Value.ownBlock])
 refine ⟨cells,hcl,fun i hi=>?_⟩
 obtain ⟨c,c1,c2,c3,c4⟩:=Kd.R_elem h z49 (i : Int) (by omega) (by omega)
 rw [Int.toNat_natCast] at c2 c3
 have e4 : k49.sz = 4:=rfl
 rw [e4] at c3
 obtain ⟨v3,rfl,hr3⟩:=k49_openM c2
 have e1 : l.getD i z49 = rd_T49 l i:=by unfold rd_T49;rw [Int.toNat_natCast]
 rw [e1] at hr3
 have h3:=c3 3 v3 rfl
 have h3' : cells[i * 4 + 3]? = some v3:=by
  have h9:=h3
  simp only [World.cell?,hcl] at h9
  exact h9
 refine ⟨by have:=(Array.getElem?_eq_some_iff.mp h3').1;omega,?_⟩
 obtain ⟨A,c,rfl⟩:=Kd.R_slice hr3
 refine ⟨A,c,h3',?_⟩
 by_cases h0 : (rd_T49 l i).f3.length = 0
 ·exact .inl h0
 ·obtain ⟨b,cp,e5,hb1,hb2,-⟩:=Kd.R_form hr3 (by omega)
  injection e5 with ea _ ec
  subst ea
  obtain ⟨cur,d1,d2⟩:=row_size hr3 (by rw [ec])
  have hok:=hr3.1 b (by simp [Value.ownBlock])
  exact .inr ⟨b,cur,rfl,hb1,hok.2,hok.1,d1,d2⟩
end
end Go.Proofs.YtlakdfbfkbndiaaDoor.Q
namespace Go.Proofs.YtlakdfbfkbndiaaDoor.Q
open Go.RowKit Go.Proofs.YtlakdfbfkbndiaaDoor.Re Go.Proofs.YtlakdfbfkbndiaaDoorW.PrintWords Go.Proofs.YtlakdfbfkbndiaaDoorW.PrintLast Go.Proofs.YtlakdfbfkbndiaaDoorW.PrintMore
section
variable {l : List S49}
open Classical in
noncomputable def endsA (l : List S49) (s : ByteArray) (i : Int) : List Int:=if okB l = true ∧ s.size ≤ 500 ∧ 0 ≤ i ∧ i ≤ (s.size : Int) then nats (endsL l s i.toNat) else []
theorem implEnds_eq (hF : Fits l) (s : ByteArray) (i : Int) : impl_ReEnds.f l s i = some (endsA l s i):=by
 unfold impl_ReEnds.f endsA
 rw [if_pos (sure hF)]
 by_cases c : okB l = true ∧ s.size ≤ 500 ∧ 0 ≤ i ∧ i ≤ (s.size : Int)
 ·rw [if_pos c,if_pos ⟨⟨(okV_iff hF).mpr c.1,c.2.1⟩,c.2.2⟩]
 ·rw [if_neg c,if_neg fun h=>c ⟨(okV_iff hF).mp h.1.1,h.1.2,h.2⟩]
end
end Go.Proofs.YtlakdfbfkbndiaaDoor.Q
set_option linter.unusedVariables false
namespace Go.Proofs.YtlakdfbfkbndiaaDoor.Ev.Pr
open Go Go.RowKit Go.Proofs.YtlakdfbfkbndiaaDoorW.PrintWords Go.Proofs.YtlakdfbfkbndiaaDoorW.PrintMore Kd Go.Proofs.YtlakdfbfkbndiaaDoor.Ev
theorem node_toS (l : List ReN) (n : Nat) (hn : n < l.length) : Q.nodeAt (l.map toS) n = toS (l[n]'hn):=by
 unfold Q.nodeAt Q.rd_T49
 rw [Int.toNat_natCast,List.getD_eq_getElem?_getD,List.getElem?_map,List.getElem?_eq_getElem hn]
 rfl
theorem fits_of {l : List ReN} (h : Sm l) : Q.Fits (l.map toS):=by
 refine ⟨fun n hn=>?_,fun n hn=>?_⟩
 all_goals
  rw [List.length_map] at hn
  rw [node_toS l n hn]
  have:=h _ (List.getElem_mem hn)
 ·exact Nat.le_trans this.2 (by decide)
 ·exact Nat.le_trans this.1 (by decide)
theorem specOk_mono (l : List Q.S49) {b : Bool} {k : Nat} (h : Q.spec_ReOk.f k l = some b) : ∀ n,Q.spec_ReOk.f (k + n) l = some b
 | 0=>h
 | n + 1=>Q.spec_ReOk.mono l (k + n) b (specOk_mono l h n)
theorem specOk_eq {l : List Q.S49} (hF : Q.Fits l) : specOk l = some (Q.okB l):=by
 obtain ⟨K,hK⟩:=Q.specOk_ev hF
 have hx : ∃ b k,Q.spec_ReOk.f k l = some b:=⟨_,K,hK K (Nat.le_refl _)⟩
 unfold specOk
 rw [dif_pos hx]
 obtain ⟨k,hk⟩:=hx.choose_spec
 have h1:=specOk_mono l hk K
 have h2 : Q.spec_ReOk.f (k + K) l = some (Q.okB l):=hK (k + K) (by omega)
 rw [h1] at h2
 exact h2
end Go.Proofs.YtlakdfbfkbndiaaDoor.Ev.Pr
set_option linter.unusedVariables false
namespace Go.Proofs.YtlakdfbfkbndiaaDoor.Ev.Pr
open Go Go.RowKit Go.Proofs.YtlakdfbfkbndiaaDoorW.PrintWords Go.Proofs.YtlakdfbfkbndiaaDoorW.PrintMore Kd Go.Proofs.YtlakdfbfkbndiaaDoor.Ev
section
variable {ρ : Type}
theorem tb_find (k : Nat) : (tb (ρ:=ρ) k).impl_ReFind = X_impl_ReFind:=by cases k <;> rfl
theorem tb_test (k : Nat) : (tb (ρ:=ρ) k).impl_ReTest = X_impl_ReTest:=by cases k <;> rfl
theorem tb_ends (k : Nat) : (tb (ρ:=ρ) k).impl_ReEnds = X_impl_ReEnds:=by cases k <;> rfl
theorem tb_count (k : Nat) : (tb (ρ:=ρ) k).impl_ReCount = X_impl_ReCount:=by cases k <;> rfl
theorem tb_ok (k : Nat) : (tb (ρ:=ρ) k).spec_ReOk = X_spec_ReOk:=by cases k <;> rfl
theorem find_tot {l : List ReN} (h : Sm l) (s : ByteArray) : Tot (fun k κ=>(tb (ρ:=ρ) k).impl_ReFind l s (fun a b=>κ (a,b))) fun r=>r = Q.findA (l.map toS) s :=
 Tot.ret _ (fun k κ=>by rw [tb_find];unfold X_impl_ReFind;rw [Q.implFind_eq (fits_of h)];rfl) rfl
theorem test_tot {l : List ReN} (h : Sm l) (s : ByteArray) : Tot (fun k κ=>(tb (ρ:=ρ) k).impl_ReTest l s (fun a=>κ a)) fun r=>r = decide (0 ≤ (Q.findA (l.map toS) s).1) :=
 Tot.ret _ (fun k κ=>by rw [tb_test];unfold X_impl_ReTest Q.impl_ReTest.f;rw [Q.implFind_eq (fits_of h)];rfl) rfl
theorem ends_tot {l : List ReN} (h : Sm l) (s : ByteArray) (i : Int) : Tot (fun k κ=>(tb (ρ:=ρ) k).impl_ReEnds l s i (fun a=>κ a)) fun r=>r = Q.endsA (l.map toS) s i :=
 Tot.ret _ (fun k κ=>by rw [tb_ends];unfold X_impl_ReEnds;rw [Q.implEnds_eq (fits_of h)];rfl) rfl
theorem ok_tot {l : List ReN} (h : Sm l) : Tot (fun k κ=>(tb (ρ:=ρ) k).spec_ReOk l (fun a=>κ a)) fun r=>r = Q.okB (l.map toS) :=
 Tot.ret _ (fun k κ=>by rw [tb_ok];unfold X_spec_ReOk;rw [specOk_eq (fits_of h)];rfl) rfl
theorem count_tot {l : List ReN} (h : Sm l) (hok : Q.okB (l.map toS) = true) {s : ByteArray} (hs : s.size ≤ 500) : Tot (fun k κ=>(tb (ρ:=ρ) k).impl_ReCount l s (fun a=>κ a)) fun r=>r = ((Q.occV (l.map toS) s (s.size + 2) 0).length : Int) :=
 Tot.ret _ (fun k κ=>by
  rw [tb_count]
  unfold X_impl_ReCount Q.impl_ReCount.f
  rw [if_pos (Q.sure (fits_of h)),if_pos ⟨(Q.okV_iff (fits_of h)).mpr hok,hs⟩]
  rfl) rfl
def shapeL : List ReN:=[(0,false,bs [97,97],[]),(6,false,bs [],[0]),(0,false,bs [98,98],[]),(3,false,bs [],[1,2]),(0,false,bs [99,99],[]),(4,false,bs [],[3,4])]
theorem shape_sm : Sm shapeL:=fun x hx=>by
 have h : (shapeL.all fun x=>decide (x.2.2.1.size ≤ 1000 ∧ x.2.2.2.length ≤ 1000)) = true:=by decide +kernel
 exact of_decide_eq_true (p:=x.2.2.1.size ≤ 1000 ∧ x.2.2.2.length ≤ 1000) (List.all_eq_true.mp h x hx)
theorem shape_ok : Q.okB (shapeL.map toS) = true:=by decide +kernel
theorem shape_find : Q.findA (shapeL.map toS) (bs [120,97,97,98]) = (1,3):=by
 unfold Q.findA
 rw [if_pos ⟨shape_ok,by decide⟩]
 unfold Q.findR
 rw [Q.find_eq]
 decide +kernel
theorem shape_test : Q.findA (shapeL.map toS) (bs [120,97]) = (-1,0):=by
 unfold Q.findA
 rw [if_pos ⟨shape_ok,by decide⟩]
 unfold Q.findR
 rw [Q.find_eq]
 decide +kernel
theorem shape_count : (Q.occV (shapeL.map toS) (bs [99,97,98,99]) ((bs [99,97,98,99]).size + 2) 0).length = 3:=by
 rw [Q.occ_eq]
 decide +kernel
theorem shape_parse (k : Nat) (κ : List ReN → Bool → Option ρ) : (tb (k + 40)).impl_ReParse (bs [97,43,98,124,99]) κ = κ shapeL true:=by kernel_rfl
theorem shape_text (k : Nat) (κ : ByteArray → Option ρ) : (tb (k + 40)).impl_ReText shapeL κ = κ (bs [97,43,98,124,99]):=by kernel_rfl
theorem parse_tot : Tot (fun k κ=>(tb (ρ:=ρ) k).impl_ReParse (bs [97,43,98,124,99]) (fun a b=>κ (a,b))) fun r=>r = (shapeL,true):=⟨40,_,rfl,fun k hk κ=>by
 obtain ⟨j,rfl⟩ : ∃ j,k = j + 40:=⟨k - 40,by omega⟩
 exact shape_parse j _⟩
theorem text_tot : Tot (fun k κ=>(tb (ρ:=ρ) k).impl_ReText shapeL (fun a=>κ a)) fun r=>r = bs [97,43,98,124,99]:=⟨40,_,rfl,fun k hk κ=>by
 obtain ⟨j,rfl⟩ : ∃ j,k = j + 40:=⟨k - 40,by omega⟩
 exact shape_text j _⟩
theorem shapes_tot : Tot (fun k κ=>(tb (ρ:=ρ) k).laws_shapes (fun a=>κ a)) fun r=>r = true:=by
 refine Tot.step (g:=fun k κ=>B_laws_shapes (tb k) (fun a=>κ a)) (fun _ _=>rfl) ?_
 unfold B_laws_shapes
 refine Tot.bind2 parse_tot fun l b h=>?_
 obtain ⟨rfl,rfl⟩ : l = shapeL ∧ b = true:=by injection h with h1 h2;exact ⟨h1,h2⟩
 refine Tot.bind2 (find_tot shape_sm _) fun a b h=>?_
 rw [shape_find] at h
 obtain ⟨rfl,rfl⟩ : a = 1 ∧ b = 3:=by injection h with h1 h2;exact ⟨h1,h2⟩
 refine Tot.bif (fun _=>Tot.bif (fun _=>Tot.bif (fun _=>?_) (fun h=>absurd h (by decide))) (fun h=>absurd h (by decide))) (fun h=>absurd h (by decide))
 refine Tot.bind1 text_tot fun t h=>?_
 subst h
 refine Tot.bif (fun _=>?_) (fun h=>absurd h (by simp))
 refine Tot.bind1 (count_tot shape_sm shape_ok (by decide)) fun c h=>?_
 rw [shape_count] at h
 subst h
 refine Tot.bif (fun _=>?_) (fun h=>absurd h (by decide))
 refine Tot.bind1 (test_tot shape_sm _) fun c h=>?_
 rw [shape_test] at h
 exact Tot.ret _ (fun _ _=>rfl) (by rw [h];rfl)
end
end Go.Proofs.YtlakdfbfkbndiaaDoor.Ev.Pr
namespace Go.Proofs.YtlakdfbfkbndiaaDoor.Q
open Go.RowKit Go.Proofs.YtlakdfbfkbndiaaDoor.Re Go.Proofs.YtlakdfbfkbndiaaDoorW.PrintWords Go.Proofs.YtlakdfbfkbndiaaDoorW.PrintLast Go.Proofs.YtlakdfbfkbndiaaDoorW.PrintMore
abbrev Nd:=S49
def up (c : Nat) (x : Nd) : Nd:=⟨x.f0,x.f1,x.f2,x.f3.map (· + (c : Int))⟩
end Go.Proofs.YtlakdfbfkbndiaaDoor.Q
namespace Go.Proofs.YtlakdfbfkbndiaaDoor.Q
open Go.RowKit Go.Proofs.YtlakdfbfkbndiaaDoor.Re Go.Proofs.YtlakdfbfkbndiaaDoorW.PrintWords Go.Proofs.YtlakdfbfkbndiaaDoorW.PrintLast Go.Proofs.YtlakdfbfkbndiaaDoorW.PrintMore
section
variable {a b l : List Nd} {x : Nd} {n m c : Nat}
theorem nodeAt_lt (h : n < l.length) : nodeAt l n = l[n]:=by
 unfold nodeAt rd_T49
 rw [Int.toNat_natCast,List.getD_eq_getElem?_getD,List.getElem?_eq_getElem h];rfl
theorem nodeAt_left (h : n < a.length) : nodeAt (a ++ b) n = nodeAt a n:=by
 rw [nodeAt_lt h,nodeAt_lt (by rw [List.length_append];omega),List.getElem_append_left h]
theorem nodeAt_right (h : n < b.length) : nodeAt (a ++ b) (a.length + n) = nodeAt b n:=by
 rw [nodeAt_lt h,nodeAt_lt (by rw [List.length_append];omega),List.getElem_append_right (by omega)]
 congr 1
 omega
theorem nodeAt_top : nodeAt (l ++ [x]) l.length = x:=by
 have:=nodeAt_right (a:=l) (b:=[x]) (n:=0) (by simp)
 rw [Nat.add_zero] at this
 exact this
theorem flat_left : ∀ {m : Nat},m ≤ a.length → flatN (a ++ b) m = flatN a m
 | 0,_=>rfl
 | m + 1,h=>by
  simp only [flatN]
  rw [flat_left (by omega),nodeAt_left (by omega)]
structure Forest (l : List Nd) (R : List Int) : Prop where
 nd : ∀ n,n < l.length → nodeB (nodeAt l n) = true ∧ (nodeAt l n).f3.all (kidB n) = true
 rng : ∀ q,q ∈ R → 0 ≤ q ∧ q < (l.length : Int)
 cnt : ∀ j : Nat,j < l.length → (flatN l l.length).count (j : Int) + R.count (j : Int) = 1
theorem flat_lt (h : ∀ n,n < l.length → (nodeAt l n).f3.all (kidB n) = true) : ∀ (m : Nat),m ≤ l.length → ∀ q,q ∈ flatN l m → 0 ≤ q ∧ q + 1 < (m : Int)
 | 0,_,q,hq=>by simp [flatN] at hq
 | m + 1,hm,q,hq=>by
  simp only [flatN,List.mem_append] at hq
  rcases hq with hq|hq
  ·have:=flat_lt h m (by omega) q hq
   omega
  ·have:=kidB_told (h m (by omega)) hq
   omega
theorem count_none {D : List Int} {j : Int} (h : ∀ q,q ∈ D → q ≠ j) : D.count j = 0:=List.count_eq_zero.mpr fun hm=>h j hm rfl
theorem forest_ok (h : okB a = true) : Forest a [((a.length - 1 : Nat) : Int)]:=by
 obtain ⟨⟨h1,h2⟩,h3,h4⟩:=okB_all h
 refine ⟨h3,fun q hq=>?_,fun j hj=>?_⟩
 ·rw [List.mem_singleton.mp hq];omega
 ·by_cases c : j = a.length - 1
  ·subst c
   rw [count_none fun q hq e=>by have:=flat_lt (fun n hn=>(h3 n hn).2) a.length (Nat.le_refl _) q hq;omega]
   simp
  ·have h5:=List.all_eq_true.mp h4 j (List.mem_range.mpr (by omega))
   have h5:=of_decide_eq_true h5
   rw [h5,count_none fun q hq e=>by rw [List.mem_singleton.mp hq] at e;omega]
theorem forest_top {R : List Int} (h : Forest l R) (hx : nodeB x = true) (hk : x.f3 = R) : Forest (l ++ [x]) [(l.length : Int)]:=by
 have hl : (l ++ [x]).length = l.length + 1:=by simp
 refine ⟨fun n hn=>?_,fun q hq=>?_,fun j hj=>?_⟩
 ·rw [hl] at hn
  by_cases c : n < l.length
  ·rw [nodeAt_left c];exact h.nd n c
  ·obtain rfl : n = l.length:=by omega
   rw [nodeAt_top]
   refine ⟨hx,List.all_eq_true.mpr fun q hq=>?_⟩
   have:=h.rng q (by rw [← hk];exact hq)
   unfold kidB
   simp only [Bool.and_eq_true,decide_eq_true_eq]
   omega
 ·rw [List.mem_singleton.mp hq,hl];omega
 ·rw [hl] at hj ⊢
  simp only [flatN]
  rw [flat_left (Nat.le_refl _),nodeAt_top,hk,List.count_append]
  by_cases c : j < l.length
  ·rw [h.cnt j c,count_none fun q hq e=>by rw [List.mem_singleton.mp hq] at e;omega]
  ·obtain rfl : j = l.length:=by omega
   rw [count_none (D:=flatN l l.length) fun q hq e=>by have:=flat_lt (fun n hn=>(h.nd n hn).2) l.length (Nat.le_refl _) q hq;omega,count_none (D:=R) fun q hq e=>by have:=h.rng q hq;omega]
   simp
theorem resB_of (hn : ∀ n,n < l.length → nodeB (nodeAt l n) = true ∧ (nodeAt l n).f3.all (kidB n) = true) (hc : chkB l.length (flatN l l.length) = true) : ∀ (d i : Nat),i + d = l.length → resB l d i (flatN l i) = true
 | 0,i,hi=>by
  have e : i = l.length:=by omega
  subst e
  exact hc
 | d + 1,i,hi=>by
  simp only [resB,Bool.and_eq_true]
  obtain ⟨h1,h2⟩:=hn i (by omega)
  exact ⟨h1,h2,resB_of hn hc d (i + 1) (by omega)⟩
theorem okB_forest (h : Forest l [((l.length - 1 : Nat) : Int)]) (h1 : 1 ≤ l.length) (h2 : l.length ≤ 200) : okB l = true:=by
 unfold okB
 rw [decide_eq_true h1,decide_eq_true h2,Bool.true_and,Bool.true_and]
 refine resB_of h.nd (List.all_eq_true.mpr fun j hj=>?_) l.length 0 (by omega)
 have hj:=List.mem_range.mp hj
 have:=h.cnt j (by omega)
 rw [count_none (D:=[_]) fun q hq e=>by rw [List.mem_singleton.mp hq] at e;omega] at this
 exact decide_eq_true (by omega)
theorem meets_emb {l' : List Nd} (hV : Valid l) (hV' : Valid l') (s : ByteArray) (c : Nat) (he : ∀ n,n < l.length → n + c < l'.length ∧ nodeAt l' (n + c) = up c (nodeAt l n)) (n : Nat) : n < l.length → meets l' s (n + c) = meets l s n:=by
 induction n using Nat.strongRecOn with
 | _ n ih =>
  intro hn
  obtain ⟨hn',hx⟩:=he n hn
  rw [meets_eq hV s n hn,meets_eq hV' s (n + c) hn',hx]
  have hk : ∀ k,k ∈ (nodeAt l n).f3 → meets l' s (k + (c : Int)).toNat = meets l s k.toNat:=fun k hk=>by
   have:=hV.kid n hn k hk
   rw [show (k + (c : Int)).toNat = k.toNat + c by omega]
   exact ih _ (by omega) (by omega)
  have e3 : (up c (nodeAt l n)).f3 = (nodeAt l n).f3.map (· + (c : Int)):=rfl
  have e0 : (up c (nodeAt l n)).f0 = (nodeAt l n).f0:=rfl
  have eK : kidsR l' s (n + c) = kidsR l s n:=by
   unfold kidsR
   rw [hx,e3,List.map_map]
   exact List.map_congr_left fun k hk'=>hk k hk'
  have e1 : 5 ≤ (nodeAt l n).f0 → meets l' s (((nodeAt l n).f3.map (· + (c : Int))).headD 0).toNat = meets l s ((nodeAt l n).f3.headD 0).toNat:=fun h5=>by
   obtain ⟨k,e⟩:=hV.one n hn h5
   have:=hk k (by rw [e];simp)
   rw [e]
   exact this
  rw [eK,e3,e0]
  by_cases c3 : (nodeAt l n).f0 < 3
  ·rw [if_pos c3,if_pos c3];rfl
  rw [if_neg c3,if_neg c3]
  by_cases c4 : (nodeAt l n).f0 = 3
  ·rw [if_pos c4,if_pos c4]
  rw [if_neg c4,if_neg c4]
  by_cases c5 : (nodeAt l n).f0 = 4
  ·rw [if_pos c5,if_pos c5]
   funext i j
   refine propext ⟨?_,?_⟩
   ·rintro ⟨k,hk',hm⟩
    obtain ⟨p,hp,rfl⟩:=List.mem_map.mp hk'
    exact ⟨p,hp,by rw [← hk p hp];exact hm⟩
   ·rintro ⟨k,hk',hm⟩
    exact ⟨_,List.mem_map.mpr ⟨k,hk',rfl⟩,by rw [hk k hk'];exact hm⟩
  rw [if_neg c5,if_neg c5,e1 (by have:=hV.kd n hn;omega)]
theorem up_none (x : Nd) : up 0 x = x:=by
 have : x.f3.map (· + ((0 : Nat) : Int)) = x.f3:=by
  rw [show (fun q : Int=>q + ((0 : Nat) : Int)) = id by funext q;simp];simp
 unfold up
 rw [this]
theorem meets_left (hV : Valid a) (hV' : Valid (a ++ b)) (s : ByteArray) (hn : n < a.length) : meets (a ++ b) s n = meets a s n :=
 meets_emb hV hV' s 0 (fun n hn=>⟨by rw [List.length_append];omega,by rw [Nat.add_zero,up_none];exact nodeAt_left hn⟩) n hn
theorem Fits.left (h : Fits (a ++ b)) : Fits a:=⟨fun n hn=>by have:=h.kids n (by rw [List.length_append];omega);rw [nodeAt_left hn] at this;exact this,fun n hn=>by have:=h.set n (by rw [List.length_append];omega);rw [nodeAt_left hn] at this;exact this⟩
end
end Go.Proofs.YtlakdfbfkbndiaaDoor.Q
set_option linter.unusedVariables false
namespace Go.Proofs.YtlakdfbfkbndiaaDoor.Ev.Pr
open Go Go.RowKit Go.Proofs.YtlakdfbfkbndiaaDoorW.PrintWords Go.Proofs.YtlakdfbfkbndiaaDoorW.PrintMore Kd Go.Proofs.YtlakdfbfkbndiaaDoor.Ev Go.Proofs.YtlakdfbfkbndiaaDoor.Re
section
variable {ρ : Type}
theorem elI_mem {k : IntKind} {c : List Int} {i : Int} (h0 : 0 ≤ i) (h1 : i < (c.length : Int)) : elI k c i ∈ c:=by
 show c.getD i.toNat _ ∈ c
 rw [List.getD_eq_getElem?_getD,List.getElem?_eq_getElem (show i.toNat < c.length by omega)]
 exact List.getElem_mem _
theorem at_tot {c : List Int} (hc : c.length ≤ 9223372036854775807) (hw : ∀ n,n ∈ c → 0 ≤ n ∧ n < 256) {i : Int} (hi : 0 ≤ i) : Tot (fun k κ=>(tb (ρ:=ρ) k).laws_at c i (fun a=>κ a)) fun r=>0 ≤ r ∧ r < 256:=by
 refine Tot.step (g:=fun k κ=>B_laws_at (tb k) c i (fun a=>κ a)) (fun _ _=>rfl) ?_
 unfold B_laws_at
 refine Tot.bif (fun _=>Tot.ret _ (fun _ _=>rfl) (by decide)) (fun h=>?_)
 have h0 : (c.length : Int) ≠ 0:=by simpa using h
 have h1:=Int.tmod_lt_of_pos i (show (0 : Int) < c.length by omega)
 have h2:=Int.tmod_nonneg (c.length : Int) hi
 refine Tot.iteF h0 (Tot.iteT h2 (Tot.iteT h1 ?_))
 have h3:=hw _ (elI_mem (k:=.u8) h2 h1)
 exact Tot.ret _ (fun _ _=>rfl) (by rw [w_in (by omega)];exact h3)
def trues (xs : List Bool) (n : Nat) : List Nat:=(List.range n).filter fun j=>xs.getD j false
theorem trues_yes {xs : List Bool} {n : Nat} (h : xs.getD n false = true) : trues xs (n + 1) = trues xs n ++ [n]:=by
 unfold trues
 rw [List.range_succ,List.filter_append,List.filter_cons,h]
 rfl
theorem trues_no {xs : List Bool} {n : Nat} (h : xs.getD n false = false) : trues xs (n + 1) = trues xs n:=by
 unfold trues
 rw [List.range_succ,List.filter_append,List.filter_cons,h]
 simp
theorem trues_len (xs : List Bool) (n : Nat) : (trues xs n).length ≤ n:=by
 unfold trues
 exact Nat.le_trans (List.length_filter_le _ _) (by simp)
theorem list_s3_tot {xs : List Bool} (hx : xs.length ≤ 1000) : ∀ (n i : Nat),n + i = xs.length → Tot (fun k κ=>(tb (ρ:=ρ) k).laws_list_s3 xs (i : Int) (Q.nats (trues xs i)) (fun a=>κ a)) fun r=>r = Q.nats (trues xs xs.length)
 | n,i,hi=>by
  refine Tot.step (g:=fun k κ=>B_laws_list_s3 (tb k) xs (i : Int) (Q.nats (trues xs i)) (fun a=>κ a)) (fun _ _=>rfl) ?_
  unfold B_laws_list_s3
  refine Tot.bif (fun h=>?_) (fun h=>?_)
  ·have h:=of_decide_eq_true h
   refine Tot.iteT (by omega) (Tot.iteT h ?_)
   have hw : w ((i : Int) + 1) = ((i + 1 : Nat) : Int):=by rw [w_in (by omega)];omega
   cases n with
   | zero=>omega
   | succ n =>
    have hl:=trues_len xs i
    refine Tot.bif (fun hb=>?_) (fun hb=>?_)
    ·have hb : xs.getD (i : Int).toNat _ = true:=hb
     rw [Int.toNat_natCast] at hb
     refine Tot.iteT (by rw [Q.nats_len];omega) ?_
     rw [hw,← Q.nats_snoc,← trues_yes hb]
     exact list_s3_tot hx n (i + 1) (by omega)
    ·have hb : xs.getD (i : Int).toNat _ = false:=hb
     rw [Int.toNat_natCast] at hb
     rw [hw,← trues_no hb]
     exact list_s3_tot hx n (i + 1) (by omega)
  ·have h:=of_decide_eq_false h
   obtain rfl : i = xs.length:=by omega
   exact Tot.ret _ (fun _ _=>rfl) rfl
theorem list_tot {xs : List Bool} (hx : xs.length ≤ 1000) : Tot (fun k κ=>(tb (ρ:=ρ) k).laws_list xs (fun a=>κ a)) fun r=>r = Q.nats (trues xs xs.length):=by
 refine Tot.step (g:=fun k κ=>B_laws_list (tb k) xs (fun a=>κ a)) (fun _ _=>rfl) ?_
 unfold B_laws_list
 exact list_s3_tot hx xs.length 0 (by omega)
theorem same_s4_tot {a : List Int} (ha : a.length ≤ 1000) : ∀ (n i : Nat),n + i = a.length → Tot (fun k κ=>(tb (ρ:=ρ) k).laws_sameInts_s4 a a (i : Int) (fun a=>κ a)) fun r=>r = true
 | n,i,hi=>by
  refine Tot.step (g:=fun k κ=>B_laws_sameInts_s4 (tb k) a a (i : Int) (fun a=>κ a)) (fun _ _=>rfl) ?_
  unfold B_laws_sameInts_s4
  refine Tot.bif (fun h=>?_) (fun h=>Tot.ret _ (fun _ _=>rfl) rfl)
  have h:=of_decide_eq_true h
  refine Tot.iteT (by omega) (Tot.iteT h (Tot.iteT (by omega) (Tot.iteT h (Tot.bif (fun h=>by simp at h) (fun _=>?_)))))
  cases n with
  | zero=>omega
  | succ n =>
   rw [show w ((i : Int) + 1) = ((i + 1 : Nat) : Int) by rw [w_in (by omega)];omega]
   exact same_s4_tot ha n (i + 1) (by omega)
theorem same_tot {a b : List Int} (ha : a.length ≤ 1000) (h : a = b) : Tot (fun k κ=>(tb (ρ:=ρ) k).laws_sameInts a b (fun a=>κ a)) fun r=>r = true:=by
 subst h
 refine Tot.step (g:=fun k κ=>B_laws_sameInts (tb k) a a (fun a=>κ a)) (fun _ _=>rfl) ?_
 unfold B_laws_sameInts
 exact Tot.bif (fun h=>by simp at h) fun _=>same_s4_tot ha a.length 0 (by omega)
def upR (c : Int) (x : ReN) : ReN:=(x.1,x.2.1,x.2.2.1,x.2.2.2.map (· + c))
theorem upR_none (x : ReN) : upR 0 x = x:=by
 have : x.2.2.2.map (· + (0 : Int)) = x.2.2.2:=by
  rw [show (fun q : Int=>q + 0) = id by funext q;simp];simp
 unfold upR
 rw [this]
theorem elt_at {l : List ReN} {i : Nat} (h : i < l.length) : elt49 l (i : Int) = l[i]:=by
 show l.getD (i : Int).toNat _ = _
 rw [Int.toNat_natCast,List.getD_eq_getElem?_getD,List.getElem?_eq_getElem h];rfl
theorem elI_at {k : IntKind} {l : List Int} {i : Nat} (h : i < l.length) : elI k l (i : Int) = l[i]:=by
 show l.getD (i : Int).toNat _ = _
 rw [Int.toNat_natCast,List.getD_eq_getElem?_getD,List.getElem?_eq_getElem h];rfl
theorem take_up {α β : Type} (f : α → β) {l : List α} {i : Nat} (h : i < l.length) : (l.take i).map f ++ [f l[i]] = (l.take (i + 1)).map f:=by
 rw [List.take_add_one,List.map_append,List.getElem?_eq_getElem h];rfl
theorem shift_s7_tot {l : List ReN} {c : Int} (hc : 0 ≤ c ∧ c ≤ 1000) {i : Nat} (hi : i < l.length) (hl : l.length ≤ 1000) (hk : ∀ q,q ∈ l[i].2.2.2 → 0 ≤ q ∧ q ≤ 1000) (hkl : l[i].2.2.2.length ≤ 1000) {Q : List ReN → Prop} (out : List ReN) (ho : out.length ≤ 1000)
  (next : Tot (fun k κ=>(tb (ρ:=ρ) k).laws_shift_s3 l c ((i + 1 : Nat) : Int) (out ++ [upR c l[i]]) (fun a=>κ a)) Q) : ∀ (n j : Nat),n + j = l[i].2.2.2.length →
  Tot (fun k κ=>(tb (ρ:=ρ) k).laws_shift_s7 l c (i : Int) (j : Int) out l[i].1 l[i].2.1 l[i].2.2.1 ((l[i].2.2.2.take j).map (· + c)) (fun a=>κ a)) Q
 | n,j,hj=>by
  refine Tot.step (g:=fun k κ=>B_laws_shift_s7 (tb k) l c (i : Int) (j : Int) out l[i].1 l[i].2.1 l[i].2.2.1 ((l[i].2.2.2.take j).map (· + c)) (fun a=>κ a)) (fun _ _=>rfl) ?_
  unfold B_laws_shift_s7
  have hi0 : (0 : Int) ≤ (i : Int):=by omega
  have hi1 : (i : Int) < (l.length : Int):=by omega
  refine Tot.iteT hi0 (Tot.iteT hi1 ?_)
  rw [elt_at hi]
  refine Tot.bif (fun h=>?_) (fun h=>?_)
  ·have h:=of_decide_eq_true h
   have hjl : j < l[i].2.2.2.length:=by omega
   refine Tot.iteT hi0 (Tot.iteT hi1 (Tot.iteT (by omega) (Tot.iteT h (Tot.iteT ?_ ?_))))
   ·rw [List.length_map,List.length_take];omega
   ·have h5:=hk _ (List.getElem_mem hjl)
    rw [elI_at hjl,show w (l[i].2.2.2[j] + c) = l[i].2.2.2[j] + c by rw [w_in (by omega)],show w ((j : Int) + 1) = ((j + 1 : Nat) : Int) by rw [w_in (by omega)];omega,take_up (· + c) hjl]
    cases n with
    | zero=>omega
    | succ n=>exact shift_s7_tot hc hi hl hk hkl out ho next n (j + 1) (by omega)
  ·have h:=of_decide_eq_false h
   have hjl : l[i].2.2.2.length ≤ j:=by omega
   refine Tot.iteT (by omega) ?_
   rw [show w ((i : Int) + 1) = ((i + 1 : Nat) : Int) by rw [w_in (by omega)];omega,List.take_of_length_le hjl]
   exact next
theorem shift_s3_tot {l : List ReN} {c : Int} (hc : 0 ≤ c ∧ c ≤ 1000) (hl : l.length ≤ 1000) (hk : ∀ x,x ∈ l → ∀ q,q ∈ x.2.2.2 → 0 ≤ q ∧ q ≤ 1000) (hs : Sm l) : ∀ (n i : Nat),n + i = l.length →
  Tot (fun k κ=>(tb (ρ:=ρ) k).laws_shift_s3 l c (i : Int) ((l.take i).map (upR c)) (fun a=>κ a)) fun r=>r = l.map (upR c)
 | n,i,hi=>by
  refine Tot.step (g:=fun k κ=>B_laws_shift_s3 (tb k) l c (i : Int) ((l.take i).map (upR c)) (fun a=>κ a)) (fun _ _=>rfl) ?_
  unfold B_laws_shift_s3
  refine Tot.bif (fun h=>?_) (fun h=>?_)
  ·have h:=of_decide_eq_true h
   have hil : i < l.length:=by omega
   have h0 : (0 : Int) ≤ (i : Int):=by omega
   refine Tot.iteT h0 (Tot.iteT h (Tot.iteT h0 (Tot.iteT h (Tot.iteT h0 (Tot.iteT h ?_)))))
   rw [elt_at hil]
   cases n with
   | zero=>omega
   | succ n =>
    refine shift_s7_tot hc hil hl (hk _ (List.getElem_mem hil)) (hs _ (List.getElem_mem hil)).2 _ (by rw [List.length_map,List.length_take];omega) ?_ l[i].2.2.2.length 0 (by omega)
    rw [take_up (upR c) hil]
    exact shift_s3_tot hc hl hk hs n (i + 1) (by omega)
  ·have h:=of_decide_eq_false h
   exact Tot.ret _ (fun _ _=>rfl) (by rw [List.take_of_length_le (by omega)])
theorem shift_tot {l : List ReN} {c : Int} (hc : 0 ≤ c ∧ c ≤ 1000) (hl : l.length ≤ 1000) (hk : ∀ x,x ∈ l → ∀ q,q ∈ x.2.2.2 → 0 ≤ q ∧ q ≤ 1000) (hs : Sm l) : Tot (fun k κ=>(tb (ρ:=ρ) k).laws_shift l c (fun a=>κ a)) fun r=>r = l.map (upR c):=by
 refine Tot.step (g:=fun k κ=>B_laws_shift (tb k) l c (fun a=>κ a)) (fun _ _=>rfl) ?_
 unfold B_laws_shift
 exact shift_s3_tot hc hl hk hs l.length 0 (by omega)
structure Mk (xs : List Bool) (P : Nat → Prop) (n : Nat) : Prop where
 len : xs.length = n
 iff : ∀ j,j < n → (xs.getD j false = true ↔ P j)
theorem Mk.none (n : Nat) : Mk (List.replicate n false) (fun _=>False) n:=⟨by simp,fun j hj=>by simp [List.getD_eq_getElem?_getD,hj]⟩
theorem Mk.set {xs : List Bool} {P : Nat → Prop} {n j : Nat} (h : Mk xs P n) (hj : j < n) : Mk (xs.set j true) (fun q=>P q ∨ q = j) n:=⟨by rw [List.length_set];exact h.len,fun q hq=>by
 have:=h.iff q hq
 have hl:=h.len
 rw [List.getD_eq_getElem?_getD] at this ⊢
 by_cases c : j = q
 ·subst c
  simp [List.getElem?_set,hl,hj]
 ·rw [List.getElem?_set_ne c,this]
  exact ⟨.inl,fun h=>h.resolve_right fun e=>c e.symm⟩⟩
theorem Mk.imp {xs : List Bool} {P R : Nat → Prop} {n : Nat} (h : Mk xs P n) (hi : ∀ j,j < n → (P j ↔ R j)) : Mk xs R n:=⟨h.len,fun j hj=>(h.iff j hj).trans (hi j hj)⟩
theorem Mk.trues {xs : List Bool} {P : Nat → Prop} {n : Nat} (h : Mk xs P n) : trues xs xs.length = Re.upto P n:=by
 unfold Pr.trues Re.upto
 rw [h.len]
 refine List.filter_congr fun j hj=>?_
 letI:=Classical.propDecidable (P j)
 have:=h.iff j (List.mem_range.mp hj)
 by_cases c : P j
 ·exact (this.mpr c).trans (decide_eq_true c).symm
 ·exact (Bool.eq_false_iff.mpr fun e=>c (this.mp e)).trans (decide_eq_false c).symm
theorem put_in {xs : List Bool} {P : Nat → Prop} {n j : Nat} (h : Mk xs P n) (hj : j < n) : X_laws_put xs (j : Int) = (xs.set j true,true):=by
 unfold X_laws_put
 rw [if_pos ⟨by omega,by rw [h.len];omega⟩,Int.toNat_natCast]
end
end Go.Proofs.YtlakdfbfkbndiaaDoor.Ev.Pr
set_option linter.unusedVariables false
namespace Go.Proofs.YtlakdfbfkbndiaaDoor.Q
open Go.RowKit Go.Proofs.YtlakdfbfkbndiaaDoor.Re Go.Proofs.YtlakdfbfkbndiaaDoorW.PrintWords Go.Proofs.YtlakdfbfkbndiaaDoorW.PrintMore
section
variable {A : List Nd} {x : Nd} {s : ByteArray}
theorem ok_over (hA : okB A = true) (hx : nodeB x = true) (hk : x.f3 = [((A.length - 1 : Nat) : Int)]) (hl : A.length < 200) : okB (A ++ [x]) = true:=by
 refine okB_forest ?_ (by simp) (by simp;omega)
 have:=forest_top (forest_ok hA) hx hk
 simpa using this
theorem meets_over (hF : Fits (A ++ [x])) (hA : okB A = true) (hx : nodeB x = true) (hk : x.f3 = [((A.length - 1 : Nat) : Int)]) (hl : A.length < 200) :
  (x.f0 = 5 → meets (A ++ [x]) s A.length = Star (meets A s (A.length - 1))) ∧ (x.f0 = 6 → meets (A ++ [x]) s A.length = Plus (meets A s (A.length - 1))) ∧ (x.f0 = 7 → meets (A ++ [x]) s A.length = fun i j=>i = j ∨ meets A s (A.length - 1) i j):=by
 have hV:=okB_valid hF.left hA
 have hV':=okB_valid hF (ok_over hA hx hk hl)
 have h1:=hV.pos
 have hm:=meets_eq hV' s A.length (by simp)
 rw [nodeAt_top,hk] at hm
 have e : meets (A ++ [x]) s ((([((A.length - 1 : Nat) : Int)] : List Int).headD 0)).toNat = meets A s (A.length - 1):=by
  show meets (A ++ [x]) s (((A.length - 1 : Nat) : Int)).toNat = _
  rw [Int.toNat_natCast]
  exact meets_left hV hV' s (by omega)
 rw [e] at hm
 refine ⟨fun h=>?_,fun h=>?_,fun h=>?_⟩
 all_goals
  rw [hm,h]
  simp
theorem ends_over (A : List Nd) (x : Nd) (s : ByteArray) (i : Nat) : endsL (A ++ [x]) s i = upto (meets (A ++ [x]) s A.length i) (s.size + 1):=by
 unfold endsL
 rw [show (A ++ [x]).length - 1 = A.length by simp]
end
end Go.Proofs.YtlakdfbfkbndiaaDoor.Q
set_option linter.unusedVariables false
namespace Go.Proofs.YtlakdfbfkbndiaaDoor.Q
open Go.RowKit Go.Proofs.YtlakdfbfkbndiaaDoor.Re Go.Proofs.YtlakdfbfkbndiaaDoorW.PrintWords Go.Proofs.YtlakdfbfkbndiaaDoorW.PrintMore
theorem plus_iff {R : Rel} {i j : Nat} : (∃ m,R i m ∧ Star R m j) ↔ Plus R i j:=by
 constructor
 ·rintro ⟨m,h,hs⟩
  induction hs with
  | refl=>exact ⟨i,.refl i,h⟩
  | tail _ hr ih =>
   obtain ⟨p,h1,h2⟩:=ih
   exact ⟨_,.tail h1 h2,hr⟩
 ·rintro ⟨m,hs,h⟩
  induction hs generalizing j with
  | refl=>exact ⟨j,h,.refl j⟩
  | tail _ hr ih =>
   obtain ⟨p,h1,h2⟩:=ih hr
   exact ⟨p,h1,.tail h2 h⟩
theorem star_iff {R : Rel} {i j : Nat} : Star R i j ↔ Plus R i j ∨ j = i:=by
 constructor
 ·intro h
  cases h with
  | refl=>exact .inr rfl
  | tail h1 h2=>exact .inl ⟨_,h1,h2⟩
 ·rintro (⟨m,h1,h2⟩|rfl)
  ·exact .tail h1 h2
  ·exact .refl _
end Go.Proofs.YtlakdfbfkbndiaaDoor.Q
set_option linter.unusedVariables false
namespace Go.Proofs.YtlakdfbfkbndiaaDoor.Ev.Pr
open Go Go.RowKit Go.Proofs.YtlakdfbfkbndiaaDoorW.PrintWords Go.Proofs.YtlakdfbfkbndiaaDoorW.PrintMore Kd Go.Proofs.YtlakdfbfkbndiaaDoor.Ev Go.Proofs.YtlakdfbfkbndiaaDoor.Re
section
variable {ρ : Type}
theorem nats_at {L : List Nat} {i : Nat} (h : i < L.length) : elI .i64 (Q.nats L) (i : Int) = (L[i] : Int):=by
 rw [elI_at (by rw [Q.nats_len];exact h)]
 unfold Q.nats
 rw [List.getElem_map]
theorem endsA_in {l : List ReN} {s : ByteArray} (hok : Q.okB (l.map toS) = true) (hs : s.size ≤ 500) {i : Nat} (hi : i ≤ s.size) : Q.endsA (l.map toS) s (i : Int) = Q.nats (Q.endsL (l.map toS) s i):=by
 unfold Q.endsA
 rw [if_pos ⟨hok,hs,by omega,by omega⟩,Int.toNat_natCast]
structure End (s : ByteArray) (f : Nat) (T U V : List ReN) (R : Rel) : Prop where
 sT : Sm T
 sU : Sm U
 sV : Sm V
 star : ∀ i,i ≤ s.size → Q.endsA (T.map toS) s (i : Int) = Q.nats (Re.upto (Star R i) (s.size + 1))
 plus : ∀ i,i ≤ s.size → Q.endsA (U.map toS) s (i : Int) = Q.nats (Re.upto (Plus R i) (s.size + 1))
 opt : ∀ i,i ≤ s.size → Q.endsA (V.map toS) s (i : Int) = Q.nats (Re.upto (fun j=>i = j ∨ R i j) (s.size + 1))
 fwd : Q.Fwd R s.size
theorem s18_tot {s : ByteArray} {f : Nat} {T U V : List ReN} {is0 : Nat → Prop} {once : List Bool} {X : List Int} {Z : List Nat} {i N : Nat} (hN : N ≤ 1000) (hZ : ∀ z,z ∈ Z → z < N) (hZl : Z.length ≤ 1000) (hi : i ≤ 1000)
  (next : ∀ is,Mk is (fun j=>is0 j ∨ j ∈ Z) N → Tot (fun k κ=>(tb (ρ:=ρ) k).laws_FnStars_s12 s (f : Int) ((i + 1 : Nat) : Int) T U V is once X (fun a=>κ a)) fun r=>r = true) : ∀ (n j : Nat) (is : List Bool),n + j = Z.length → Mk is (fun q=>is0 q ∨ q ∈ Z.take j) N →
  Tot (fun k κ=>(tb (ρ:=ρ) k).laws_FnStars_s18 s (f : Int) (i : Int) (j : Int) T U V is once X (Q.nats Z) (fun a=>κ a)) fun r=>r = true
 | n,j,is,hj,hM=>by
  refine Tot.step (g:=fun k κ=>B_laws_FnStars_s18 (tb k) s (f : Int) (i : Int) (j : Int) T U V is once X (Q.nats Z) (fun a=>κ a)) (fun _ _=>rfl) ?_
  unfold B_laws_FnStars_s18
  refine Tot.bif (fun h=>?_) (fun h=>?_)
  ·have h:=of_decide_eq_true h
   have hl : j < Z.length:=by rw [Q.nats_len] at h;omega
   have hz:=hZ _ (List.getElem_mem hl)
   refine Tot.iteT (by omega) (Tot.iteT h ?_)
   rw [nats_at hl,put_in hM hz]
   dsimp only [callW2]
   refine Tot.bif (fun h=>absurd h (by decide)) (fun _=>?_)
   rw [show w ((j : Int) + 1) = ((j + 1 : Nat) : Int) by rw [w_in (by omega)];omega]
   cases n with
   | zero=>omega
   | succ n =>
    refine s18_tot hN hZ hZl hi next n (j + 1) _ (by omega) ((hM.set hz).imp fun q _=>?_)
    rw [List.take_add_one,List.getElem?_eq_getElem hl,List.mem_append]
    simp [or_assoc]
  ·have h:=of_decide_eq_false h
   rw [Q.nats_len] at h
   rw [List.take_of_length_le (by omega)] at hM
   rw [show w ((i : Int) + 1) = ((i + 1 : Nat) : Int) by rw [w_in (by omega)];omega]
   exact next is hM
theorem s12_tot {s : ByteArray} {f : Nat} {T U V : List ReN} {R : Rel} (hE : End s f T U V R) (hs : s.size ≤ 60) (hf : f ≤ s.size) : ∀ (n i : Nat) (is once : List Bool),n + i = (Re.upto (R f) (s.size + 1)).length →
  Mk is (fun j=>∃ m,m ∈ (Re.upto (R f) (s.size + 1)).take i ∧ Star R m j) (s.size + 1) → Mk once (fun j=>j ∈ (Re.upto (R f) (s.size + 1)).take i) (s.size + 1) →
  Tot (fun k κ=>(tb (ρ:=ρ) k).laws_FnStars_s12 s (f : Int) (i : Int) T U V is once (Q.nats (Re.upto (R f) (s.size + 1))) (fun a=>κ a)) fun r=>r = true
 | n,i,is,once,hi,hM,hO=>by
  refine Tot.step (g:=fun k κ=>B_laws_FnStars_s12 (tb k) s (f : Int) (i : Int) T U V is once (Q.nats (Re.upto (R f) (s.size + 1))) (fun a=>κ a)) (fun _ _=>rfl) ?_
  unfold B_laws_FnStars_s12
  have hll:=Re.upto_len (R f) (s.size + 1)
  refine Tot.bif (fun h=>?_) (fun h=>?_)
  ·have h:=of_decide_eq_true h
   have hl : i < (Re.upto (R f) (s.size + 1)).length:=by rw [Q.nats_len] at h;omega
   have hm:=(Re.mem_upto.mp (List.getElem_mem hl)).1
   refine Tot.iteT (by omega) (Tot.iteT h ?_)
   rw [nats_at hl,put_in hO hm]
   dsimp only [callW2]
   refine Tot.bif (fun h=>absurd h (by decide)) (fun _=>Tot.iteT (by omega) (Tot.iteT h ?_))
   refine Tot.bind1 (ends_tot hE.sT s _) fun v hv=>?_
   have hv : v = _:=hv
   rw [hE.star _ (by omega)] at hv
   subst hv
   have hZl:=Re.upto_len (Star R ((Re.upto (R f) (s.size + 1))[i])) (s.size + 1)
   cases n with
   | zero=>omega
   | succ n =>
    have htake : ∀ q,q ∈ (Re.upto (R f) (s.size + 1)).take (i + 1) ↔ q ∈ (Re.upto (R f) (s.size + 1)).take i ∨ q = (Re.upto (R f) (s.size + 1))[i]:=fun q=>by
     rw [List.take_add_one,List.getElem?_eq_getElem hl,List.mem_append]
     simp
    refine s18_tot (N:=s.size + 1) (is0:=fun j=>∃ m,m ∈ (Re.upto (R f) (s.size + 1)).take i ∧ Star R m j) (by omega) (fun z hz=>(Re.mem_upto.mp hz).1) (by omega) (by omega) (fun is hM'=>?_) _ 0 is (Nat.add_zero _) (hM.imp fun q _=>by simp)
    refine s12_tot hE hs hf n (i + 1) is _ (by omega) (hM'.imp fun q hq=>?_) ((hO.set hm).imp fun q _=>(htake q).symm)
    rw [Re.mem_upto]
    constructor
    ·rintro (⟨m,h1,h2⟩|⟨h1,h2⟩)
     ·exact ⟨m,(htake m).mpr (.inl h1),h2⟩
     ·exact ⟨_,(htake _).mpr (.inr rfl),h2⟩
    ·rintro ⟨m,h1,h2⟩
     rcases (htake m).mp h1 with h1|rfl
     ·exact .inl ⟨m,h1,h2⟩
     ·exact .inr ⟨hq,h2⟩
  ·have h:=of_decide_eq_false h
   rw [Q.nats_len] at h
   rw [List.take_of_length_le (by omega)] at hM hO
   have hM : Mk is (Plus R f) (s.size + 1):=hM.imp fun j hj=>by
    rw [← Q.plus_iff]
    constructor
    ·rintro ⟨m,h1,h2⟩
     exact ⟨m,(Re.mem_upto.mp h1).2,h2⟩
    ·rintro ⟨m,h1,h2⟩
     exact ⟨m,Re.mem_upto.mpr ⟨by have:=hE.fwd f m hf h1;omega,h1⟩,h2⟩
   have hO : Mk once (R f) (s.size + 1):=hO.imp fun j hj=>by rw [Re.mem_upto];exact ⟨fun h=>h.2,fun h=>⟨hj,h⟩⟩
   have hlM:=hM.len
   have hlO:=hO.len
   refine Tot.bind1 (ends_tot hE.sU s _) fun v hv=>?_
   have hv : v = _:=hv
   rw [hE.plus _ hf] at hv
   refine Tot.bind1 (list_tot (by omega)) fun v2 hv2=>?_
   have hv2 : v2 = _:=hv2
   rw [hM.trues] at hv2
   refine Tot.bind1 (same_tot (by rw [hv,Q.nats_len];have:=Re.upto_len (Plus R f) (s.size + 1);omega) (hv.trans hv2.symm)) fun b hb=>?_
   have hb : b = true:=hb
   subst hb
   refine Tot.bif (fun h=>absurd h (by decide)) (fun _=>?_)
   refine Tot.iteT (by omega) (Tot.iteT (by omega) (Tot.iteT (by omega) (Tot.iteT (by omega) ?_)))
   rw [Int.toNat_natCast]
   refine Tot.bind1 (ends_tot hE.sT s _) fun v hv=>?_
   have hv : v = _:=hv
   rw [hE.star _ hf] at hv
   have hM2 : Mk (is.set f true) (Star R f) (s.size + 1):=(hM.set (by omega)).imp fun j _=>Q.star_iff.symm
   refine Tot.bind1 (list_tot (by rw [List.length_set];omega)) fun v2 hv2=>?_
   have hv2 : v2 = _:=hv2
   rw [hM2.trues] at hv2
   refine Tot.bind1 (same_tot (by rw [hv,Q.nats_len];have:=Re.upto_len (Star R f) (s.size + 1);omega) (hv.trans hv2.symm)) fun b hb=>?_
   have hb : b = true:=hb
   subst hb
   refine Tot.bif (fun _=>?_) (fun h=>absurd h (by decide))
   refine Tot.bind1 (ends_tot hE.sV s _) fun v hv=>?_
   have hv : v = _:=hv
   rw [hE.opt _ hf] at hv
   have hO2 : Mk (once.set f true) (fun j=>f = j ∨ R f j) (s.size + 1):=(hO.set (by omega)).imp fun j _=>by
    constructor
    ·rintro (h|h)
     ·exact .inr h
     ·exact .inl h.symm
    ·rintro (h|h)
     ·exact .inr h.symm
     ·exact .inl h
   refine Tot.bind1 (list_tot (by rw [List.length_set];omega)) fun v2 hv2=>?_
   have hv2 : v2 = _:=hv2
   rw [hO2.trues] at hv2
   refine Tot.bind1 (same_tot (by rw [hv,Q.nats_len];have:=Re.upto_len (fun j=>f = j ∨ R f j) (s.size + 1);omega) (hv.trans hv2.symm)) fun b hb=>?_
   have hb : b = true:=hb
   subst hb
   exact Tot.bif (fun _=>shapes_tot) (fun h=>absurd h (by decide))
theorem node_sm {t : Int} {q : Int} : SmN (t,false,bs [],[q]):=⟨(by decide : (bs []).size ≤ 1000),(by decide : 1 ≤ 1000)⟩
theorem FnStars_tot {c : List Int} (hc : c.length ≤ 9223372036854775807) (hw : ∀ n,n ∈ c → 0 ≤ n ∧ n < 256) : Tot (fun k κ=>(tb (ρ:=ρ) k).laws_FnStars c (fun a=>κ a)) fun r=>r = true:=by
 refine Tot.step (g:=fun k κ=>B_laws_FnStars (tb k) c (fun a=>κ a)) (fun _ _=>rfl) ?_
 unfold B_laws_FnStars
 refine Tot.bind2 (DrawReFind_tot hc) fun l s h=>?_
 obtain ⟨⟨hl,hsm⟩,hs⟩:=h
 dsimp only at hl hsm hs
 refine Tot.bind1 (ok_tot hsm) fun o ho=>?_
 have ho : o = _:=ho
 refine Tot.bif (fun _=>shapes_tot) (fun hb=>?_)
 have hk : Q.okB (l.map toS) = true:=by rw [← ho];simpa using hb
 refine Tot.bif (fun _=>shapes_tot) (fun hb=>?_)
 have hl2:=of_decide_eq_false hb
 have hl2 : l.length < 200:=by omega
 refine Tot.bif (fun _=>shapes_tot) (fun hb=>?_)
 have hs60:=of_decide_eq_false hb
 have hs60 : s.size ≤ 60:=by omega
 have hV:=Q.okB_valid (fits_of hsm) hk
 have hpos:=hV.pos
 rw [List.length_map] at hpos
 have hkid : ∀ x,x ∈ l → ∀ q,q ∈ x.2.2.2 → 0 ≤ q ∧ q ≤ 1000:=fun x hx q hq=>by
  obtain ⟨n,hn,rfl⟩:=List.mem_iff_getElem.mp hx
  have:=hV.kid n (by rw [List.length_map];exact hn) q (by rw [node_toS l n hn];exact hq)
  omega
 have hsh : Tot (fun k κ=>(tb (ρ:=ρ) k).laws_shift l 0 (fun a=>κ a)) fun r=>r = l:=(shift_tot (c:=0) ⟨by decide,by decide⟩ (by omega) hkid hsm).imp fun r hr=>by
  have : l.map (upR 0) = l:=by rw [show upR 0 = id from funext upR_none];simp
  rw [hr,this]
 refine Tot.bind1 hsh fun v1 h1=>?_
 have h1 : v1 = l:=h1
 subst h1
 refine Tot.iteT (by omega) (Tot.bind1 hsh fun v2 h2=>?_)
 have h2 : v2 = v1:=h2
 subst h2
 refine Tot.iteT (by omega) (Tot.bind1 hsh fun v3 h3=>?_)
 have h3 : v3 = v2:=h3
 subst h3
 refine Tot.iteT (by omega) (Tot.bind1 (at_tot hc hw (by decide)) fun a ha=>?_)
 have ha : 0 ≤ a ∧ a < 256:=ha
 have hw1 : w ((s.size : Int) + 1) = ((s.size + 1 : Nat) : Int):=by rw [w_in (by omega)];omega
 have hw2 : w ((v3.length : Int) - 1) = ((v3.length - 1 : Nat) : Int):=by rw [w_in (by omega)];omega
 rw [hw1,hw2]
 have hf1:=Int.tmod_lt_of_pos a (show (0 : Int) < ((s.size + 1 : Nat) : Int) by omega)
 have hf2:=Int.tmod_nonneg ((s.size + 1 : Nat) : Int) ha.1
 obtain ⟨f,hf⟩:=Int.eq_ofNat_of_zero_le hf2
 rw [hf] at hf1 ⊢
 refine Tot.iteF (by omega) (Tot.iteT (by omega) (Tot.iteT (by omega) (Tot.iteT (by omega) (Tot.iteT (by omega) (Tot.iteT (by omega) (Tot.iteT (by omega) ?_))))))
 refine Tot.bind1 (ends_tot hsm s _) fun v hv=>?_
 have hv : v = _:=hv
 rw [endsA_in hk (by omega) (by omega)] at hv
 have e7 : ∀ t : Int,(v3 ++ [(t,false,bs [],[((v3.length - 1 : Nat) : Int)])]).map toS = v3.map toS ++ [⟨t,false,bs [],[(((v3.map toS).length - 1 : Nat) : Int)]⟩]:=fun t=>by
  rw [List.map_append,List.length_map]
  rfl
 have sm7 : ∀ t : Int,Sm (v3 ++ [(t,false,bs [],[((v3.length - 1 : Nat) : Int)])]):=fun t=>hsm.snoc node_sm
 have hlm : (v3.map toS).length < 200:=by rw [List.length_map];exact hl2
 have hE : End s f (v3 ++ [(5,false,bs [],[((v3.length - 1 : Nat) : Int)])]) (v3 ++ [(6,false,bs [],[((v3.length - 1 : Nat) : Int)])]) (v3 ++ [(7,false,bs [],[((v3.length - 1 : Nat) : Int)])]) (Q.meets (v3.map toS) s ((v3.map toS).length - 1)):=by
  refine ⟨sm7 5,sm7 6,sm7 7,fun i hi=>?_,fun i hi=>?_,fun i hi=>?_,Q.meets_fwd hV s _ (by rw [List.length_map];omega)⟩
  ·have hF:=fits_of (sm7 5)
   rw [endsA_in (by rw [e7];exact Q.ok_over hk rfl rfl hlm) (by omega) hi]
   rw [e7] at hF ⊢
   rw [Q.ends_over,(Q.meets_over (s:=s) hF hk rfl rfl hlm).1 rfl]
  ·have hF:=fits_of (sm7 6)
   rw [endsA_in (by rw [e7];exact Q.ok_over hk rfl rfl hlm) (by omega) hi]
   rw [e7] at hF ⊢
   rw [Q.ends_over,(Q.meets_over (s:=s) hF hk rfl rfl hlm).2.1 rfl]
  ·have hF:=fits_of (sm7 7)
   rw [endsA_in (by rw [e7];exact Q.ok_over hk rfl rfl hlm) (by omega) hi]
   rw [e7] at hF ⊢
   rw [Q.ends_over,(Q.meets_over (s:=s) hF hk rfl rfl hlm).2.2 rfl]
 subst hv
 exact s12_tot hE hs60 (by omega) _ 0 _ _ (Nat.add_zero _) ((Mk.none _).imp fun j _=>by simp) ((Mk.none _).imp fun j _=>by simp)
end
end Go.Proofs.YtlakdfbfkbndiaaDoor.Ev.Pr
set_option linter.unusedVariables false
namespace Go.Proofs.YtlakdfbfkbndiaaDoor.Q
open Go Go.RowKit Go.Proofs.YtlakdfbfkbndiaaDoor.Ev Go.Proofs.YtlakdfbfkbndiaaDoorW.PrintWords Go.Proofs.YtlakdfbfkbndiaaDoorW.PrintMore
theorem Tabs.one {w w1 : World} (h : Tabs w) (hb : w1.heap[0]? = w.heap[0]?) : Tabs w1:=by
 have hg : Tryd.prog.globalNamed "math/bits.deBruijn64tab" = some 0:=by kernel_rfl
 refine ⟨?_⟩
 have h1:=h.bruijn
 unfold Lib.TabIs at h1 ⊢
 unfold World.var? at h1 ⊢
 rw [hg] at h1 ⊢
 simp only [Option.bind_some] at h1 ⊢
 rw [hb]
 exact h1
noncomputable def laws_FnStars.f (k : Nat) (l0 : List Int) : Option Bool:=(Pr.tb k).laws_FnStars l0 (fun a=>some a)
theorem laws_FnStars.calls (k : Nat) (A0 : Option Addr) (c0 : Nat) (l0 : List Int) (r : Bool) (w : World) (hr0 : Kd.C (Kd.int .u8) w A0 l0.length l0) (hc0 : l0.length ≤ c0) (h : laws_FnStars.f k l0 = some r) (hT : Tabs w) :
  Calls Tryd.prog 9 #[.slice A0 l0.length c0] w fun e w'=>e = .returned (.bool r) ∧ Below w.heap.size w w':=by
 obtain ⟨obj,hobj⟩ : ∃ o,w.heap[0]? = some o:=by
  have:=hT.cell 0 (by decide)
  cases hh : w.heap[0]? with
  | some o=>exact ⟨o,rfl⟩
  | none=>simp [World.cell?,hh] at this
 letI : Bgs:=⟨[(0,obj)]⟩
 haveI : Pr.BgT:=⟨fun {E W} hB=>hT.one ((hB _ List.mem_cons_self).1.trans hobj.symm)⟩
 have hs:=(Pr.sound (ρ:=Bool) k).1 9 0 [⟨.sl 5 (.int .u8),l0⟩] outB r h
 exact law_calls hs (ps:=[.sl 5 (.int .u8)]) (args:=[.sl none 5 (.int .u8) l0]) (by kernel_rfl) (by simp [Pt.builds,Pt.build]) (vals:=[.slice A0 l0.length c0]) ⟨lent_row (t:=.int .u8) (e:=5) (Kd.heap_int .u8) hr0 hc0 0,trivial⟩ fun x hx=>by
  rw [List.mem_singleton.mp hx]
  exact ⟨hobj,.inl rfl⟩
end Go.Proofs.YtlakdfbfkbndiaaDoor.Q
set_option linter.unusedVariables false
namespace Go.Proofs.YtlakdfbfkbndiaaDoor.Pure
open Go Go.RowKit
theorem byte_of {n : Int} (h : (Lit.int IntKind.u8 n).wf = true) : 0 ≤ n ∧ n < 256:=by
 have h1 : IntKind.u8.min ≤ n ∧ n ≤ IntKind.u8.max:=by simpa [Lit.wf] using h
 have h2 : IntKind.u8.min = 0:=rfl
 have h3 : IntKind.u8.max = 255:=rfl
 omega
theorem FnStars (l0 : List Int) (hm : l0.length ≤ maxLen) (_ : l0.length * 1 ≤ 140737488351232) (hw : ∀ n ∈ l0,(Lit.int IntKind.u8 n).wf = true) : ∃ k,Q.laws_FnStars.f k l0 = some true:=by
 obtain ⟨K,a,ha,h⟩:=Ev.Pr.FnStars_tot (ρ:=Bool) (c:=l0) (Nat.le_trans hm (by decide)) (fun n hn=>byte_of (hw n hn))
 have ha : a = true:=ha
 subst ha
 exact ⟨K,h K (Nat.le_refl _) some⟩
end Go.Proofs.YtlakdfbfkbndiaaDoor.Pure
namespace Go.Proofs.YtlakdfbfkbndiaaDoor.fnStars
open Go.ChangeShapes Go.WideShapes Go.ChangeAt Go.RowKit
open Go.ChangeMaps (open_string shut_string)
open Go.Lib
open Go.Proofs.YtlakdfbfkbndiaaDoorW.PrintWords
set_option linter.unusedVariables false
theorem own : ownKnob Tryd.prog.godebug = none := by kernel_rfl
theorem laidOut : laidOutB Tryd.prog = true := by kernel_rfl
def IsRow (k : IntKind) (w : World) (a : Option Addr) (len cap : Nat) (zs : List Int) : Prop :=
  (a = none ∧ len = 0 ∧ cap = 0 ∧ zs = []) ∨
  ∃ x, a = some x ∧ len ≤ cap ∧ cap ≤ maxLen ∧ zs.length = cap ∧ (∀ i, i < zs.length → w.cell? (x.add i) = some (.int k (zs.getD i 0))) ∧ ∀ n ∈ zs, (Lit.int k n).wf = true
set_option maxRecDepth 100000 in
theorem lifted (os : Os) (started : os.Started) (H : Type) (enc : TypeId × Value → H) :
    ReturnsInHanded {} Tryd.checked os 9 .any (fun w args => (Rows.fnStarsSpec.pre enc Tryd.prog Tryd.f9 [] false w args ∧ laidMetH Tryd.prog Rows.fnStarsRow.laid w) ∧ sizedMet enc Tryd.prog Tryd.f9 (OpenSpec.ofChange Rows.fnStarsSpec) false w args)
      (Rows.fnStarsSpec.post enc Tryd.prog Tryd.f9 false true false false) := by
  refine returnsInHanded_of_change_and_shaped_ytlakdfbfkbndiaadoor (C := Tryd.checked) (X := fun w _ => laidMetH Tryd.prog Rows.fnStarsRow.laid w) (fun _ _ _ hh h => h.of_heap hh) own started (by kernel_rfl) Tryd.func9
    (ChangeSpec.witness_shaped (enc := enc) (C := Tryd.checked) (os := os) (X := fun w _ => laidMetH Tryd.prog Rows.fnStarsRow.laid w) false (World.laidAll Tryd.prog os Rows.fnStarsRow.laid) #[.slice none 0 0] 8 (World.laidAll_os _ _ _)
      (World.shaped_of_ZipB (by kernel_rfl) (by kernel_rfl)) (by kernel_rfl) (by kernel_rfl) (by kernel_rfl)
      (by rw [MakeChecks.laidMetH_plain _ _ _ (by kernel_rfl)]; exact laidMet_laidAll _ (by kernel_rfl) (by kernel_rfl))) ?_
  intro W base args ds gs before hval0 hW hcnd hsz0 hL hS _
  have hsz : (DataW.weightsEach Tryd.prog (Tryd.f9.params.toList ++ Rows.fnStarsSpec.plain.varTypes Tryd.prog) (ds ++ gs)).all (· ≤ reachBytes) = true := hsz0
  have hval : ∀ (j : Nat) t v, Tryd.f9.params[j]? = some t → args[j]? = some v → Value.okWide Tryd.prog W .any base t v := hval0
  have hW' := hW
  obtain ⟨p, q, hA0, hV, rfl, hfz, hnd⟩ := hW
  have hA : DataW.TrodAll enc Tryd.prog W 0 (fun _ => true) true Tryd.f9.params.toList args.toList ds p := hA0
  rw [Tryd.params9] at hA hval hsz
  obtain ⟨v0, vs0, d0, ds0, p0, q0, hargs, rfl, rfl, h0, r0⟩ := trodAll_cons hA
  obtain ⟨rfl, rfl, rfl⟩ := trodAll_nil r0
  obtain rfl : args = #[v0] := by cases args; simp_all
  obtain ⟨rfl, rfl⟩ := trodVars_none hV
  have k0 := h0
  have lt0 : ∀ x ∈ p0, x.block < W.heap.size := by obtain ⟨m, hm⟩ := k0; exact DataW.trod_lt m _ _ _ hm
  obtain ⟨a0, len0, cap0, rfl⟩ := okWide_slice Tryd.underlying41 (hval 0 41 v0 rfl rfl)
  obtain ⟨z0, w0⟩ : ∃ zs, IsRow .u8 W a0 len0 cap0 zs := by
    obtain ⟨fuel, hf⟩ := h0
    rcases open_ints Tryd.underlying41 Tryd.underlying5 (by kernel_rfl) hf with ⟨hcs, _⟩ | ⟨x, l, c, zs, hcs, _, hl, hm, hz, _, hcell, hwz⟩
    · simp [Value.cells] at hcs
      obtain ⟨rfl, rfl, rfl⟩ := hcs
      exact ⟨[], .inl ⟨rfl, rfl, rfl, rfl⟩⟩
    · simp [Value.cells] at hcs
      obtain ⟨rfl, rfl, rfl⟩ := hcs
      exact ⟨zs, .inr ⟨_, rfl, hl, hm, by simpa using hz, hcell, hwz⟩⟩
  have y0 : len0 * 1 ≤ 140737488351232 := Go.Proofs.YtlakdfbfkbndiaaDoorW.PrintWords.sized_ints hsz (j := 0) (t := 41) rfl rfl Tryd.underlying41 Tryd.underlying5 (by kernel_rfl) (by kernel_rfl) h0
  obtain ⟨l0, rfl, hr0, hm0, hw0, hc0⟩ := ReadsInt.ofRowC w0
  clear hA0 hval0 hsz0 hsz
  rw [MakeChecks.laidMetH_plain _ _ _ (by kernel_rfl)] at hL
  have hTabs : Q.Tabs W := Q.tabs_of_laid hL (.head _) hS
  obtain ⟨k, hk⟩ := Pure.FnStars l0 hm0 y0 hw0
  refine (Q.laws_FnStars.calls k _ _ l0 true W (Kd.C_of_reads (d := (0 : Int)) (h1 := fun _ => rfl) hr0) hc0 hk hTabs).mono fun e W' ⟨he, bel⟩ => ?_
  subst he
  exact ⟨_, rfl, _, _, _, [], _, [], hW', trodAll_mk1 (shut_bool Tryd.underlying4 _), (trodAll_cons_mk (Below.trod laidOut (by kernel_rfl) (of_decide_eq_true (by kernel_rfl)) k0 bel lt0) trodAll_mk0), rfl, bel.frame _, fun h => by cases h⟩
theorem over : Rows.fnStarsRow.holds Tryd.pinned (OpenSpec.ofChange Rows.fnStarsSpec) :=
  OpenClaim.holds_of_wide 9 Tryd.f9 rfl rfl rfl rfl rfl rfl rfl ⟨rfl, rfl, rfl, rfl, rfl⟩ rfl rfl rfl rfl rfl (by kernel_rfl) Tryd.func9 (by kernel_rfl)
    (of_decide_eq_true (by kernel_rfl)) (by unfold Func.isWrapper; first | (rw [if_pos (by decide +kernel)]; kernel_rfl) | (rw [if_neg (by decide +kernel)]; exact ⟨rfl, rfl⟩))
    (fun os started H enc _ => lifted os started H enc)
theorem proved : Rows.FnStarsCardSaid :=
  Claim7.holds_tied_plain_at .later [] [.data] true (true, "653ba40917454f3c57c45bf7bd6e7a755b8c14dc4c6435c6eceb616f191040d8") false over (fun _ h => by cases h) (by kernel_rfl) (fun _ h => by cases h) fnStars_row_tie rfl ⟨rfl, rfl⟩ (by kernel_rfl) rfl
    (fun f fn hf hfn => by
      obtain rfl : f = 9 := Option.some.inj ((show Tryd.prog.funcNamed Rows.fnStarsRow.func = some 9 by kernel_rfl).symm.trans hf) |>.symm
      obtain rfl : fn = Tryd.f9 := (Option.some.inj (Tryd.func9.symm.trans hfn)).symm
      exact ⟨by kernel_rfl, fun j t ht => by
        rw [Tryd.params9] at ht
        have hm : t ∈ [41] := by simpa using Array.mem_of_getElem? ht
        have hall : ([41].all fun u => !Tryd.prog.wantsStandIn u) = true := by kernel_rfl
        exact (show Tryd.prog.wantsStandIn t = false by simpa using List.all_eq_true.1 hall t hm)⟩)
    (by kernel_rfl)
#print axioms proved
end Go.Proofs.YtlakdfbfkbndiaaDoor.fnStars
namespace Go.Proofs.YtlakdfbfkbndiaaDoor
theorem fnStars_holds : Rows.FnStarsCardSaid := fnStars.proved
end Go.Proofs.YtlakdfbfkbndiaaDoor
