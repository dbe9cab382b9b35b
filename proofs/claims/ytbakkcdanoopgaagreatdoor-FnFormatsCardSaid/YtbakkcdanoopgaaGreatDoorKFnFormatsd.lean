/- What the row of FnFormats rests on, and the row: for every input that can be read the call returns true and the input reads as it did; condition: what the row lists of the library reads as the program lays it. -/
import Derived.Test.YtbakkcdanoopgaaGreatDoorKFnFormatsc
import Derived.Test.YtbakkcdanoopgaaGreatDoorRows
set_option linter.unusedVariables false
set_option linter.unusedSimpArgs false
set_option linter.unusedSectionVars false
set_option linter.unusedVariables false
set_option linter.unusedSimpArgs false
namespace Go.Proofs.YtbakkcdanoopgaaGreatDoor.Ev
open Go Go.RowKit Go.Proofs.YtbakkcdanoopgaaGreatDoorW.PrintWords Go.Proofs.YtbakkcdanoopgaaGreatDoorW.PrintMore Kd
section
variable {P : Program} {E E' : Env} {s s' : St} {act : Act} {W W' : World} {ρ : Type} {C : Ctx} {r : ρ}
section
variable {ops : Array Oper} {M : Nat → Nat} {W0 : World} {L D : Array Bool} {done : Nat} {l : List PI} {Y : List (PI × Nat)} {U : List PI}
theorem Ahead.told (h : Ahead P ops M W0 L D done l Y U E act W) (hL : Left_ ops M D done l) {x : PI} {r : List PI} (hp : l.Perm (x :: r)) {g : Nat} (hx : (x, g) ∈ Y) {E' : Env} (hE : ∀ k, k ≠ g → E'.own k = E.own k) :
    ∃ Y', Ahead P ops M W0 L (D.setIfInBounds x.i true) (Nat.lor done (Nat.pow 2 x.i)) r Y' U E' act W := by
  obtain ⟨a, b, hY⟩ := List.append_of_mem hx
  have hxl := h.iny hx
  have hlt : x.i < D.size := by
    rw [hL.size]
    exact (Array.getElem?_eq_some_iff.1 (hL.mem x hxl).1).1
  have hsub : ∀ y, y ∈ a ++ b → y ∈ Y := fun y hy => by
    rw [hY]
    rcases List.mem_append.mp hy with h1 | h1
    · exact List.mem_append_left _ h1
    · exact List.mem_append_right _ (List.mem_cons_of_mem _ h1)
  have hbl := h.blocks
  rw [hY, List.map_append, List.map_cons] at hbl
  have hbl2 := (List.perm_middle (a := g) (l₁ := a.map (·.2)) (l₂ := b.map (·.2))).nodup_iff.mp hbl
  obtain ⟨n1, n2⟩ := List.nodup_cons.mp hbl2
  refine ⟨a ++ b, by simp [h.size], fun j => ?_, h.down, ?_, by rw [List.map_append]; exact n2, fun y hy => ?_⟩
  · rw [h.bits]
    by_cases hj : x.i = j
    · subst hj
      simp only [Array.getD_eq_getD_getElem?, Array.getElem?_setIfInBounds_self_of_lt hlt, Option.getD_some, true_or, iff_true]
      exact .inr ⟨_, hx, rfl⟩
    · rw [getD_set_ne false hj, hY]
      refine or_congr_right ⟨?_, ?_⟩
      · rintro ⟨y, hy, rfl⟩
        rcases List.mem_append.mp hy with h1 | h1
        · exact ⟨y, List.mem_append_left _ h1, rfl⟩
        · rcases List.mem_cons.mp h1 with rfl | h1
          · exact absurd rfl hj
          · exact ⟨y, List.mem_append_right _ h1, rfl⟩
      · rintro ⟨y, hy, rfl⟩
        exact ⟨y, by rw [← hY]; exact hsub y hy, rfl⟩
  · have h1 := hp.symm.trans h.perm
    rw [hY, List.map_append, List.map_cons, List.append_assoc, List.cons_append] at h1
    have h2 := h1.trans List.perm_middle
    rw [List.map_append, List.append_assoc]
    exact h2.cons_inv
  · obtain ⟨i1, i2, i3, i4, i5⟩ := h.item y (hsub y hy)
    have hne : y.2 ≠ g := fun he => n1 (by
      rw [← List.map_append, ← he]
      exact List.mem_map_of_mem hy)
    refine ⟨?_, i2, i3, (hE _ hne).trans i4, i5⟩
    unfold readyM at i1 ⊢
    rw [land_sub] at i1 ⊢
    intro k hk
    show (done ||| 2 ^ x.i).testBit k = true
    rw [Nat.testBit_or, i1 k hk]
    rfl
theorem Ahead.early (h : Ahead P ops M W0 L D done l Y U E act W) (hL : Left_ ops M D done l) {y : PI} (hy : y ∈ U) (hri : y.i ∈ Region.ready .any ops L) (hr : readyM done y = true) (hk : mkB y.o = true) (hMw : Waits ops M) (hW : W0.heap.size ≤ W.heap.size) {v : Value} {ob : Obj}
    (hm : Made P (act.put y.o.dst v) (W.alloc ob) y.o W.heap.size) (hap : ∀ z, z ∈ Y → z.1.o.apart ops y.o = true) :
    ∃ U', U.length = U'.length + 1 ∧ Ahead P ops M W0 (L.setIfInBounds y.i true) D done l ((y, W.heap.size) :: Y) U' (E.hide W.heap.size) (act.put y.o.dst v) (W.alloc ob) := by
  obtain ⟨a, b, hU⟩ := List.append_of_mem hy
  have hlt : y.i < L.size := by
    rw [h.size, hL.size]
    exact (Array.getElem?_eq_some_iff.1 (hL.mem y (h.inl hy)).1).1
  have hB : Below W.heap.size W (W.alloc ob) := below_alloc (Below.refl _ _) _
  refine ⟨a ++ b, by rw [hU]; simp; omega, by simp [h.size], fun j => ?_, h.down.set hMw hri, ?_, ?_, fun z hz => ?_⟩
  · by_cases hj : y.i = j
    · subst hj
      simp only [Array.getD_eq_getD_getElem?, Array.getElem?_setIfInBounds_self_of_lt hlt, Option.getD_some, true_iff]
      exact .inr ⟨_, List.mem_cons_self, rfl⟩
    · rw [getD_set_ne false hj, h.bits]
      refine or_congr_right ⟨fun ⟨z, hz, he⟩ => ⟨z, List.mem_cons_of_mem _ hz, he⟩, ?_⟩
      rintro ⟨z, hz, rfl⟩
      rcases List.mem_cons.mp hz with rfl | hz
      · exact absurd rfl hj
      · exact ⟨z, hz, rfl⟩
  · refine h.perm.trans ?_
    rw [hU, List.map_cons, List.cons_append, ← List.append_assoc, ← List.append_assoc]
    exact List.perm_middle
  · rw [List.map_cons]
    refine List.nodup_cons.mpr ⟨fun hm => ?_, h.blocks⟩
    obtain ⟨z, hz, he⟩ := List.mem_map.mp hm
    have := (h.item z hz).2.2.1.lt
    have he : z.2 = W.heap.size := he
    omega
  · rcases List.mem_cons.mp hz with rfl | hz
    · exact ⟨hr, hk, hm, if_pos rfl, hW⟩
    · obtain ⟨i1, i2, i3, i4, i5⟩ := h.item z hz
      have hlt3 := i3.lt
      refine ⟨i1, i2, ?_, (if_neg (by omega)).trans i4, i5⟩
      have hs : ∀ cs b, z.1.o.op ≠ .select cs b := fun cs b he => by
        rcases (mkB_spec i2).2.2 with ⟨t, ho⟩ | ⟨t, len, parts, ho⟩ <;> rw [ho] at he <;> cases he
      exact (i3.put hs (hap z hz) v).world (hB.block _ hlt3)
end
end
end Go.Proofs.YtbakkcdanoopgaaGreatDoor.Ev
set_option linter.unusedVariables false
set_option linter.unusedSimpArgs false
namespace Go.Proofs.YtbakkcdanoopgaaGreatDoor.Ev
open Go Go.RowKit Go.Proofs.YtbakkcdanoopgaaGreatDoorW.PrintWords Go.Proofs.YtbakkcdanoopgaaGreatDoorW.PrintMore Kd
section
variable {P : Program} {E E' : Env} {s s' : St} {act : Act} {W W' : World} {ρ : Type} {C : Ctx} {r : ρ}
theorem plan_rep [Bgs] [WrFact P C] (hT : TabOK P C.D) {insts : Nat → List Inst} {sem : Sem ρ} (hsem : SemOK P insts sem) {ops : Array Oper} {M : Nat → Nat} (hM : Waits ops M) (hsel : ∀ (j : Nat) (o : Oper) cs b, ops[j]? = some o → o.op ≠ .select cs b) {κ : St → Option ρ} {π : AV → St → Option ρ} {E0 : Env} {act0 : Act} {W0 : World} (hB0 : BgOK E0 W0)
    {Q : Exit → Act → World → Prop} (hQ0 : ∀ c a w d v, Q (.panic c) (a.put d v) w → Q (.panic c) a w) (hK : ∀ E' s' act' W', κ s' = some r → Rep E' s' act' W' → Aft E0 W0 E' W' → Like act0 act' → Q .normal act' W')
    (hQ : ∀ E' s' a' y' act' W', π a' s' = some r → Aft E0 W0 E' W' → ArgsOK E' W' s'.boxes [a'] [y'] → Like act0 act' → Q (.panic [{ v := y', recovered := false }]) act' W') :
    ∀ (n f : Nat) (L D : Array Bool) (done : Nat) (l : List PI) (p : List PI) (Y : List (PI × Nat)) (U : List PI) (G : List Gh) {E : Env} {s : St} {act : Act} {W : World}, l.length + U.length ≤ n → Left_ ops M D done l → Ahead P ops M W0 L D done l Y U E act W → planGo ops.toList f done l = some p → (∀ e, e ∈ G → Lat e.E e.W E W) → Rep E s act W → Aft E0 W0 E W → Like act0 act → evD C insts sem ops.toList p (rdsOf G) s κ π = some r →
      wpAnyX P ops Q (Lk M G) U.length L act W := by
  have nil : ∀ (L D : Array Bool) (done f : Nat) (p : List PI) (Y : List (PI × Nat)) (U : List PI) (G : List Gh) (E : Env) (s : St) (act : Act) (W : World), Left_ ops M D done [] → Ahead P ops M W0 L D done [] Y U E act W → planGo ops.toList f done [] = some p → Rep E s act W → Aft E0 W0 E W → Like act0 act → evD C insts sem ops.toList p (rdsOf G) s κ π = some r → wpAnyX P ops Q (Lk M G) U.length L act W := fun L D done f p Y U G E s act W hL hA hp hR hAft hLike h => by
    rw [planGo_nil] at hp
    obtain rfl := Option.some.inj hp
    have hl := hA.perm.length_eq
    rw [List.length_append, List.length_nil] at hl
    obtain rfl : U = [] := List.eq_nil_of_length_eq_zero (by omega)
    refine ⟨List.eq_nil_iff_forall_not_mem.mpr fun j hj => ?_, hK E s act W h hR hAft hLike⟩
    obtain ⟨h1, o, ho, -⟩ := mem_ready.mp hj
    obtain ⟨y, hy, -⟩ := hA.left hL ho h1
    cases hy
  intro n
  induction n with
  | zero =>
    intro f L D done l p Y U G E s act W hn hL hA hp hG hR hAft hLike h
    obtain rfl : l = [] := List.eq_nil_of_length_eq_zero (by omega)
    exact nil L D done f p Y U G E s act W hL hA hp hR hAft hLike h
  | succ n ih =>
    intro f L D done l p Y U G E s act W hn hL hA hp hG hR hAft hLike h
    cases hl : l with
    | nil =>
      rw [hl] at hL hA hp
      exact nil L D done f p Y U G E s act W hL hA hp hR hAft hLike h
    | cons z l' =>
      rw [hl] at hL hA hp hn
      cases f with
      | zero => cases hp
      | succ f =>
      have hmk : ∀ y, y ∈ Y → ∀ cs b, y.1.o.op ≠ .select cs b := fun y hy cs b he => by
        rcases (mkB_spec (hA.item y hy).2.1).2.2 with ⟨t, ho⟩ | ⟨t, len, parts, ho⟩ <;> rw [ho] at he <;> cases he
      have hB := hB0.aft hAft
      rcases planGo_some hp with ⟨x, r', p', hx, hfree, hp2, rfl⟩ | ⟨x, r', p', hnq, hx, hnone, hp2, rfl⟩
      · obtain ⟨g1, g2, g3⟩ := takeQ_spec hx
        have hxl : x ∈ z :: l' := g3.mem_iff.mpr List.mem_cons_self
        have hlen : (z :: l').length = r'.length + 1 := by rw [g3.length_eq]; rfl
        obtain ⟨m1, m2, m3⟩ := hL.mem x hxl
        have hxU : x ∈ U := by
          rcases hA.mem hxl with ⟨g, hg⟩ | hx
          · exfalso
            have h1 := (mkB_spec (hA.item _ hg).2.1).2.2
            rcases h1 with ⟨t, ho⟩ | ⟨t, len, parts, ho⟩
            · have ho : x.o.op = .alloc t := ho
              simp [qB, ho] at g2
            · have ho : x.o.op = .buildSlice t len parts := ho
              simp [qB, ho] at g2
          · exact hx
        have hriD := (hL.ready hM hxl).mp g1
        have hri := hA.ready hL hxU hriD
        rw [← evD_junk] at h
        have hR := junk_rep (x :: p') hR
        unfold evD at h
        rw [junk_twice] at h
        split at h
        · cases h
        split at h
        case h_2 => cases h
        rename_i pr hpr
        obtain ⟨v, s1, ran, k1, k2, k3⟩ := evG_q hT hR g2 h
        have free : ∀ j oj, ops[j]? = some oj → j ≠ x.i → L.getD j true = false → (M j).testBit x.i = false → x.o.apart ops oj = true := fun j oj hoj hji hun hno => by
          obtain ⟨y, hyU, hyj, hyo⟩ := hA.left hL hoj hun
          have hy := hA.inl hyU
          rcases List.mem_cons.mp (g3.mem_iff.mp hy) with rfl | hy'
          · exact absurd hyj.symm hji
          · have h5 := List.all_eq_true.mp hfree y hy'
            obtain ⟨n1, n2, -⟩ := hL.mem y hy
            subst hyo
            unfold freeB at h5
            simp only [Bool.or_eq_true] at h5
            rcases h5 with h5 | h5
            · rw [n2, hyj, hno] at h5; cases h5
            · exact apartB_spec h5
        have hMade : ∀ y, y ∈ Y → Made P (act.put x.o.dst v) W y.1.o y.2 := fun y hy => by
          obtain ⟨i1, i2, i3, -⟩ := hA.item y hy
          have hyl := hA.iny hy
          suffices hs : x.o.apart ops y.1.o = true from i3.put (hmk y hy) (apart_symm hs) v
          rcases List.mem_cons.mp (g3.mem_iff.mp hyl) with he | hy'
          · exact absurd (by rw [he]) (hA.apart hL hxU hy)
          · have h5 := List.all_eq_true.mp hfree _ hy'
            unfold freeB at h5
            simp only [Bool.or_eq_true] at h5
            rcases h5 with h5 | h5
            · exfalso
              unfold readyM at i1
              rw [land_sub] at i1
              have := i1 _ h5
              rw [← hL.bits] at this
              rw [getD_tf (getD_lt this), this] at m3
              cases m3
            · exact apartB_spec h5
        obtain ⟨U', hU', hA'⟩ := hA.step hL g3 hxU hri (E' := E) (act' := act.put x.o.dst v) (W' := W) (fun y hy => (hA.item y hy).2.2.2.1) hMade hM
        rw [hU']
        rcases k3 with ⟨rfl, k3⟩ | ⟨rfl, k3⟩
        · have hadd : addRd x true (rdOf C (s.junkMk (x :: p')) x.o) (rdsOf G) = rdsOf (⟨x.i, rdOf C (s.junkMk (x :: p')) x.o, E, W⟩ :: G) := by
            unfold addRd; rw [g2]; rfl
          rw [hadd] at k1
          have hG' : ∀ e, e ∈ (⟨x.i, rdOf C (s.junkMk (x :: p')) x.o, E, W⟩ : Gh) :: G → Lat e.E e.W E W := fun e he => by
            rcases List.mem_cons.mp he with rfl | he
            · exact Lat.refl _ _
            · exact hG e he
          have h4 := ih f _ _ _ r' p' Y U' _ (by omega) (hL.take hM g3 hriD) hA' hp2 hG' k2 hAft ((put_like _ _ _).trans hLike) k1
          refine wpAnyX_mono (Lk := Lk M (⟨x.i, rdOf C (s.junkMk (x :: p')) x.o, E, W⟩ :: G)) (fun i w w' h e he => h e (List.mem_cons_of_mem _ he)) _ _ _ _ ?_
          exact any_first hM (fun w => SameL.refl E W _ w) (fun w w1 w2 => SameL.trans) m1 (fun w e _ _ => SameL.refl _ _ _ _) hsel hQ0 U'.length L act W hA.down (fun j oj hoj hji hun hno => ⟨free j oj hoj hji hun hno, fun w w' h => h ⟨x.i, rdOf C (s.junkMk (x :: p')) x.o, E, W⟩ List.mem_cons_self hno⟩) hri k3 h4
        · have hadd : addRd x false (rdOf C (s.junkMk (x :: p')) x.o) (rdsOf G) = rdsOf G := by
            unfold addRd; rw [Bool.and_false]
          rw [hadd] at k1
          have h4 := ih f _ _ _ r' p' Y U' _ (by omega) (hL.take hM g3 hriD) hA' hp2 hG k2 hAft ((put_like _ _ _).trans hLike) k1
          exact any_first hM (fun w => trivial) (fun w w1 w2 _ _ => trivial) m1 (fun w e _ _ => SameL.refl _ _ _ _) hsel hQ0 U'.length L act W hA.down (fun j oj hoj hji hun hno => ⟨free j oj hoj hji hun hno, fun w w' h => trivial⟩) hri k3 h4
      · obtain ⟨g1, g3⟩ := takeR_spec hx
        have hxl : x ∈ z :: l' := g3.mem_iff.mpr List.mem_cons_self
        have hlen : (z :: l').length = r'.length + 1 := by rw [g3.length_eq]; rfl
        have hriD := (hL.ready hM hxl).mp g1
        have hnqx := takeQ_none hnq x hxl g1
        obtain ⟨m1, m2, m3⟩ := hL.mem x hxl
        have hadd : ∀ ran, addRd x ran (rdOf C (s.junkMk (x :: p')) x.o) (rdsOf G) = rdsOf G := fun ran => by unfold addRd; rw [hnqx, Bool.false_and]
        have hpp := plan_perm _ _ _ _ hp2
        rw [← evD_junk] at h
        have h0 := h
        have hR := junk_rep (x :: p') hR
        unfold evD at h
        rw [junk_twice] at h
        split at h
        · cases h
        rename_i hok
        split at h
        case h_2 => cases h
        rename_i pr hpr
        rcases hA.mem hxl with ⟨g, hg⟩ | hxU
        · obtain ⟨i1, i2, i3, i4, i5⟩ := hA.item _ hg
          obtain ⟨E', s1, k1, k2, k3, k4, k5⟩ := reveal hT hR i3 i4 i2 h
          rw [hadd] at k1
          obtain ⟨Y', hA'⟩ := hA.told hL g3 hg k3
          have hlt := i3.lt
          refine ih f _ _ _ r' p' Y' U _ (by omega) (hL.take hM g3 hriD) hA' hp2 (fun e he => (hG e he).trans ⟨Nat.le_refl _, k4, fun k hk hf => ?_⟩) k2 ⟨hAft.os, hAft.tape, hAft.output, hAft.size, fun k hk hf => ?_, ?_, k5.trans hAft.kv⟩ hLike k1
          · by_cases hkg : k = g
            · subst hkg
              rw [i4] at hf
              cases hf
            · exact (k3 k hkg).trans hf
          · obtain ⟨h1, h2⟩ := hAft.free k hk hf
            exact ⟨(k3 k (by omega)).trans h1, h2⟩
          · obtain ⟨a, ha⟩ := hAft.adr
            obtain ⟨b, hb⟩ := k4
            exact ⟨a ++ b, by rw [hb, ha, List.append_assoc]⟩
        · have hri := hA.ready hL hxU hriD
          have early : ∀ y, y ∈ r' → readyM done y = true → earlyB ops.toList x r' y = true := fun y hy hr => by
            have h5 := List.all_eq_true.mp hnone y hy
            rw [hr] at h5
            simpa using h5
          have inR : ∀ y, y ∈ z :: l' → y.i ≠ x.i → y ∈ r' := fun y hy hne => by
            rcases List.mem_cons.mp (g3.mem_iff.mp hy) with rfl | h
            · exact absurd rfl hne
            · exact h
          have earlyY : ∀ y, y ∈ Y → earlyB ops.toList x r' y.1 = true := fun y hy => early _ (inR _ (hA.iny hy) (hA.apart hL hxU hy)) (hA.item y hy).1
          cases hUl : U with
          | nil => rw [hUl] at hxU; cases hxU
          | cons u0 ul =>
          rw [List.length_cons]
          refine ⟨fun h0 => (by rw [h0] at hri; cases hri), fun j hj => ?_⟩
          obtain ⟨hun, oj, hoj, -⟩ := mem_ready.mp hj
          obtain ⟨y, hyU, hyj, hyo⟩ := hA.left hL hoj hun
          have hy := hA.inl hyU
          have hUlen : U.length = ul.length + 1 := by rw [hUl]; rfl
          by_cases hxy : j = x.i
          · subst hxy
            obtain rfl : x.o = oj := by rw [m1] at hoj; exact Option.some.inj hoj
            have h6 := evG_rep hT hsem hR hB h (fun a' w' => Lk M G x.i W w' ∧ wpAnyX P ops Q (Lk M G) ul.length (L.setIfInBounds x.i true) a' w') Q (fun E' s' act' W' ran h1 h2 h3 ⟨v, h4⟩ h5 => ⟨lk_of m2 hG hpr h3 h5, by
              rw [hadd] at h1
              obtain ⟨U', hU', hA'⟩ := hA.step hL g3 hxU hri (E' := E') (act' := act') (W' := W') (fun y hy => by
                obtain ⟨-, -, i3, i4, -⟩ := hA.item y hy
                exact ((h3.free _ i3.lt (.inr i4)).1).trans i4) (fun y hy => by
                obtain ⟨-, -, i3, i4, -⟩ := hA.item y hy
                have h7 := earlyY y hy
                unfold earlyB at h7
                simp only [Bool.and_eq_true] at h7
                rw [h4]
                exact (i3.put (hmk y hy) (apartB_spec h7.2.1) v).world (h3.free _ i3.lt (.inr i4)).2) hM
              have e0 : ul.length = U'.length := by omega
              rw [e0]
              exact ih f _ _ _ r' p' Y U' G (by omega) (hL.take hM g3 hriD) hA' hp2 (fun e he => (hG e he).trans h3.lat) h2 (hAft.trans h3) ((h4 ▸ put_like _ _ _ : Like act act').trans hLike) h1⟩) (fun E' s' a' y' W' h1 h2 h3 => hQ E' s' a' y' act W' h1 (hAft.trans h2) h3 hLike)
            unfold wpOp
            rw [m1]
            dsimp only
            split
            · rename_i hw
              rw [if_pos hw] at h6
              exact .inl h6
            · rename_i hw
              rw [if_neg hw] at h6
              exact h6
          · have hyr := inR y hy (by rw [hyj]; exact hxy)
            obtain ⟨n1, n2, n3⟩ := hL.mem y hy
            have hrd : readyM done y = true := by
              unfold readyM
              rw [land_sub]
              intro k hk
              have hk2 := ready_waits hM hA.down hj k (by rw [← hyj, ← n2]; exact hk)
              rcases (hA.bits k).mp hk2 with h1 | ⟨y0, hy0, rfl⟩
              · rw [← hL.bits]; exact h1
              · exfalso
                have h7 := earlyY y0 hy0
                unfold earlyB at h7
                simp only [Bool.and_eq_true] at h7
                have h8 := List.all_eq_true.mp h7.2.2 y hyr
                simp only [Bool.or_eq_true, Bool.and_eq_true] at h8
                rcases h8 with h8 | ⟨-, h8⟩
                · exact absurd (Nat.eq_of_beq_eq_true h8).symm (hA.apart hL hyU hy0)
                · rcases h8 with h8 | h8
                  · rw [hk] at h8; cases h8
                  · have h9 := ready_waits hM hA.down hj x.i (by rw [← hyj, ← n2]; exact h8)
                    have h10 := hA.unlisted hL hxU
                    rw [getD_tf (getD_lt h9), h9] at h10
                    cases h10
            have h7 := early y hyr hrd
            unfold earlyB at h7
            simp only [Bool.and_eq_true] at h7
            obtain ⟨hmky, hyx, hyall⟩ := h7
            have hmake : canMake C (s.junkMk (x :: p')) y.o = true := by
              unfold earlyOK at hok
              rw [hnqx, Bool.false_or] at hok
              have h8 := List.all_eq_true.mp hok y (hpp.mem_iff.mp hyr)
              rw [hmky, Bool.not_true, Bool.false_or] at h8
              simp only [Bool.or_eq_true] at h8
              have hno : ∀ k, y.m.testBit k = true → D.getD k false = true := fun k hk => by
                unfold readyM at hrd
                rw [land_sub] at hrd
                rw [hL.bits]
                exact hrd k hk
              have hnot : ∀ q, q ∈ z :: l' → y.m.testBit q.i = false := fun q hq => by
                cases hb : y.m.testBit q.i with
                | false => rfl
                | true =>
                  have h9 := hno _ hb
                  have h10 := (hL.mem q hq).2.2
                  rw [getD_tf (getD_lt h9), h9] at h10
                  cases h10
              rcases h8 with (h8 | h8) | h8
              · rw [hnot x hxl] at h8; cases h8
              · obtain ⟨q, hq, hqb⟩ := List.any_eq_true.mp h8
                rw [hnot q (g3.mem_iff.mpr (List.mem_cons_of_mem _ (hpp.mem_iff.mpr hq)))] at hqb
                cases hqb
              · exact h8
            obtain ⟨v, vs, t, hrun, hR', hmade⟩ := make_early hT hR hmky (fun d hd => junk_get _ hmky hd (List.mem_cons_of_mem _ (hpp.mem_iff.mp hyr))) hmake
            obtain ⟨U', hU', hA'⟩ := hA.early hL hyU (by rw [hyj]; exact hj) hrd hmky hM hAft.size hmade (fun z0 hz0 => by
              have h7 := earlyY z0 hz0
              unfold earlyB at h7
              simp only [Bool.and_eq_true] at h7
              have h8 := List.all_eq_true.mp h7.2.2 y hyr
              simp only [Bool.or_eq_true, Bool.and_eq_true] at h8
              rcases h8 with h8 | ⟨h8, -⟩
              · exact absurd (Nat.eq_of_beq_eq_true h8).symm (hA.apart hL hyU hz0)
              · unfold freeB at h8
                simp only [Bool.or_eq_true] at h8
                rcases h8 with h8 | h8
                · exfalso
                  unfold readyM at hrd
                  rw [land_sub] at hrd
                  have h9 := hrd _ h8
                  rw [← hL.bits] at h9
                  have h10 := (hL.mem _ (hA.iny hz0)).2.2
                  rw [getD_tf (getD_lt h9), h9] at h10
                  cases h10
                · exact apartB_spec h8)
            have hBl : Below W.heap.size W (W.alloc (.cells vs t)) := below_alloc (Below.refl _ _) _
            have e0 : ul.length = U'.length := by omega
            unfold wpOp
            rw [hoj]
            subst hyo
            have hwant : Region.wanted y.o (yielded ops act.tmps) = true := by
              unfold Region.wanted
              rw [(mkB_spec hmky).1]
            dsimp only
            rw [if_pos hwant]
            refine .inl ?_
            unfold Oper.wp
            rw [hrun]
            refine ⟨lk_alloc hG, ?_⟩
            rw [e0, ← hyj]
            exact ih (f + 1) _ _ _ (z :: l') (x :: p') _ U' G (by omega) hL hA' hp (fun e he => (hG e he).trans ⟨hBl.size, ⟨[], by simp [Env.hide]⟩, fun k hk hf => (if_neg (by omega)).trans hf⟩) hR' ⟨hBl.os.trans hAft.os, hBl.tape.trans hAft.tape, hBl.output.trans hAft.output, Nat.le_trans hAft.size hBl.size, fun k hk hf => by
              have hs := hAft.size
              obtain ⟨h1, h2⟩ := hAft.free k hk hf
              exact ⟨(if_neg (by omega)).trans h1, (hBl.block k (by omega)).trans h2⟩, hAft.adr, hAft.kv⟩ ((put_like _ _ _).trans hLike) h0
theorem edgesLt_spec : ∀ {l : List Oper} {k : Nat}, edgesLt l k = true → ∀ j o, l[j]? = some o → ∀ e, e ∈ o.after → Region.binds .any e = true → e.on < k + j
  | [], k, h, j, o, hj, e, he, hb => by simp at hj
  | o :: l, k, h, 0, o', hj, e, he, hb => by
    simp only [edgesLt, Bool.and_eq_true] at h
    obtain rfl : o = o' := by simpa using hj
    have h1 := List.all_eq_true.mp h.1 e (by simpa using he)
    rw [hb] at h1
    have h2 := Nat.blt_eq.mp (show Nat.blt e.on k = true by simpa using h1)
    omega
  | o :: l, k, h, j + 1, o', hj, e, he, hb => by
    simp only [edgesLt, Bool.and_eq_true] at h
    have := edgesLt_spec h.2 j o' (by simpa using hj) e he hb
    omega
theorem draw_rep [Bgs] [WrFact P C] (hT : TabOK P C.D) {insts : Nat → List Inst} {sem : Sem ρ} (hsem : SemOK P insts sem) {ops : Array Oper} {κ : St → Option ρ} {π : AV → St → Option ρ} {p : List PI} (hp : planOf ops.toList = some p) (hR : Rep E s act W) (hB : BgOK E W) (h : evD C insts sem ops.toList p [] s κ π = some r)
    (Q : Exit → Act → World → Prop) (hQ0 : ∀ c a w d v, Q (.panic c) (a.put d v) w → Q (.panic c) a w) (hK : ∀ E' s' act' W', κ s' = some r → Rep E' s' act' W' → Aft E W E' W' → Like act act' → Q .normal act' W')
    (hQ : ∀ E' s' a' y' act' W', π a' s' = some r → Aft E W E' W' → ArgsOK E' W' s'.boxes [a'] [y'] → Like act act' → Q (.panic [{ v := y', recovered := false }]) act' W') : wpAny P .any ops Q ops.size (Array.replicate ops.size false) act W := by
  unfold planOf at hp
  split at hp
  · rename_i hs
    simp only [Bool.and_eq_true] at hs
    obtain ⟨hs, hlt⟩ := hs
    obtain ⟨i1, i2, i3, i4, i5⟩ := itemsOf_spec ops.toList 0 [] rfl
    have hsel : ∀ (j : Nat) (o : Oper) cs b, ops[j]? = some o → o.op ≠ .select cs b := fun j o cs b ho he => by
      have h1 := List.all_eq_true.mp hs o (by simpa using Array.mem_of_getElem? ho)
      rw [he] at h1
      cases h1
    have hM : Waits ops (nthN (masks ops.toList [])) := ⟨fun j o ho k => by
      obtain ⟨ms', q1, ⟨t, q2⟩, q3⟩ := i5 j o (by simpa using ho)
      rw [Nat.zero_add] at q1 q3
      rw [q3, maskOf_bit]
      have hpre : ∀ e, e ∈ o.after → Region.binds .any e = true → nthN ms' e.on = nthN (masks ops.toList []) e.on := fun e he hb => by
        have h2 := edgesLt_spec hlt j o (by simpa using ho) e he hb
        rw [q2, nthN_eq, nthN_eq, List.getD_eq_getElem?_getD, List.getD_eq_getElem?_getD, List.getElem?_append_left (by omega)]
      constructor
      · rintro ⟨e, h1, h2, h3⟩
        have h1' : e ∈ o.after := by simpa using h1
        exact ⟨e, h1', h2, h3.imp id fun h => by rw [← hpre e h1' h2]; exact h⟩
      · rintro ⟨e, h1, h2, h3⟩
        exact ⟨e, by simpa using h1, h2, h3.imp id fun h => by rw [hpre e h1 h2]; exact h⟩⟩
    have hget : ∀ j d, (Array.replicate ops.size false).getD j d = true → d = true ∧ ops.size ≤ j := fun j d hj => by
      rw [Array.getD_eq_getD_getElem?, Array.getElem?_replicate] at hj
      split at hj
      · cases hj
      · exact ⟨hj, by omega⟩
    have hL : Left_ ops (nthN (masks ops.toList [])) (Array.replicate ops.size false) 0 (itemsOf ops.toList 0 []) := by
      refine ⟨by simp, fun j => ?_, fun j o ho hj => ?_, fun x hx => ?_, i3, fun j hj => ?_⟩
      · rw [Nat.zero_testBit]
        cases hb : (Array.replicate ops.size false).getD j false with
        | false => rfl
        | true => exact absurd (hget _ _ hb).1 (by simp)
      · obtain ⟨x, hx, hxi⟩ := i2 j o (by simpa using ho)
        exact ⟨x, hx, by omega⟩
      · obtain ⟨-, g2, g3⟩ := i1 x hx
        rw [Nat.sub_zero] at g2
        have g2' : ops[x.i]? = some x.o := by simpa using g2
        refine ⟨g2', g3, ?_⟩
        cases hb : (Array.replicate ops.size false).getD x.i true with
        | false => rfl
        | true =>
          have := (hget _ _ hb).2
          have := (Array.getElem?_eq_some_iff.1 g2').1
          omega
      · exact absurd (hget _ _ hj).1 (by simp)
    have hA : Ahead P ops (nthN (masks ops.toList [])) W (Array.replicate ops.size false) (Array.replicate ops.size false) 0 (itemsOf ops.toList 0 []) [] (itemsOf ops.toList 0 []) E act W :=
      ⟨rfl, fun j => by simp, fun j hj => absurd (hget _ _ hj).1 (by simp), by simp, by simp, fun y hy => by cases hy⟩
    have h1 := plan_rep hT hsem hM hsel hB hQ0 hK hQ _ _ _ _ 0 _ p [] _ [] (Nat.le_refl _) hL hA hp (fun e he => by cases he) hR (Aft.refl _ _) (Like.refl _) h
    rw [i4, Array.length_toList] at h1
    exact wpAny_of_X _ _ _ _ h1
  · cases hp
end
end Go.Proofs.YtbakkcdanoopgaaGreatDoor.Ev
set_option linter.unusedVariables false
set_option linter.unusedSimpArgs false
namespace Go.Proofs.YtbakkcdanoopgaaGreatDoor.Ev
open Go Go.RowKit Go.Proofs.YtbakkcdanoopgaaGreatDoorW.PrintWords Go.Proofs.YtbakkcdanoopgaaGreatDoorW.PrintMore Kd
def Env.trunc (E : Env) (n : Nat) : Env := { E with adr := E.adr.take n }
theorem forms_mem {n : Nat} {tk : Nat → Bool} : ∀ {l : List AV}, forms n tk l → ∀ a, a ∈ l → form n tk a
  | b :: l, h, a, ha => by
    rcases List.mem_cons.mp ha with rfl | ha
    · exact h.1
    · exact forms_mem h.2 a ha
theorem formsB {n : Nat} : ∀ (ps : List (List Pt)) (h : List HV) (l : List (List AV)) (r : List HV), Pt.okB n ps = true → Pt.buildB ps h = some (l, r) → ∀ cs, cs ∈ l → forms n (fun _ => false) cs
  | [], h, l, r, hp, hb => by
    obtain ⟨rfl, -⟩ : [] = l ∧ h = r := by simpa [Pt.buildB] using hb
    intro cs hc; simp at hc
  | p :: ps, h, l, r, hp, hb => by
    simp only [Pt.buildB] at hb
    simp only [Pt.okB, Bool.and_eq_true] at hp
    split at hb
    · rename_i a h1 ha
      split at hb
      · rename_i l2 h2 hl2
        obtain ⟨rfl, -⟩ : a :: l2 = l ∧ h2 = r := by simpa using hb
        intro cs hc
        rcases List.mem_cons.mp hc with rfl | hc
        · exact builds_form n _ p h _ h1 hp.1 ha
        · exact formsB ps h1 l2 h2 hp.2 hl2 cs hc
      · cases hb
    · cases hb
end Go.Proofs.YtbakkcdanoopgaaGreatDoor.Ev
set_option linter.unusedVariables false
set_option linter.unusedSimpArgs false
namespace Go.Proofs.YtbakkcdanoopgaaGreatDoor.Ev
open Go Go.RowKit Go.Proofs.YtbakkcdanoopgaaGreatDoorW.PrintWords Go.Proofs.YtbakkcdanoopgaaGreatDoorW.PrintMore Kd
section
variable {E E' E0 : Env} {s s' s0 : St} {act : Act} {W W' W0 : World} {n : Nat} {tk : Nat → Bool}
theorem trunc_adr {j g : Nat} (h : E.adr[j]? = some g) (hj : j < n) : (E.trunc n).adr[j]? = some g := by
  show (E.adr.take n)[j]? = some g
  rw [List.getElem?_take_of_lt hj]
  exact h
theorem trunc_repS {a : AV} {y : Value} (h : RepS E W a y) (hf : form n tk a) : RepS (E.trunc n) W a y := by
  cases a with
  | sl m e t xs => cases m <;> exact h
  | ptr j off => obtain ⟨g, h1, h2⟩ := h; exact ⟨g, trunc_adr h1 hf, h2⟩
  | _ => exact h
theorem trunc_all : ∀ {l : List AV} {m : List Value}, All2 (RepS E W) l m → forms n tk l → All2 (RepS (E.trunc n) W) l m
  | [], [], _, _ => trivial
  | a :: l, y :: m, h, hf => ⟨trunc_repS h.1 hf.1, trunc_all h.2 hf.2⟩
theorem trunc_argT {O : Owner → Prop} {a : AV} {y : Value} (h : ArgT E W O a y) (hf : form n tk a) : ArgT (E.trunc n) W O a y := by
  cases a with
  | sl m e t xs => cases m <;> exact h
  | ptr j off => exact trunc_repS (W := W) (a := .ptr j off) h hf
  | fn f first l =>
    obtain ⟨fs, cs, h1, h2, h3⟩ := h
    obtain ⟨hk, hl⟩ := hf
    exact ⟨fs, cs, h1, trunc_all h2 hk, trunc_all h3 hl⟩
  | _ => exact h
theorem trunc_cells {k : Nat} : ∀ {l : List AV} {m : List Value} {p : Nat}, AllQ (fun c => ArgT E W (fun x => x = .way k c)) p l m → forms n tk l → AllQ (fun c => ArgT (E.trunc n) W (fun x => x = .way k c)) p l m
  | [], [], _, _, _ => trivial
  | a :: l, y :: m, p, h, hf => ⟨trunc_argT h.1 hf.1, trunc_cells h.2 hf.2⟩
theorem trunc_argV {k : Nat} {a : AV} {y : Value} (h : ArgV E W k a y) (hf : form n tk a) : ArgV (E.trunc n) W k a y := by
  by_cases hc : ∃ cs, a = .agg cs
  · obtain ⟨cs, rfl⟩ := hc
    obtain ⟨vs, h1, h2⟩ := h
    exact ⟨vs, h1, trunc_cells h2 hf⟩
  · have hn : ∀ cs, a ≠ .agg cs := fun cs he => hc ⟨cs, he⟩
    rw [argV_T hn] at h ⊢
    exact trunc_argT h hf
theorem trunc_args : ∀ {l : List AV} {m : List Value} {k : Nat}, AllQ (ArgV E W) k l m → forms n tk l → AllQ (ArgV (E.trunc n) W) k l m
  | [], [], _, _, _ => trivial
  | a :: l, y :: m, k, h, hf => ⟨trunc_argV h.1 hf.1, trunc_args h.2 hf.2⟩
theorem trunc_box {j : Nat} {cs : List AV} (h : Box E W j cs) (hj : j < n) (hf : forms n tk cs) : Box (E.trunc n) W j cs := by
  obtain ⟨g, ty, cells, h1, h2, h3, h4, h5⟩ := h
  refine ⟨g, ty, cells, trunc_adr h1 hj, h2, h3, h4, fun c a y ha hy => ?_⟩
  have h6 := h5 c a y ha hy
  have hfa := forms_mem hf a (List.mem_of_getElem? ha)
  cases a with
  | own e t xs => exact h6
  | junk => trivial
  | v x => exact h6
  | sl m e t xs => exact trunc_repS (a := .sl m e t xs) h6 hfa
  | ptr j' off => exact trunc_repS (W := W) (a := .ptr j' off) h6 hfa
  | same b => exact ⟨trunc_repS h6.1 hfa, h6.2⟩
  | _ => exact h6.elim
theorem trunc_aft (h : Aft E0 W0 E W) (hn : E0.adr.length ≤ n) : Aft E0 W0 (E.trunc n) W := by
  obtain ⟨l, hl⟩ := h.adr
  refine ⟨h.os, h.tape, h.output, h.size, h.free, ⟨l.take (n - E0.adr.length), ?_⟩, h.kv⟩
  show E.adr.take n = _
  rw [hl, List.take_append]
  rw [List.take_of_length_le hn]
theorem told_boxes {pb : List (List Pt)} {pw : Nat → Nat → Bool} {b : List HV} {bs : List (List AV)} (hbx : ∀ (j : Nat) (cs : List AV), bs[j]? = some cs → Box E W j cs) (hln : bs.length = E.adr.length) (hok : Pt.okB pb.length pb = true) (h : Pt.parseB pb (Pt.frzB pb bs) = some b) :
    ∃ bx, (∀ r, Pt.buildB pb (b ++ r) = some (bx, r)) ∧ (∀ (j : Nat) (cs : List AV), bx[j]? = some cs → Box ((E.frz pb pw).trunc pb.length) W j cs) ∧ bx.length = ((E.frz pb pw).trunc pb.length).adr.length := by
  obtain ⟨bx, k1, k2, k3, k4⟩ := parseB_build _ _ _ h
  rw [(frzB_get pb bs).1] at k3
  refine ⟨bx, k1, fun j cs hj => ?_, ?_⟩
  · obtain ⟨c0, h1, h2⟩ := k4 j cs hj
    obtain ⟨c1, h3, rfl⟩ := (frzB_get pb bs).2 j c0 h1
    refine trunc_box (tk := fun _ => false) (box_cut h2 (frz_box (hbx j c1 h3))) ?_ (formsB pb _ bx [] hok (k1 []) cs (List.mem_of_getElem? hj))
    rw [← k2]
    exact (List.getElem?_eq_some_iff.mp hj).1
  · show bx.length = (E.adr.take pb.length).length
    rw [List.length_take, k2, ← hln]
    omega
theorem told_new {pb : List (List Pt)} {pw : Nat → Nat → Bool} (h : ∀ k, W.heap.size ≤ k → E.own k = .free) : ∀ k, W.heap.size ≤ k → ((E.frz pb pw).trunc n).own k = .free := fun k hk => frz_free (pb := pb) (pw := pw) (h k hk)
theorem pan_ok {ρ : Type} {I : Inst} {κ : Out → Option ρ} {r : ρ} {v : AV} {y : Value} (h : evPan I v s κ = some r) (hl : E0.adr.length = I.boxes.length) (hA : Aft E0 W0 E W) (hV : ArgsOK E W s.boxes [v] [y]) : RetK E0 W0 I κ r (.panicked [{ v := y, recovered := false }]) W := by
  unfold evPan at h
  split at h
  case h_2 => cases h
  rename_i p bp hp
  split at h
  case h_2 => cases h
  rename_i a ha
  split at h
  case h_2 => cases h
  rename_i b hb
  split at h
  case h_2 => cases h
  rename_i hc
  simp only [Bool.and_eq_true] at hc
  obtain ⟨c1, c2, c3⟩ := hc
  obtain ⟨a', g1, g2⟩ := parse_build _ _ _ ha
  obtain ⟨bx, k1, k2, k3⟩ := told_boxes (pw := fun _ _ => false) hV.box hV.len c3 hb
  have hle : E0.adr.length ≤ bp.length := by rw [hl]; exact Nat.le_of_ble_eq_true c1
  refine ⟨_, h, a ++ b, p, bp, a', b, bx, (E.frz bp fun _ _ => false).trunc bp.length, y, rfl, hp, g1 b, by simpa using k1 [], trunc_aft (hA.trans (frz_aft E W bp _)) hle, rfl, ?_, k2, k3, told_new hV.new⟩
  have h1 : ArgV (E.frz bp fun _ _ => false) W 0 a' y := by
    have h2 := frz_argV (pb := bp) (pw := fun _ _ => false) (p := .junk) (fun c => by
      split
      · rename_i h3; cases h3
      · rfl
      · simp [isSl]) hV.vals.1
    have h3 : Pt.frz .junk v = v := by cases v <;> rfl
    rw [h3] at h2
    exact argV_cut g2 h2
  exact ⟨trunc_argV (tk := fun _ => false) h1 (build_form bp.length (fun _ => false) p (a ++ b) a' b c2 (g1 b)), trivial⟩
theorem cell_out {P : Program} {C : Ctx} (hT : TabOK P C.D) (hR : Rep E s act W) {t ty j off : Nat} {a : AV} (hp : getT s.tmps t = .ptr j off) (h : evLoad C s ty (.ptr j off) some = some a) :
    ∃ y, (do loadVar ty (← asAddr (act.tmps.getD t undef)) : Go.Sem Value).run P W = .ok y W ∧ RepV E s W a y := by
  have h1 : evLoad C s ty (s.ev (.tmp t)) some = some a := by
    show evLoad C s ty (getT s.tmps t) some = some a
    rw [hp]; exact h
  obtain ⟨a', e, y, hy, hrun⟩ := sim_load (P := P) (o := { (default : Oper) with op := .load ty (.tmp t) }) hT hR rfl h1
  obtain rfl := Option.some.inj e
  refine ⟨y, ?_, hy⟩
  have h2 := hrun W (SameR.refl _ _ _)
  have hv := rep_ev hR (.tmp t)
  have e2 : s.ev (.tmp t) = .ptr j off := hp
  rw [e2] at hv
  obtain ⟨g, hg, hy2⟩ := hv
  have e3 : act.tmps.getD t undef = .pointer (some ⟨g, off, none⟩) := hy2
  rw [e3]
  simp only [execOp, hy2, Instr.loadAt, Instr.sureAddr, Sem.run_bind, Sem.run_pure, Result.andThen_ok] at h2
  simp only [asAddr, Sem.run_bind, Sem.run_pure, Result.andThen_ok]
  revert h2
  cases (loadVar ty ⟨g, off, none⟩).run P W with
  | ok v w => intro h2; simp [Result.andThen] at h2 ⊢; exact h2
  | halt _ _ => intro h2; simp [Result.andThen] at h2
theorem outs_rep {P : Program} {C : Ctx} (hT : TabOK P C.D) (hR : Rep E s act W) {g : ResultVar → Go.Sem Value} (hg : ∀ t, g (.tmp t) = pure (act.tmps.getD t undef)) (hc : ∀ a t, g (.cell a t) = (do loadVar t (← asAddr (act.tmps.getD a undef)))) : ∀ (rs : List ResultVar) {l : List AV}, evOuts C s rs = some l → ∃ m, All2 (RepV E s W) l m ∧ (rs.mapM g).run P W = .ok m W
  | [], l, h => by
    obtain rfl : [] = l := by simpa [evOuts] using h
    exact ⟨[], trivial, by simp [Sem.run_pure]⟩
  | .tmp t :: rs, l, h => by
    unfold evOuts at h
    split at h
    · rename_i l' hl
      obtain rfl := Option.some.inj h
      obtain ⟨m, h1, h2⟩ := outs_rep hT hR hg hc rs hl
      exact ⟨_ :: m, ⟨rep_ev hR (.tmp t), h1⟩, by simp only [List.mapM_cons, hg, Sem.run_bind, Sem.run_pure, Result.andThen_ok, h2]; rfl⟩
    · cases h
  | .cell t ty :: rs, l, h => by
    unfold evOuts at h
    split at h
    · rename_i j off hp
      split at h
      · rename_i a ha
        split at h
        · rename_i l' hl
          obtain rfl := Option.some.inj h
          obtain ⟨m, h1, h2⟩ := outs_rep hT hR hg hc rs hl
          obtain ⟨y, h3, h4⟩ := cell_out (P := P) hT hR hp ha
          exact ⟨y :: m, ⟨h4, h1⟩, by rw [List.mapM_cons, hc, Sem.run_bind, h3, Result.andThen_ok, Sem.run_bind, h2, Result.andThen_ok, Sem.run_pure]⟩
        · cases h
      · cases h
    · cases h
theorem moves_rep2 : ∀ {l l' : List AV} {s s' : St} {m : List Value}, s.moves l = some (l', s') → All2 (RepV E s0 W) l m → All2 (Rep2 E s0 W) l m
  | [], _, _, _, [], _, _ => trivial
  | a :: l, l', s, s', y :: m, h, hr => by
    simp only [St.moves] at h
    split at h
    · rename_i a' s1 h1
      split at h
      · rename_i r' s2 h2
        refine ⟨rep2_of_repV hr.1 fun cs he => ?_, moves_rep2 h2 hr.2⟩
        rw [he] at h1
        simp [St.move1, St.take1, St.take0] at h1
      · cases h
    · cases h
theorem results_array {P : Program} {g : ResultVar → Go.Sem Value} (W : World) (l : Array ResultVar) {m : List Value} (h1 : (l.toList.mapM g).run P W = .ok m W) : (l.mapM g).run P W = .ok m.toArray W := by
  rw [Array.mapM_eq_mapM_toList]
  have h2 : Sem.run P (List.mapM g l.toList >>= fun m => pure m.toArray) W = .ok m.toArray W := by
    rw [Sem.run_bind, h1, Result.andThen_ok, Sem.run_pure]
  exact h2
theorem results_run {P : Program} {C : Ctx} (hT : TabOK P C.D) (hR : Rep E s act W) {fn : Func} {l : List AV} (h : evOuts C s fn.results.toList = some l) : ∃ m v, All2 (RepV E s W) l m ∧ (results fn act.tmps).run P W = .ok v W ∧ Packed m v := by
  obtain ⟨m, h1, h2⟩ := outs_rep (P := P) hT hR (g := fun | .tmp t => pure (act.tmps.getD t undef) | .cell a t => do loadVar t (← asAddr (act.tmps.getD a undef))) (fun _ => rfl) (fun _ _ => rfl) _ h
  refine ⟨m, _, h1, ?_, rfl⟩
  unfold results
  rw [Sem.run_bind]
  refine (congrArg (fun z => Result.andThen z _) (results_array W _ h2)).trans ?_
  rw [Result.andThen_ok, Sem.run_pure]
  congr 1
  match m with
  | [] => rfl
  | [y] => rfl
  | _ :: _ :: _ => rfl
theorem ret_ok {ρ : Type} {C : Ctx} {I : Inst} {fn : Func} {κ : Out → Option ρ} {r : ρ} (h : evRet C I fn s κ = some r) (hl : E0.adr.length = I.boxes.length) (hA : Aft E0 W0 E W) (hR : Rep E s act W) (P : Program) (hT : TabOK P C.D) : ∃ v, (results fn act.tmps).run P W = .ok v W ∧ RetK E0 W0 I κ r (.returned v) W := by
  unfold evRet at h
  split at h
  case h_2 => cases h
  rename_i l hl2
  split at h
  case h_2 => cases h
  rename_i outs s1 hm
  split at h
  case h_2 => cases h
  rename_i a ha
  split at h
  case h_2 => cases h
  rename_i c hc
  split at h
  case h_2 => cases h
  rename_i hk
  simp only [Bool.and_eq_true] at hk
  obtain ⟨c1, c2, c3⟩ := hk
  obtain ⟨m, v, h1, hv1, hv2⟩ := results_run (act := act) (P := P) hT hR hl2
  refine ⟨v, hv1, _, h, ?_⟩
  obtain ⟨E1, R1, L1, Y1, V1⟩ := moves_rep l 0 E s hR (Later.refl E) (moves_rep2 hm h1) hm
  obtain ⟨outs', g1, g2⟩ := parses_builds _ _ _ ha
  have V2 := frz_args (E := E1) (W := W) (pb := I.obox) (pw := wayP I.outs outs) I.outs outs _ 0 (fun i c => by rw [Nat.zero_add]) V1
  have V3 : AllQ (ArgV (E1.frz I.obox (wayP I.outs outs)) W) 0 outs' m := cuts_allQ (fun _ _ _ _ => argV_cut) g2 V2
  obtain ⟨bx, k1, k2, k3⟩ := told_boxes (pw := wayP I.outs outs) R1.bx R1.ln c3 hc
  have hle : E0.adr.length ≤ I.obox.length := by rw [hl]; exact Nat.le_of_ble_eq_true c1
  exact ⟨a ++ c, outs', c, bx, (E1.frz I.obox (wayP I.outs outs)).trunc I.obox.length, _, rfl, g1 c, by simpa using k1 [], trunc_aft ((hA.trans (later_aft L1)).trans (frz_aft E1 W I.obox _)) hle, hv2,
    trunc_args (tk := fun _ => false) V3 (builds_form I.obox.length (fun _ => false) I.outs (a ++ c) outs' c c2 (g1 c)), k2, k3, told_new R1.new⟩
end
end Go.Proofs.YtbakkcdanoopgaaGreatDoor.Ev
set_option linter.unusedVariables false
set_option linter.unusedSimpArgs false
namespace Go.Proofs.YtbakkcdanoopgaaGreatDoor.Ev
open Go Go.RowKit Go.Proofs.YtbakkcdanoopgaaGreatDoorW.PrintWords Go.Proofs.YtbakkcdanoopgaaGreatDoorW.PrintMore Kd
def EndsAt (P : Program) (f : Nat) (R : Ending → World → Prop) (act : Act) (todo : List Item) (W : World) : Prop :=
  ∀ (b : Frame) (cs : List Frame), b.fn = f → b.kind = .normal → ∃ e w' fr, R e w' ∧ Comes P (lone (b.at act todo) cs W) (lone fr cs w') e ∧ fr.fn = f ∧ fr.leaving P w' e
end Go.Proofs.YtbakkcdanoopgaaGreatDoor.Ev
set_option linter.unusedVariables false
set_option linter.unusedSimpArgs false
namespace Go.Proofs.YtbakkcdanoopgaaGreatDoor.Ev
open Go Go.RowKit Go.Proofs.YtbakkcdanoopgaaGreatDoorW.PrintWords Go.Proofs.YtbakkcdanoopgaaGreatDoorW.PrintMore Kd
section
variable {P : Program} {f : Nat} {R : Ending → World → Prop} {act act' : Act} {todo todo' : List Item} {W W' : World}
theorem EndsAt.step (h : EndsAt P f R act' todo' W') (hs : ∀ (b : Frame) (cs : List Frame), Go.step P (lone (b.at act todo) cs W) = .next (lone (b.at act' todo') cs W')) : EndsAt P f R act todo W := fun b cs h1 h2 => by
  obtain ⟨e, w', fr, g1, g2, g3⟩ := h b cs h1 h2
  exact ⟨e, w', fr, g1, g2.of_steps (.one (hs b cs)), g3⟩
theorem EndsAt.region {id : Nat} {ops : Array Oper} {draw : Bool} {k : List Item} {fn : Func} (hf : P.funcs[f]? = some fn) (h : (Code.region id ops draw).wp P (fun e a w => match e with
    | .normal => EndsAt P f R a k w
    | .panic chain => a.defers = [] ∧ R (.panicked chain) w
    | _ => False) act W) : EndsAt P f R act (.code (.region id ops draw) :: k) W := fun b cs h1 h2 => by
  obtain ⟨e, a', w', hq, harr⟩ := h b k cs
  cases e with
  | normal =>
    obtain ⟨e, w2, fr, g1, g2, g3⟩ := hq b cs h1 h2
    exact ⟨e, w2, fr, g1, g2.of_steps harr, g3⟩
  | panic chain =>
    obtain ⟨todo, hs⟩ := harr
    exact ⟨.panicked chain, w', _, hq.2, hs, h1, rfl, hq.1, fn, by show P.funcs[b.fn]? = _; rw [h1]; exact hf⟩
  | _ => exact hq.elim
theorem EndsAt.ret {v : Value} {fn : Func} (hf : P.funcs[f]? = some fn) (hd : act.defers = []) (hv : (results fn act.tmps).run P W = .ok v W) (hR : R (.returned v) W) (ht : todo = [] ∨ ∃ k, todo = .code .ret :: k) : EndsAt P f R act todo W := fun b cs h1 h2 => by
  have hs : Go.step P (lone (b.at act todo) cs W) = .next (lone { b.at act todo with mode := .returning } cs W) := by
    rcases ht with rfl | ⟨k, rfl⟩
    · exact step_end
    · exact step_ret
  exact ⟨.returned v, W, _, hR, .one hs, h1, rfl, hd, h2, fn, by show P.funcs[b.fn]? = _; rw [h1]; exact hf, hv⟩
end
end Go.Proofs.YtbakkcdanoopgaaGreatDoor.Ev
set_option linter.unusedVariables false
set_option linter.unusedSimpArgs false
namespace Go.Proofs.YtbakkcdanoopgaaGreatDoor.Ev
open Go Go.RowKit Go.Proofs.YtbakkcdanoopgaaGreatDoorW.PrintWords Go.Proofs.YtbakkcdanoopgaaGreatDoorW.PrintMore Kd
def regs : Code → List Nat
  | .region j _ _ => [j]
  | .seq a b => regs a ++ regs b
  | .cond _ a b => regs a ++ regs b
  | .block _ c => regs c
  | .loop c => regs c
  | _ => []
theorem findC_regs {id : Nat} : ∀ {c : Code} {k l : List Item}, findC id c k = some l → id ∈ regs c
  | .region j ops d, k, l, h => by
    unfold findC at h
    split at h
    · rename_i hb; rw [Nat.eq_of_beq_eq_true hb]; simp [regs]
    · cases h
  | .seq a b, k, l, h => by
    unfold findC at h
    split at h
    · rename_i l' h1; exact List.mem_append_left _ (findC_regs h1)
    · exact List.mem_append_right _ (findC_regs h)
  | .cond x a b, k, l, h => by
    unfold findC at h
    split at h
    · rename_i l' h1; exact List.mem_append_left _ (findC_regs h1)
    · exact List.mem_append_right _ (findC_regs h)
  | .block j c, k, l, h => by unfold findC at h; exact findC_regs (c := c) h
  | .loop c, k, l, h => by unfold findC at h; exact findC_regs (c := c) h
  | .skip, _, _, h => by cases h
  | .rangeFunc .., _, _, h => by cases h
  | .exit _, _, _, h => by cases h
  | .scope _, _, _, h => by cases h
  | .label _, _, _, h => by cases h
  | .goto _, _, _, h => by cases h
  | .ret, _, _, h => by cases h
  | .refuse _, _, _, h => by cases h
def Inv (body : Code) : List Item → Prop
  | [] => True
  | .code c :: k => ((regs c).Nodup ∧ ∀ id l, findC id c k = some l → findC id body [] = some l) ∧ Inv body k
  | .inLoop c :: k => ((regs c).Nodup ∧ ∀ id l, findC id c (.inLoop c :: k) = some l → findC id body [] = some l) ∧ Inv body k
  | _ :: k => Inv body k
theorem Inv.exits {body : Code} {id : Nat} : ∀ {k k' : List Item}, Inv body k → exits id k = some k' → Inv body k'
  | [], _, _, h => by cases h
  | x :: k, k', hI, h => by
    have hk : Inv body k := by cases x <;> first | exact hI.2 | exact hI
    cases x with
    | inBlock j =>
      unfold Ev.exits at h
      split at h
      · exact Option.some.inj h ▸ hk
      · exact hk.exits h
    | _ => unfold Ev.exits at h; exact hk.exits h
theorem Inv.two {body a b : Code} {k ka kb : List Item} (hn : (regs a ++ regs b).Nodup) (ha : ∀ id l, findC id a ka = some l → findC id body [] = some l) (hb : ∀ id l, findC id a ka = none → findC id b kb = some l → findC id body [] = some l) :
    ((regs a).Nodup ∧ ∀ id l, findC id a ka = some l → findC id body [] = some l) ∧ ((regs b).Nodup ∧ ∀ id l, findC id b kb = some l → findC id body [] = some l) := by
  obtain ⟨h1, h2, h3⟩ := List.nodup_append.mp hn
  refine ⟨⟨h1, ha⟩, h2, fun id l h => hb id l ?_ h⟩
  cases hc : findC id a ka with
  | none => rfl
  | some l' => exact absurd rfl (h3 id (findC_regs hc) id (findC_regs h))
theorem Inv.seq {body a b : Code} {k : List Item} (h : Inv body (.code (.seq a b) :: k)) : Inv body (.code a :: .code b :: k) := by
  obtain ⟨⟨h1, h2⟩, h3⟩ := h
  obtain ⟨g1, g2⟩ := Inv.two (body := body) (k := k) (ka := .code b :: k) (kb := k) h1 (fun id l hf => h2 id l (by unfold findC; rw [hf])) (fun id l hn hf => h2 id l (by unfold findC; rw [hn]; exact hf))
  exact ⟨g1, g2, h3⟩
theorem Inv.cond {body a b : Code} {x : Operand} {k : List Item} (h : Inv body (.code (.cond x a b) :: k)) : Inv body (.code a :: k) ∧ Inv body (.code b :: k) := by
  obtain ⟨⟨h1, h2⟩, h3⟩ := h
  obtain ⟨g1, g2⟩ := Inv.two (body := body) (k := k) (ka := k) (kb := k) h1 (fun id l hf => h2 id l (by unfold findC; rw [hf])) (fun id l hn hf => h2 id l (by unfold findC; rw [hn]; exact hf))
  exact ⟨⟨g1, h3⟩, g2, h3⟩
theorem Inv.block {body c : Code} {j : Nat} {k : List Item} (h : Inv body (.code (.block j c) :: k)) : Inv body (.code c :: .inBlock j :: k) :=
  ⟨⟨h.1.1, fun id l hf => h.1.2 id l (by unfold findC; exact hf)⟩, h.2⟩
theorem Inv.loop {body c : Code} {k : List Item} (h : Inv body (.code (.loop c) :: k)) : Inv body (.code c :: .inLoop c :: k) :=
  ⟨⟨h.1.1, fun id l hf => h.1.2 id l (by unfold findC; exact hf)⟩, ⟨h.1.1, fun id l hf => h.1.2 id l (by unfold findC; exact hf)⟩, h.2⟩
theorem Inv.again {body c : Code} {k : List Item} (h : Inv body (.inLoop c :: k)) : Inv body (.code c :: .inLoop c :: k) := ⟨h.1, h⟩
theorem Inv.find {body : Code} {id : Nat} : ∀ {c : Code} {k l : List Item}, Inv body (.code c :: k) → findC id c k = some l → Inv body l
  | .region j ops d, k, l, hI, h => by
    unfold findC at h
    split at h
    · exact Option.some.inj h ▸ hI
    · cases h
  | .seq a b, k, l, hI, h => by
    have h1 := hI.seq
    unfold findC at h
    split at h
    · rename_i l' hl; exact Option.some.inj h ▸ Inv.find h1 hl
    · exact Inv.find h1.2 h
  | .cond x a b, k, l, hI, h => by
    have h1 := hI.cond
    unfold findC at h
    split at h
    · rename_i l' hl; exact Option.some.inj h ▸ Inv.find h1.1 hl
    · exact Inv.find h1.2 h
  | .block j c, k, l, hI, h => by unfold findC at h; exact Inv.find hI.block h
  | .loop c, k, l, hI, h => by unfold findC at h; exact Inv.find hI.loop h
  | .skip, _, _, _, h => by cases h
  | .rangeFunc .., _, _, _, h => by cases h
  | .exit _, _, _, _, h => by cases h
  | .scope _, _, _, _, h => by cases h
  | .label _, _, _, _, h => by cases h
  | .goto _, _, _, _, h => by cases h
  | .ret, _, _, _, h => by cases h
  | .refuse _, _, _, _, h => by cases h
theorem Inv.start {body : Code} (h : (regs body).Nodup) : Inv body [.code body] := ⟨⟨h, fun _ _ h => h⟩, trivial⟩
theorem Inv.here {body : Code} {id : Nat} {ops : Array Oper} {d : Bool} {k : List Item} (h : Inv body (.code (.region id ops d) :: k)) : findC id body [] = some (.code (.region id ops d) :: k) :=
  h.1.2 id _ (by unfold findC; rw [show Nat.beq id id = true from Nat.beq_refl id])
theorem exits_eq (id : Nat) : ∀ k : List Item, exits id k = exitTo id k
  | [] => rfl
  | x :: k => by
    cases x with
    | inBlock j =>
      unfold exits exitTo
      rw [exits_eq id k]
      by_cases h : j = id
      · subst h; simp
      · rw [beq_false h]; simp [h]
    | _ => unfold exits exitTo; exact exits_eq id k
end Go.Proofs.YtbakkcdanoopgaaGreatDoor.Ev
set_option linter.unusedVariables false
set_option linter.unusedSimpArgs false
namespace Go.Proofs.YtbakkcdanoopgaaGreatDoor.Ev
open Go Go.RowKit Go.Proofs.YtbakkcdanoopgaaGreatDoorW.PrintWords Go.Proofs.YtbakkcdanoopgaaGreatDoorW.PrintMore Kd
section
variable {E E' E0 : Env} {s s' s0 : St} {act : Act} {W W' W0 : World} {n : Nat} {tk : Nat → Bool}
theorem stop_rep1 {pb : List (List Pt)} {pw : Nat → Nat → Bool} {a : AV} {y : Value} (h : Rep1 E s W a y) (hf : form n tk a) (ht : ∀ d, tk d = true → s'.toks d ≠ .junk) : Rep1 ((E.frz pb pw).trunc n) s' W a y := by
  cases a with
  | sl m e t xs =>
    cases m with
    | none => obtain ⟨A, c, h1, h2, h3⟩ := h; exact ⟨A, c, h1, h2, F_mono h3 fun k hk => frz_free hk⟩
    | some q => exact hf.elim
  | ptr j off => obtain ⟨g, h1, h2⟩ := h; exact ⟨g, trunc_adr (E := E.frz pb pw) h1 hf, h2⟩
  | rt q =>
    cases q with
    | tok d => exact ⟨h.1, ht d hf⟩
    | cell j c => exact hf.elim
  | fn f first l =>
    obtain ⟨fs, cs, h1, h2, h3⟩ := h
    obtain ⟨hk, hl⟩ := hf
    exact ⟨fs, cs, h1, trunc_all (h2.imp fun _ _ _ => frz_repS) hk, trunc_all (h3.imp fun _ _ _ => frz_repS) hl⟩
  | junk => trivial
  | v x => exact h
  | _ => first | exact h.elim | exact hf.elim
theorem stop_cells {pb : List (List Pt)} {pw : Nat → Nat → Bool} (ht : ∀ d, tk d = true → s'.toks d ≠ .junk) : ∀ {l : List AV} {m : List Value}, All2 (Rep1 E s W) l m → forms n tk l → All2 (Rep1 ((E.frz pb pw).trunc n) s' W) l m
  | [], [], _, _ => trivial
  | a :: l, y :: m, h, hf => ⟨stop_rep1 h.1 hf.1 ht, stop_cells ht h.2 hf.2⟩
theorem stop_rep2 {pb : List (List Pt)} {pw : Nat → Nat → Bool} {a : AV} {y : Value} (h : Rep2 E s W a y) (hf : form n tk a) (ht : ∀ d, tk d = true → s'.toks d ≠ .junk) : Rep2 ((E.frz pb pw).trunc n) s' W a y := by
  by_cases hc : ∃ cs, a = .agg cs
  · obtain ⟨cs, rfl⟩ := hc
    obtain ⟨vs, h1, h2⟩ := h
    exact ⟨vs, h1, stop_cells ht h2 hf⟩
  · exact rep2_of_rep1 (stop_rep1 (rep1_of_rep2 h fun cs he => hc ⟨cs, he⟩) hf ht)
theorem stop_vals {pb : List (List Pt)} {pw : Nat → Nat → Bool} (ht : ∀ d, tk d = true → s'.toks d ≠ .junk) : ∀ {l : List AV} {m : List Value}, All2 (Rep2 E s W) l m → forms n tk l → All2 (Rep2 ((E.frz pb pw).trunc n) s' W) l m
  | [], [], _, _ => trivial
  | a :: l, y :: m, h, hf => ⟨stop_rep2 h.1 hf.1 ht, stop_vals ht h.2 hf.2⟩
theorem stop_repV {pb : List (List Pt)} {pw : Nat → Nat → Bool} {a : AV} {y : Value} (h : RepV E s W a y) (hf : form n tk a) (ht : ∀ d, tk d = true → s'.toks d ≠ .junk) : RepV ((E.frz pb pw).trunc n) s' W a y := by
  by_cases hc : ∃ cs, a = .tup cs
  · obtain ⟨cs, rfl⟩ := hc
    obtain ⟨vs, h1, h2⟩ := h
    exact ⟨vs, h1, stop_vals ht h2 hf⟩
  · have hn : ∀ cs, a ≠ .tup cs := fun cs he => hc ⟨cs, he⟩
    exact repV_of_rep2 (stop_rep2 (rep2_of_repV h hn) hf ht) hn
theorem blank_rep : ∀ (n : Nat) (m : List Value), m.length = n → All2 (RepV E s W) (blank n) m
  | 0, [], _ => trivial
  | n + 1, y :: m, h => ⟨trivial, blank_rep n m (by simpa using h)⟩
theorem tm_rep {R : AV → Value → Prop} {n : Nat} {tk : Nat → Bool} {old : List AV} {vals : List Value} (hR : ∀ (t : Nat) (a a' : AV) (y : Value), getT old t = a → vals[t]? = some y → Cut a a' → form n tk a' → R a' y) :
    ∀ (ps : List (Nat × Pt)) (l : List AV) (h : List HV), parseTm ps old = some h → Pt.okPs n tk (ps.map (·.2)) = true → All2 R l vals → ∃ l', (∀ r, buildTm ps l (h ++ r) = some (l', r)) ∧ All2 R l' vals
  | [], l, h, hp, ok, hl => by
    obtain rfl : [] = h := by simpa [parseTm] using hp
    exact ⟨l, fun r => rfl, hl⟩
  | p :: ps, l, h, hp, ok, hl => by
    unfold parseTm at hp
    split at hp
    case h_2 => cases hp
    rename_i h1 hh1
    split at hp
    case h_2 => cases hp
    rename_i h2 hh2
    obtain rfl := Option.some.inj hp
    have ok' : (Pt.okP n tk p.2 && Pt.okPs n tk (ps.map (·.2))) = true := ok
    simp only [Bool.and_eq_true] at ok'
    obtain ⟨a', g1, g2⟩ := parse_build _ _ _ hh1
    have hf := build_form n tk p.2 h1 a' [] ok'.1 (by simpa using g1 [])
    obtain ⟨l', k1, k2⟩ := tm_rep hR ps (setT l p.1 a') h2 hh2 ok'.2 (by
      rw [setT_eq]
      refine All2.of_get (by rw [List.length_set]; exact hl.len) fun i b y hb hy => ?_
      rw [List.getElem?_set] at hb
      split at hb
      · rename_i hi
        subst hi
        split at hb
        · obtain rfl := Option.some.inj hb
          exact hR p.1 _ a' y rfl hy g2 hf
        · cases hb
      · obtain ⟨y', h3, h4⟩ := hl.get hb
        rw [hy] at h3
        exact Option.some.inj h3 ▸ h4)
    refine ⟨l', fun r => ?_, k2⟩
    unfold buildTm
    rw [List.append_assoc, g1 (h2 ++ r)]
    exact k1 r
theorem tk_rep : ∀ (ps : List (Nat × Nat × Ty)) (g : Nat → AV) (h : List HV), parseTk ps g = some h → ∃ l, (∀ r, buildTk ps (h ++ r) = some (l, r)) ∧ (∀ d, inTk ps d = true → ∃ e t xs, l d = .own e t xs ∧ g d = .own e t xs) ∧ ∀ d, inTk ps d = false → l d = .junk
  | [], g, h, hp => by
    obtain rfl : [] = h := by simpa [parseTk] using hp
    exact ⟨noTok, fun r => rfl, fun d hd => absurd hd (by simp [inTk]), fun _ _ => rfl⟩
  | p :: ps, g, h, hp => by
    unfold parseTk at hp
    split at hp
    case h_2 => cases hp
    rename_i e t xs hg
    split at hp
    case isFalse => cases hp
    rename_i he
    split at hp
    case isFalse => cases hp
    rename_i ht
    split at hp
    case h_2 => cases hp
    rename_i h2 hh2
    obtain rfl := Option.some.inj hp
    obtain ⟨l, k1, k2, k3⟩ := tk_rep ps g h2 hh2
    refine ⟨tokSet l p.1 (.own e t xs), fun r => ?_, fun d hd => ?_, fun d hd => ?_⟩
    · show (if e = p.2.1 then (if t = p.2.2 then (match buildTk ps (h2 ++ r) with | some (l, h') => some (tokSet l p.1 (.own e t xs), h') | none => none) else none) else none) = _
      rw [if_pos he, if_pos ht, k1 r]
    · by_cases hpd : d = p.1
      · subst hpd
        exact ⟨e, t, xs, tokSet_self _ _ _, hg⟩
      · rw [tokSet_ne _ _ hpd]
        refine k2 d ?_
        unfold inTk at hd
        rw [beq_false fun h => hpd h.symm] at hd
        exact hd
    · unfold inTk at hd
      split at hd
      · cases hd
      · rename_i hb
        have hpd : d ≠ p.1 := fun h => by rw [h, show Nat.beq p.1 p.1 = true from Nat.beq_refl _] at hb; cases hb
        rw [tokSet_ne _ _ hpd]
        exact k3 d hd
theorem stop_state (hR : Rep E s act W) {S : Sh} {hs : List HV} (h : S.parse s = some hs) (hn : act.tmps.size = n) : ∃ s' E', S.build n hs = some s' ∧ Rep E' s' act W ∧ S.boxes.length ≤ E.adr.length ∧ E' = (E.frz S.boxes fun _ _ => false).trunc S.boxes.length := by
  unfold Sh.parse at h
  split at h
  case h_2 => cases h
  rename_i hok
  split at h
  case h_2 => cases h
  rename_i a ha
  split at h
  case h_2 => cases h
  rename_i b hb
  split at h
  case h_2 => cases h
  rename_i c hc
  obtain rfl := Option.some.inj h
  unfold Sh.ok at hok
  simp only [Bool.and_eq_true] at hok
  obtain ⟨tk1, q1, q2, q3⟩ := tk_rep _ _ _ hb
  obtain ⟨bx, k1, k2, k3⟩ := told_boxes (pw := fun _ _ => false) hR.bx hR.ln hok.2 hc
  have ht : ∀ (s' : St), s'.toks = tk1 → ∀ d, inTk S.toks d = true → s'.toks d ≠ .junk := fun s' hs d hd => by
    obtain ⟨e, t, xs, h1, -⟩ := q2 d hd
    rw [hs, h1]
    simp
  have hle : S.boxes.length ≤ E.adr.length := by
    obtain ⟨bs', -, g2, g3, -⟩ := parseB_build _ _ _ hc
    rw [(frzB_get S.boxes s.boxes).1, hR.ln] at g3
    exact g3
  obtain ⟨tm1, r1, r2⟩ := tm_rep (R := RepV ((E.frz S.boxes fun _ _ => false).trunc S.boxes.length) ⟨[], tk1, bx⟩ W) (n := S.boxes.length) (tk := inTk S.toks) (old := s.tmps) (vals := act.tmps.toList) (fun t a a' y h1 h2 h3 h4 => by
    have h5 := rep_ev hR (.tmp t)
    have e1 : s.ev (.tmp t) = a := h1
    have e2 : act.eval (.tmp t) = y := by
      show act.tmps.getD t undef = y
      rw [Array.getD_eq_getD_getElem?]
      have : act.tmps[t]? = some y := by simpa using h2
      rw [this]; rfl
    rw [e1, e2] at h5
    exact stop_repV (repV_cut h3 h5) h4 (ht _ rfl)) S.tmps (blank n) a ha hok.1 (blank_rep n _ (by simpa using hn))
  refine ⟨⟨tm1, tk1, bx⟩, _, ?_, ?_, hle, rfl⟩
  · unfold Sh.build
    rw [r1 (b ++ c)]
    dsimp only
    rw [q1 c]
    dsimp only
    have := k1 []
    rw [List.append_nil] at this
    rw [this]
  · refine ⟨r2.imp fun a y _ h => repV_keep (fun a y h => rep1_tmps (t := tm1) h) h, fun d => ?_, k2, k3, told_new hR.new⟩
    cases hd : inTk S.toks d with
    | true =>
      obtain ⟨e, t, xs, h1, h2⟩ := q2 d hd
      show Tok _ _ _ d (tk1 d)
      rw [h1]
      have h3 := hR.tk d
      rw [h2] at h3
      refine R_mono h3 fun k hk => ?_
      show (E.frz S.boxes fun _ _ => false).own k = _
      unfold Env.frz Env.ren
      simp only [show E.own k = .tok d from hk]
    | false =>
      show Tok _ _ _ d (tk1 d)
      rw [q3 d hd]
      trivial
end
end Go.Proofs.YtbakkcdanoopgaaGreatDoor.Ev
set_option linter.unusedVariables false
set_option linter.unusedSimpArgs false
namespace Go.Proofs.YtbakkcdanoopgaaGreatDoor.Ev
open Go Go.RowKit Go.Proofs.YtbakkcdanoopgaaGreatDoorW.PrintWords Go.Proofs.YtbakkcdanoopgaaGreatDoorW.PrintMore Kd
def StopP [Bgs] {ρ : Type} (P : Program) (F : Fns) (f i id : Nat) (hs : List HV) (κ : Out → Option ρ) (r : ρ) : Prop :=
  ∀ I S fn body s todo, (F.insts f)[i]? = some I → F.fn f = some fn → fn.body = some body → findSh I.stops id = some S → S.build fn.ntmps hs = some s → findC id body [] = some todo → ∀ E0 W0 E W act, E0.adr.length = I.boxes.length → Aft E0 W0 E W → BgOK E0 W0 → Rep E s act W → act.defers = [] → act.tmps.size = fn.ntmps → EndsAt P f (RetK E0 W0 I κ r) act todo W
def StopOK [Bgs] {ρ : Type} (P : Program) (F : Fns) (sem : Sem ρ) : Prop := ∀ f i id hs (κ : Out → Option ρ) (r : ρ), sem f i (id + 1) hs κ = some r → StopP P F f i id hs κ r
structure FnsOK (P : Program) (F : Fns) : Prop where
  fn : ∀ f fn, F.fn f = some fn → P.funcs[f]? = some fn ∧ (fn.name == "runtime.NumGoroutine") = false
  nodup : ∀ f fn body, F.fn f = some fn → fn.body = some body → (regs body).Nodup
end Go.Proofs.YtbakkcdanoopgaaGreatDoor.Ev
set_option linter.unusedVariables false
set_option linter.unusedSimpArgs false
namespace Go.Proofs.YtbakkcdanoopgaaGreatDoor.Ev
open Go Go.RowKit Go.Proofs.YtbakkcdanoopgaaGreatDoorW.PrintWords Go.Proofs.YtbakkcdanoopgaaGreatDoorW.PrintMore Kd
section
variable {P : Program} {E E' E0 : Env} {s s' : St} {act : Act} {W W' W0 : World} {ρ : Type} {C : Ctx} {r : ρ} {F : Fns} {sem : Sem ρ} {f i : Nat} {I : Inst} {fn : Func} {body : Code} {κ : Out → Option ρ}
theorem rep_drawn (hR : Rep E s act W) : Rep E s act { W with drawn := W.drawn + 1 } :=
  hR.go (φ := fun a => a) (bad := fun _ => False) ⟨fun _ _ _ => ⟨rfl, rfl⟩, ⟨[], by simp⟩, rfl⟩ (fun h => h) (fun a y h => (Move.rep1 (s' := s) (bad := fun _ => False) (E' := E) ⟨fun _ _ _ => ⟨rfl, rfl⟩, ⟨[], by simp⟩, rfl⟩ (fun h => h) (fun q _ => ⟨fun h => h, fun y hy => ⟨by cases q <;> exact hy, fun _ _ _ h => h⟩⟩) h)) (map_none (fun _ => rfl) _).symm
    (fun n => .inl ⟨by cases s.toks n with | lit e t rows => (show AV.lit e t rows = AV.lit e t (mapR (fun a => a) rows)); rw [mapR_id (f := fun a => a) fun _ => rfl] | _ => rfl, fun h => h, rfl⟩) (fun j cs hj => .inl ⟨hj, fun h => h, fun _ h => h⟩) hR.ln hR.new
theorem evT_rep [Bgs] [WrFact P C] (hB : BgOK E0 W0) (hT : TabOK P C.D) (hm : P.follows .mixedOrders = true) (hsem : SemOK P F.insts sem) (hstop : StopOK P F sem) (hfn : P.funcs[f]? = some fn) (hF : F.fn f = some fn) (hbody : fn.body = some body) (hI : (F.insts f)[i]? = some I) :
    ∀ (n : Nat) (first : Bool) (todo : List Item) (s : St), evT C F.insts sem f i I fn n first todo s κ = some r → Inv body todo → ∀ E W act, E0.adr.length = I.boxes.length → Aft E0 W0 E W → Rep E s act W → act.defers = [] → act.tmps.size = fn.ntmps → EndsAt P f (RetK E0 W0 I κ r) act todo W := by
  intro n
  induction n with
  | zero => intro first todo s h; unfold evT at h; cases h
  | succ n ih =>
    intro first todo s h hInv E W act hl hA hR hd hsz
    unfold evT at h
    split at h
    · obtain ⟨v, h1, h2⟩ := ret_ok h hl hA hR P hT
      exact EndsAt.ret hfn hd h1 h2 (.inl rfl)
    · obtain ⟨v, h1, h2⟩ := ret_ok h hl hA hR P hT
      exact EndsAt.ret hfn hd h1 h2 (.inr ⟨_, rfl⟩)
    · exact (ih false _ s h hInv.2 E W act hl hA hR hd hsz).step fun b cs => step_skip
    · exact (ih false _ s h hInv.2 E W act hl hA hR hd hsz).step fun b cs => step_label
    · exact (ih false _ s h hInv E W act hl hA hR hd hsz).step fun b cs => step_inBlock
    · exact (ih first _ s h hInv.seq E W act hl hA hR hd hsz).step fun b cs => step_seq
    · rename_i c x y k
      split at h
      · rename_i t hc
        have he := ev_v hR hc
        cases t with
        | true => exact (ih false _ s h hInv.cond.1 E W act hl hA hR hd hsz).step fun b cs => step_cond he
        | false => exact (ih false _ s h hInv.cond.2 E W act hl hA hR hd hsz).step fun b cs => step_cond he
      · cases h
    · exact (ih first _ s h hInv.block E W act hl hA hR hd hsz).step fun b cs => step_block
    · exact (ih first _ s h hInv.loop E W act hl hA hR hd hsz).step fun b cs => step_loop
    · exact (ih false _ s h hInv.again E W act hl hA hR hd hsz).step fun b cs => step_inLoop
    · rename_i id k
      split at h
      · rename_i k' hk
        exact (ih false _ s h (hInv.2.exits hk) E W act hl hA hR hd hsz).step fun b cs => step_exit (by rw [← exits_eq]; exact hk)
      · cases h
    · rename_i id ops draw k
      -- behind the region
      have next : ∀ E' s' act' W', evT C F.insts sem f i I fn n false k s' κ = some r → Rep E' s' act' W' → Aft E W E' W' → Like act act' → EndsAt P f (RetK E0 W0 I κ r) act' k W' := fun E' s' act' W' h1 h2 h3 h4 =>
        ih false k s' h1 hInv.2 E' W' act' hl (hA.trans h3) h2 (h4.1.trans hd) (h4.2.trans hsz)
      have out : ∀ E' s' a' y' (act' : Act) W', evPan I a' s' κ = some r → Aft E W E' W' → ArgsOK E' W' s'.boxes [a'] [y'] → Like act act' → act'.defers = [] ∧ RetK E0 W0 I κ r (.panicked [{ v := y', recovered := false }]) W' := fun E' s' a' y' act' W' h1 h2 h3 h4 =>
        ⟨h4.1.trans hd, pan_ok h1 hl (hA.trans h2) h3⟩
      split at h
      · rename_i S hS
        split at h
        · rename_i hle
          split at h
          · rename_i hs hp
            obtain ⟨E1, R1, L1, -, -⟩ := frzRs_rep (frzT S.tmps s.tmps) hR
            obtain ⟨s', E', g1, g2, g3, rfl⟩ := stop_state R1 hp hsz
            have hle2 : E0.adr.length ≤ S.boxes.length := by rw [hl]; exact Nat.le_of_ble_eq_true hle
            exact hstop f i id hs κ r h I S fn body s' _ hI hF hbody hS g1 hInv.here E0 W0 _ W act hl (trunc_aft ((hA.trans (later_aft L1)).trans (frz_aft E1 W S.boxes _)) hle2) hB g2 hd hsz
          · cases h
        · cases h
      · refine EndsAt.region hfn ?_
        split at h
        · split at h
          · rename_i l hpl
            refine wp_region_any hm ?_
            have hA' : Aft E W E { W with drawn := W.drawn + 1 } := ⟨rfl, rfl, rfl, Nat.le_refl _, fun _ _ _ => ⟨rfl, rfl⟩, ⟨[], by simp⟩, rfl⟩
            exact draw_rep hT hsem hpl (rep_drawn hR) ((hB.aft hA).aft hA') h _ (fun c a w d v h => ⟨by have := h.1; cases d <;> exact this, h.2⟩) (fun E' s' act' W' h1 h2 h3 h4 => next E' s' act' W' h1 h2 (hA'.trans h3) h4) (fun E' s' a' y' act' W' h1 h2 h3 h4 => out E' s' a' y' act' W' h1 (hA'.trans h2) h3 h4)
          · cases h
        · refine wp_region_list ?_
          exact ops_rep hT hsem ops.toList hR (hB.aft hA) h _ (fun E' s' act' W' h1 h2 h3 h4 => next E' s' act' W' h1 h2 h3 h4) (fun E' s' a' y' act' W' h1 h2 h3 h4 => out E' s' a' y' act' W' h1 h2 h3 h4)
    · cases h
end
end Go.Proofs.YtbakkcdanoopgaaGreatDoor.Ev
set_option linter.unusedVariables false
set_option linter.unusedSimpArgs false
namespace Go.Proofs.YtbakkcdanoopgaaGreatDoor.Ev
open Go Go.RowKit Go.Proofs.YtbakkcdanoopgaaGreatDoorW.PrintWords Go.Proofs.YtbakkcdanoopgaaGreatDoorW.PrintMore Kd
section
variable {P : Program} {ρ : Type} {C : Ctx} {F : Fns} {ext : Nat → Nat → List HV → (Out → Option ρ) → Option ρ}
theorem allQ_rep2 {E : Env} {s : St} {W : World} : ∀ {l : List AV} {m : List Value}, All2 (Rep2 E s W) l m → All2 (RepV E s W) l m
  | [], [], _ => trivial
  | a :: l, y :: m, h => ⟨repV_of_rep2 h.1 fun cs he => by have := h.1; rw [he] at this; exact this, allQ_rep2 h.2⟩
theorem start_rep [Bgs] [WrFact P C] (hT : TabOK P C.D) (hm : P.follows .mixedOrders = true) (hF : FnsOK P F) {sem : Sem ρ} (hsem : SemOK P F.insts sem) (hstop : StopOK P F sem) {f i : Nat} {hs : List HV} {κ : Out → Option ρ} {r : ρ} (h : evStart C F sem f i 0 hs κ = some r) : FunP P F.insts f i hs κ r := by
  unfold evStart at h
  split at h
  case h_2 => cases h
  rename_i fn hfn
  split at h
  case h_2 => cases h
  rename_i body hbody
  split at h
  case h_2 => cases h
  rename_i I hI
  dsimp only at h
  split at h
  case h_2 => cases h
  rename_i args h1 hb1
  split at h
  case h_2 => cases h
  rename_i bx hb2
  split at h
  case h_2 => cases h
  rename_i l s hset
  split at h
  case h_2 => cases h
  rename_i hnt
  have hnt := Nat.le_of_ble_eq_true hnt
  obtain ⟨p1, p2⟩ := hF.fn f fn hfn
  refine ⟨⟨fn, p1, by rw [hbody]; rfl, p2⟩, fun I' args' h1' bx' hI' hb1' hb2' E W vals hok hB => ?_⟩
  obtain rfl : I = I' := by rw [hI] at hI'; exact Option.some.inj hI'
  rw [hb1] at hb1'
  simp only [Option.some.injEq, Prod.mk.injEq] at hb1'
  obtain ⟨rfl, rfl⟩ := hb1'
  rw [hb2] at hb2'
  simp only [Option.some.injEq, Prod.mk.injEq, and_true] at hb2'
  subst hb2'
  have R0 : Rep E ⟨[], noTok, bx⟩ ⟨#[], []⟩ W := ⟨trivial, fun n => trivial, hok.box, hok.len, hok.new⟩
  obtain ⟨E1, k1, k2, k3, k4, k5, k6⟩ := settles_rep 1000000000 args 0 500000 R0 hok.vals hset
  have hlen : l.length = vals.length := k3.len
  have R1 : Rep E1 { s with tmps := l ++ blank (fn.ntmps - l.length) } { tmps := vals.toArray ++ Array.replicate (fn.ntmps - vals.toArray.size) undef, defers := [] } W := by
    refine ⟨?_, fun n => tok_tmps (k1.tk n), k1.bx, k1.ln, k1.new⟩
    have h3 : All2 (RepV E1 s W) (l ++ blank (fn.ntmps - l.length)) (vals ++ List.replicate (fn.ntmps - vals.length) undef) :=
      (allQ_rep2 k3).append (blank_rep _ _ (by rw [List.length_replicate, hlen]))
    have h4 := h3.imp (R' := RepV E1 { s with tmps := l ++ blank (fn.ntmps - l.length) } W) fun a y _ h => repV_keep (fun a y h => rep1_tmps h) h
    simpa using h4
  have hbl : E.adr.length = I.boxes.length := by rw [← hok.len]; exact buildB_len _ _ _ _ hb2
  have key := fun (hsz : (vals.toArray ++ Array.replicate (fn.ntmps - vals.toArray.size) undef).size = fn.ntmps) => evT_rep hB hT hm hsem hstop p1 hfn hbody hI 400 false [.code body] _ h (Inv.start (hF.nodup f fn body hfn hbody)) E1 W _ hbl (landed_aft k2.toLanded) R1 rfl hsz
  intro cs
  have henter : Frame.enter P f vals.toArray .normal = ({ (default : Frame) with fn := f, kind := .normal } : Frame).at { tmps := vals.toArray ++ Array.replicate (fn.ntmps - vals.toArray.size) undef, defers := [] } [.code body] := by
    simp [Frame.enter, Frame.at, p1, hbody]
  rw [henter]
  refine key ?_ _ cs rfl rfl
  simp
  omega
theorem stop_start [Bgs] [WrFact P C] (hT : TabOK P C.D) (hm : P.follows .mixedOrders = true) (hF : FnsOK P F) {sem : Sem ρ} (hsem : SemOK P F.insts sem) (hstop : StopOK P F sem) {f i id : Nat} {hs : List HV} {κ : Out → Option ρ} {r : ρ} (h : evStart C F sem f i (id + 1) hs κ = some r) : StopP P F f i id hs κ r := by
  intro I S fn body s todo hI hfn hbody hS hb ht E0 W0 E W act hl hA hB hR hd hsz
  unfold evStart at h
  rw [hfn] at h
  dsimp only at h
  rw [hbody] at h
  dsimp only at h
  rw [hI] at h
  dsimp only at h
  rw [hS] at h
  dsimp only at h
  rw [hb] at h
  dsimp only at h
  rw [ht] at h
  dsimp only at h
  exact evT_rep hB hT hm hsem hstop (hF.fn f fn hfn).1 hfn hbody hI 400 true todo s h (Inv.find (Inv.start (hF.nodup f fn body hfn hbody)) ht) E W act hl hA hR hd hsz
end
end Go.Proofs.YtbakkcdanoopgaaGreatDoor.Ev
set_option linter.unusedVariables false
namespace Go.Proofs.YtbakkcdanoopgaaGreatDoor.Ev
open Go Go.RowKit Go.Proofs.YtbakkcdanoopgaaGreatDoorW.PrintWords Go.Proofs.YtbakkcdanoopgaaGreatDoorW.PrintMore Kd
abbrev w (n : Int) : Int := IntKind.wrap .i64 n
abbrev bs (l : List UInt8) : ByteArray := ⟨l.toArray⟩
abbrev elI (k : IntKind) (xs : List Int) (i : Int) : Int := elem (.int k) xs i
abbrev elS (xs : List ByteArray) (i : Int) : ByteArray := elem .str xs i
def bitand (k : IntKind) (x y : Int) : Int := k.wrap ((BitVec.ofInt k.bits x &&& BitVec.ofInt k.bits y).toNat : Int)
def bitxor (k : IntKind) (x y : Int) : Int := k.wrap ((BitVec.ofInt k.bits x ^^^ BitVec.ofInt k.bits y).toNat : Int)
def lookA {α : Type} (d : α) : List (Nat × α) → Nat → α
  | [], _ => d
  | x :: r, n => match Nat.beq x.1 n with | true => x.2 | false => lookA d r n
def inN : List Nat → Nat → Bool
  | [], _ => false
  | x :: r, n => match Nat.beq x n with | true => true | false => inN r n
theorem lookA_mem {α : Type} {d : α} {n : Nat} : ∀ {l : List (Nat × α)}, lookA d l n = d ∨ (n, lookA d l n) ∈ l
  | [] => .inl rfl
  | x :: r => by
    unfold lookA
    cases h : Nat.beq x.1 n with
    | true => exact .inr (by rw [← Nat.eq_of_beq_eq_true h]; exact List.mem_cons_self)
    | false =>
      rcases lookA_mem (d := d) (n := n) (l := r) with h | h
      · exact .inl h
      · exact .inr (List.mem_cons_of_mem _ h)
def nodupB : List Nat → Bool
  | [] => true
  | x :: r => !inN r x && nodupB r
theorem inN_mem {n : Nat} : ∀ {l : List Nat}, n ∈ l → inN l n = true
  | x :: r, h => by
    unfold inN
    cases hb : Nat.beq x n with
    | true => rfl
    | false =>
      rcases List.mem_cons.mp h with h | h
      · rw [h, Nat.beq_refl] at hb; cases hb
      · exact inN_mem h
theorem nodupB_spec : ∀ {l : List Nat}, nodupB l = true → l.Nodup
  | [], _ => List.nodup_nil
  | x :: r, h => by
    unfold nodupB at h
    simp only [Bool.and_eq_true, Bool.not_eq_true'] at h
    refine List.nodup_cons.mpr ⟨fun hm => ?_, nodupB_spec h.2⟩
    rw [inN_mem hm] at h
    cases h.1
def bodyOK (fn : Func) : Bool := match fn.body with | some b => nodupB (regs b) | none => true
def AllP {α : Type} (Q : α → Prop) : List α → Prop
  | [] => True
  | e :: r => Q e ∧ AllP Q r
theorem AllP.mem {α : Type} {Q : α → Prop} : ∀ {l : List α}, AllP Q l → ∀ {x : α}, x ∈ l → Q x
  | _ :: _, h, x, hx => by
    rcases List.mem_cons.mp hx with rfl | hx
    · exact h.1
    · exact AllP.mem h.2 hx
theorem fns_ok {P : Program} {l : List (Nat × Option Func)} {insts : Nat → List Inst} (h : AllP (fun x => ∀ fn, x.2 = some fn → P.funcs[x.1]? = some fn ∧ (fn.name == "runtime.NumGoroutine") = false ∧ bodyOK fn = true) l) : FnsOK P ⟨lookA none l, insts⟩ := by
  have key : ∀ f fn, lookA none l f = some fn → P.funcs[f]? = some fn ∧ (fn.name == "runtime.NumGoroutine") = false ∧ bodyOK fn = true := fun f fn hf => by
    rcases lookA_mem (d := (none : Option Func)) (n := f) (l := l) with h1 | h1
    · rw [h1] at hf; cases hf
    · exact h.mem h1 fn hf
  refine ⟨fun f fn hf => ⟨(key f fn hf).1, (key f fn hf).2.1⟩, fun f fn body hf hb => ?_⟩
  have h1 := (key f fn hf).2.2
  unfold bodyOK at h1
  rw [hb] at h1
  exact nodupB_spec h1
theorem fn_one {P : Program} {f : Nat} {fn : Func} (h1 : P.funcs[f]? = some fn) (h2 : (!(fn.name == "runtime.NumGoroutine") && bodyOK fn) = true) : ∀ g, (f, some fn).2 = some g → P.funcs[(f, some fn).1]? = some g ∧ (g.name == "runtime.NumGoroutine") = false ∧ bodyOK g = true := fun g hg => by
  obtain rfl : fn = g := Option.some.inj hg
  simp only [Bool.and_eq_true, Bool.not_eq_true'] at h2
  exact ⟨h1, h2.1, h2.2⟩
theorem tab_ok {P : Program} {D : List TI} (h : D.all (tiB P D) = true) : TabOK P D := fun x hx => List.all_eq_true.mp h x hx
end Go.Proofs.YtbakkcdanoopgaaGreatDoor.Ev
set_option linter.unusedVariables false
namespace Go.Proofs.YtbakkcdanoopgaaGreatDoor.Ev
open Go Go.RowKit Go.Proofs.YtbakkcdanoopgaaGreatDoorW.PrintWords Go.Proofs.YtbakkcdanoopgaaGreatDoorW.PrintMore Kd
section
variable {ρ : Type}
structure Ent (ρ : Type) where
  f : Nat
  i : Nat
  p : Nat
  run : List HV → (Out → Option ρ) → Option ρ
def findE : List (Ent ρ) → Nat → Nat → Nat → Option (Ent ρ)
  | [], _, _, _ => none
  | e :: r, f, i, p => match Nat.beq e.f f with
    | true => (match Nat.beq e.i i && Nat.beq e.p p with | true => some e | false => findE r f i p)
    | false => findE r f i p
def semOf (l : List (Ent ρ)) : Sem ρ := fun f i p hs κ => match findE l f i p with | some e => e.run hs κ | none => none
theorem findE_some {f i p : Nat} {e : Ent ρ} : ∀ {l : List (Ent ρ)}, findE l f i p = some e → e ∈ l ∧ e.f = f ∧ e.i = i ∧ e.p = p
  | a :: r, h => by
    unfold findE at h
    split at h
    · rename_i h1
      split at h
      · rename_i h2
        simp only [Bool.and_eq_true] at h2
        obtain rfl := Option.some.inj h
        exact ⟨List.mem_cons_self, Nat.eq_of_beq_eq_true h1, Nat.eq_of_beq_eq_true h2.1, Nat.eq_of_beq_eq_true h2.2⟩
      · obtain ⟨h3, h4⟩ := findE_some h
        exact ⟨List.mem_cons_of_mem _ h3, h4⟩
    · obtain ⟨h3, h4⟩ := findE_some h
      exact ⟨List.mem_cons_of_mem _ h3, h4⟩
  | [], h => by cases h
def EntOK [Bgs] (P : Program) (C : Ctx) (F : Fns) (sem : Option (Sem ρ)) (e : Ent ρ) : Prop := ∀ hs (κ : Out → Option ρ) (r : ρ), e.run hs κ = some r →
  (∃ s, sem = some s ∧ evStart C F s e.f e.i e.p hs κ = some r) ∨ (e.p = 0 ∧ FunP P F.insts e.f e.i hs κ r)
theorem sem_ok [Bgs] {P : Program} {C : Ctx} {F : Fns} {lv : Nat → List (Ent ρ)} [WrFact P C] (hT : TabOK P C.D) (hm : P.follows .mixedOrders = true) (hF : FnsOK P F) (h0 : AllP (EntOK P C F none) (lv 0)) (h1 : ∀ k, AllP (EntOK P C F (some (semOf (lv k)))) (lv (k + 1))) : ∀ k, SemOK P F.insts (semOf (lv k)) ∧ StopOK P F (semOf (lv k)) := by
  have step : ∀ (sem : Option (Sem ρ)) (l : List (Ent ρ)), (∀ s, sem = some s → SemOK P F.insts s ∧ StopOK P F s) → AllP (EntOK P C F sem) l → SemOK P F.insts (semOf l) ∧ StopOK P F (semOf l) := fun sem l hs hl => by
    refine ⟨fun f i hv κ r h => ?_, fun f i id hv κ r h => ?_⟩
    all_goals
      unfold semOf at h
      split at h
      case h_2 => cases h
      rename_i e he
      obtain ⟨hm', rfl, rfl, hp⟩ := findE_some he
      rcases hl.mem hm' hv κ r h with ⟨s, rfl, hr⟩ | ⟨hp', hr⟩
    · rw [hp] at hr
      obtain ⟨a, b⟩ := hs s rfl
      exact start_rep hT hm hF a b hr
    · exact hr
    · rw [hp] at hr
      obtain ⟨a, b⟩ := hs s rfl
      exact stop_start hT hm hF a b hr
    · rw [hp'] at hp; cases hp
  intro k
  induction k with
  | zero => exact step none _ (fun s h => by cases h) h0
  | succ k ih => exact step _ _ (fun s h => by obtain rfl := Option.some.inj h; exact ih) (h1 k)
def Cur : List Ty → Type → Type
  | [], R => R
  | t :: l, R => t.den → Cur l R
mutual
def Pt.hol : Pt → List Ty
  | .sc t => [t]
  | .sl e t => [.sl e t]
  | .own e t => [.sl e t]
  | .fn _ ps cs => Pt.hols ps ++ Pt.hols cs
  | .agg cs => Pt.hols cs
  | .tup cs => Pt.hols cs
  | .same p => p.hol
  | _ => []
def Pt.hols : List Pt → List Ty
  | [] => []
  | p :: r => p.hol ++ Pt.hols r
end
def holB : List (List Pt) → List Ty
  | [] => []
  | p :: r => Pt.hols p ++ holB r
def holT : List (Nat × Nat × Ty) → List Ty
  | [] => []
  | p :: r => .sl p.2.1 p.2.2 :: holT r
def insOf (is_ : Nat → List Inst) (f i p : Nat) : List Ty := match (is_ f)[i]? with
  | some I => (match p with
    | 0 => Pt.hols I.args ++ holB I.boxes
    | id + 1 => (match findSh I.stops id with
      | some S => Pt.hols (S.tmps.map (·.2)) ++ (holT S.toks ++ holB S.boxes)
      | none => []))
  | none => []
def outsOf (is_ : Nat → List Inst) (f i : Nat) : List Ty := match (is_ f)[i]? with
  | some I => Pt.hols I.outs ++ holB I.obox
  | none => []
def runC {R : Type} : (l : List Ty) → List HV → Cur l R → (R → Option ρ) → Option ρ
  | [], [], g, c => c g
  | t :: l, ⟨t', x⟩ :: hs, g, c => if h : t' = t then runC l hs (g (h ▸ x)) c else none
  | _, _, _, _ => none
def retK : (l : List Ty) → (List HV → Option ρ) → Cur l (Option ρ)
  | [], k => k []
  | t :: l, k => fun x => retK l fun hs => k (⟨t, x⟩ :: hs)
def AllEq {R : Type} : (l : List Ty) → Cur l R → (List HV → R → Prop) → Prop
  | [], g, Q => Q [] g
  | t :: l, g, Q => ∀ x : t.den, AllEq l (g x) fun hs r => Q (⟨t, x⟩ :: hs) r
theorem runC_some {R : Type} {c : R → Option ρ} {r : ρ} : ∀ {l : List Ty} {hs : List HV} {g : Cur l R} {Q : List HV → R → Prop}, AllEq l g Q → runC l hs g c = some r → ∃ y, Q hs y ∧ c y = some r
  | [], [], g, Q, hA, h => ⟨g, hA, h⟩
  | t :: l, ⟨t', x⟩ :: hs, g, Q, hA, h => by
    unfold runC at h
    split at h
    · rename_i e
      subst e
      exact runC_some (l := l) (hs := hs) (Q := fun hs r => Q (⟨t', x⟩ :: hs) r) (hA x) h
    · cases h
  | [], _ :: _, _, _, _, h => by cases h
  | _ :: _, [], _, _, _, h => by cases h
def en (is_ : Nat → List Inst) (f i p : Nat) (g : Cur (insOf is_ f i p) (Cur (outsOf is_ f i) (Option ρ) → Option ρ)) : Ent ρ :=
  ⟨f, i, p, fun hs κ => runC _ hs g fun y => y (retK _ fun vs => κ (.ret vs))⟩
end
end Go.Proofs.YtbakkcdanoopgaaGreatDoor.Ev
set_option linter.unusedVariables false
namespace Go.Proofs.YtbakkcdanoopgaaGreatDoor.Ev
open Go Go.RowKit Go.Proofs.YtbakkcdanoopgaaGreatDoorW.PrintWords Go.Proofs.YtbakkcdanoopgaaGreatDoorW.PrintMore Kd
section
variable {ρ : Type}
section
variable [Bgs] {P : Program} {C : Ctx} {F : Fns} {f i p : Nat}
theorem en_ok {s : Sem ρ} {g : Cur (insOf F.insts f i p) (Cur (outsOf F.insts f i) (Option ρ) → Option ρ)} (h : AllEq _ g fun hs y => ∀ κ, y (retK _ fun vs => κ (.ret vs)) = evStart C F s f i p hs κ) : EntOK P C F (some s) (en F.insts f i p g) := fun hs κ r hr => by
  obtain ⟨y, h1, h2⟩ := runC_some h hr
  exact .inl ⟨s, rfl, (h1 κ).symm.trans h2⟩
theorem en_z {s : Option (Sem ρ)} {g : Cur (insOf F.insts f i p) (Cur (outsOf F.insts f i) (Option ρ) → Option ρ)} (h : AllEq _ g fun _ y => ∀ k, y k = none) : EntOK P C F s (en F.insts f i p g) := fun hs κ r hr => by
  obtain ⟨y, h1, h2⟩ := runC_some h hr
  rw [h1] at h2
  cases h2
theorem en_x {s : Option (Sem ρ)} {g : Cur (insOf F.insts f i 0) (Cur (outsOf F.insts f i) (Option ρ) → Option ρ)} (h : AllEq _ g fun hs y => ∀ (κ : Out → Option ρ) r, y (retK _ fun vs => κ (.ret vs)) = some r → FunP P F.insts f i hs κ r) : EntOK P C F s (en F.insts f i 0 g) := fun hs κ r hr => by
  obtain ⟨y, h1, h2⟩ := runC_some h hr
  exact .inr ⟨rfl, h1 κ r h2⟩
theorem AllP.app {α : Type} {Q : α → Prop} : ∀ {l m : List α}, AllP Q l → AllP Q m → AllP Q (l ++ m)
  | [], _, _, h => h
  | _ :: _, _, h1, h2 => ⟨h1.1, AllP.app h1.2 h2⟩
end
end
end Go.Proofs.YtbakkcdanoopgaaGreatDoor.Ev
set_option linter.unusedVariables false
namespace Go.Proofs.YtbakkcdanoopgaaGreatDoor.Ev
open Go Go.RowKit Go.Proofs.YtbakkcdanoopgaaGreatDoorW.PrintWords Go.Proofs.YtbakkcdanoopgaaGreatDoorW.PrintMore Kd
abbrev pI : Pt := .sc (.int .i64)
abbrev pB : Pt := .sc .bool
abbrev pS : Pt := .sc .str
abbrev jk : Pt := .junk
abbrev sj : Pt := .same .junk
end Go.Proofs.YtbakkcdanoopgaaGreatDoor.Ev
set_option linter.unusedVariables false
namespace Go.Proofs.YtbakkcdanoopgaaGreatDoor.Ev
theorem wr_fact {P : Program} {C : Ctx} {l : List (Nat × Option Wr)} (h : AllP (fun x : Nat × Option Wr => ∀ w, x.2 = some w → ∀ ag hs sc ys out, w.run ag hs sc = some (ys, out) → FunW P x.1 ag hs sc ys out) l) (hC : C.wr = lookA none l) : WrFact P C := ⟨fun f w hf => by
  rw [hC] at hf
  rcases lookA_mem (d := (none : Option Wr)) (n := f) (l := l) with h1 | h1
  · rw [h1] at hf; cases hf
  · exact h.mem h1 w hf⟩
end Go.Proofs.YtbakkcdanoopgaaGreatDoor.Ev
set_option linter.unusedVariables false
namespace Go.Proofs.YtbakkcdanoopgaaGreatDoor.Ev
open Go Go.RowKit Go.Proofs.YtbakkcdanoopgaaGreatDoorW.PrintWords Go.Proofs.YtbakkcdanoopgaaGreatDoorW.PrintMore Kd
section
variable {P : Program} {E : Env} {W W' : World} {I : Inst} {ρ : Type} {κ : Out → Option ρ} {r : ρ} {f : Nat}
theorem below_aft (hB : Below W.heap.size W W') : Aft E W E W' :=
  ⟨hB.os, hB.tape, hB.output, hB.size, fun k hk _ => ⟨rfl, hB.block k hk⟩, ⟨[], by simp⟩, rfl⟩
theorem ret_plain {vals : Array Value} {vs : List HV} {outs : List AV} {m : List Value} {v : Value} (hκ : κ (.ret vs) = some r) (ho : Pt.builds I.outs vs = some (outs, [])) (hb : I.obox = []) (hl : E.adr = []) (hnew : ∀ k, W.heap.size ≤ k → E.own k = .free) (hpk : Packed m v)
    (hv : ∀ W', AllQ (ArgV E W') 0 outs m) (hc : Calls P f vals W fun e w' => e = .returned v ∧ Below W.heap.size W w') : Calls P f vals W (RetK E W I κ r) := by
  refine hc.mono fun e w' he => ?_
  obtain ⟨rfl, hB⟩ := he
  refine ⟨_, hκ, vs, outs, [], [], E, m, rfl, ho, by rw [hb]; rfl, below_aft hB, hpk, hv w', fun j cs hj => by simp at hj, by rw [hl]; rfl, fun k hk => hnew k (Nat.le_trans hB.size hk)⟩
theorem arg_v {x : Value} {vals : List Value} {as1 : List AV} {k : Nat} (h : AllQ (ArgV E W) k (.v x :: as1) vals) : ∃ r, vals = x :: r ∧ AllQ (ArgV E W) (k + 1) as1 r := by
  match vals, h with
  | y :: r, h =>
    have h1 : y = x := h.1
    exact ⟨r, by rw [h1], h.2⟩
theorem arg_nil {vals : List Value} {k : Nat} (h : AllQ (ArgV E W) k [] vals) : vals = [] := by
  match vals, h with
  | [], _ => rfl
end
end Go.Proofs.YtbakkcdanoopgaaGreatDoor.Ev
set_option linter.unusedVariables false
namespace Go.Proofs.YtbakkcdanoopgaaGreatDoor.Ev
open Go Go.RowKit
theorem w_in {n : Int} (h : -9223372036854775808 ≤ n ∧ n ≤ 9223372036854775807) : w n = n := by show IntKind.wrap .i64 n = n; rw [IntKind.wrap_i64]; omega
theorem bitand_i64 (x : Int) (m : Nat) (hm : m < 9223372036854775808) : 0 ≤ bitand .i64 x m ∧ bitand .i64 x m ≤ m := by
  have h1 : (BitVec.ofInt IntKind.i64.bits x &&& BitVec.ofInt IntKind.i64.bits (m : Int)).toNat ≤ m := by
    rw [BitVec.toNat_and]
    refine Nat.le_trans Nat.and_le_right ?_
    show (BitVec.ofInt 64 (m : Int)).toNat ≤ m
    rw [BitVec.toNat_ofInt]
    omega
  unfold bitand
  rw [IntKind.wrap_i64]
  omega
end Go.Proofs.YtbakkcdanoopgaaGreatDoor.Ev
set_option linter.unusedVariables false
namespace Go.Proofs.YtbakkcdanoopgaaGreatDoor.Ev
open Go Go.RowKit
section
variable {ρ α β : Type}
def Tot (g : Nat → (α → Option ρ) → Option ρ) (Q : α → Prop) : Prop := ∃ K a, Q a ∧ ∀ k, K ≤ k → ∀ κ, g k κ = κ a
theorem Tot.ret {g : Nat → (α → Option ρ) → Option ρ} {Q : α → Prop} (a : α) (h : ∀ k κ, g k κ = κ a) (hQ : Q a) : Tot g Q := ⟨0, a, hQ, fun k _ κ => h k κ⟩
theorem Tot.imp {g : Nat → (α → Option ρ) → Option ρ} {Q R : α → Prop} (h : Tot g Q) (hi : ∀ a, Q a → R a) : Tot g R := by
  obtain ⟨K, a, q1, q2⟩ := h
  exact ⟨K, a, hi a q1, q2⟩
theorem Tot.congr {g f : Nat → (α → Option ρ) → Option ρ} {Q : α → Prop} (h : Tot g Q) (he : ∀ k κ, f k κ = g k κ) : Tot f Q := by
  obtain ⟨K, a, q1, q2⟩ := h
  exact ⟨K, a, q1, fun k hk κ => (he k κ).trans (q2 k hk κ)⟩
theorem Tot.step {g f : Nat → (α → Option ρ) → Option ρ} {Q : α → Prop} (he : ∀ k κ, f (k + 1) κ = g k κ) (h : Tot g Q) : Tot f Q := by
  obtain ⟨K, a, q1, q2⟩ := h
  refine ⟨K + 1, a, q1, fun k hk κ => ?_⟩
  obtain ⟨k, rfl⟩ : ∃ j, k = j + 1 := ⟨k - 1, by omega⟩
  exact (he k κ).trans (q2 k (by omega) κ)
theorem Tot.iteT {c : Prop} [Decidable c] {g : Nat → (α → Option ρ) → Option ρ} {Q : α → Prop} (hc : c) (h : Tot g Q) : Tot (fun k κ => if c then g k κ else none) Q := h.congr fun k κ => if_pos hc
theorem Tot.iteF {c : Prop} [Decidable c] {g : Nat → (α → Option ρ) → Option ρ} {Q : α → Prop} (hc : ¬ c) (h : Tot g Q) : Tot (fun k κ => if c then none else g k κ) Q := h.congr fun k κ => if_neg hc
theorem Tot.bif {b : Bool} {g f : Nat → (α → Option ρ) → Option ρ} {Q : α → Prop} (h1 : b = true → Tot g Q) (h2 : b = false → Tot f Q) : Tot (fun k κ => bif b then g k κ else f k κ) Q := by
  cases b with
  | true => exact h1 rfl
  | false => exact h2 rfl
theorem Tot.bind1 {A : Type} {X : Nat → (A → Option ρ) → Option ρ} {Y : Nat → A → (β → Option ρ) → Option ρ} {Q : A → Prop} {R : β → Prop} (hG : Tot (fun k κ => X k (fun a1 => κ a1)) Q) (hH : ∀ a1, Q a1 → Tot (fun k κ => Y k a1 κ) R) : Tot (fun k κ => X k (fun a1 => Y k a1 κ)) R := by
  obtain ⟨K1, a1, q1, q2⟩ := hG
  obtain ⟨K2, b, q3, q4⟩ := hH a1 q1
  refine ⟨max K1 K2, b, q3, fun k hk κ => ?_⟩
  exact (q2 k (by omega) (fun p => Y k p κ)).trans (q4 k (by omega) κ)
theorem Tot.bind2 {A B : Type} {X : Nat → (A → B → Option ρ) → Option ρ} {Y : Nat → A → B → (β → Option ρ) → Option ρ} {Q : A × B → Prop} {R : β → Prop} (hG : Tot (fun k κ => X k (fun a1 b1 => κ (a1, b1))) Q) (hH : ∀ a1 b1, Q (a1, b1) → Tot (fun k κ => Y k a1 b1 κ) R) : Tot (fun k κ => X k (fun a1 b1 => Y k a1 b1 κ)) R := by
  obtain ⟨K1, ⟨a1, b1⟩, q1, q2⟩ := hG
  obtain ⟨K2, b, q3, q4⟩ := hH a1 b1 q1
  refine ⟨max K1 K2, b, q3, fun k hk κ => ?_⟩
  exact (q2 k (by omega) (fun p => Y k p.1 p.2 κ)).trans (q4 k (by omega) κ)
theorem Tot.bind3 {A B C : Type} {X : Nat → (A → B → C → Option ρ) → Option ρ} {Y : Nat → A → B → C → (β → Option ρ) → Option ρ} {Q : A × B × C → Prop} {R : β → Prop} (hG : Tot (fun k κ => X k (fun a1 b1 c1 => κ (a1, b1, c1))) Q) (hH : ∀ a1 b1 c1, Q (a1, b1, c1) → Tot (fun k κ => Y k a1 b1 c1 κ) R) : Tot (fun k κ => X k (fun a1 b1 c1 => Y k a1 b1 c1 κ)) R := by
  obtain ⟨K1, ⟨a1, b1, c1⟩, q1, q2⟩ := hG
  obtain ⟨K2, b, q3, q4⟩ := hH a1 b1 c1 q1
  refine ⟨max K1 K2, b, q3, fun k hk κ => ?_⟩
  exact (q2 k (by omega) (fun p => Y k p.1 p.2.1 p.2.2 κ)).trans (q4 k (by omega) κ)
theorem Tot.bind4 {A B C D : Type} {X : Nat → (A → B → C → D → Option ρ) → Option ρ} {Y : Nat → A → B → C → D → (β → Option ρ) → Option ρ} {Q : A × B × C × D → Prop} {R : β → Prop} (hG : Tot (fun k κ => X k (fun a1 b1 c1 d1 => κ (a1, b1, c1, d1))) Q) (hH : ∀ a1 b1 c1 d1, Q (a1, b1, c1, d1) → Tot (fun k κ => Y k a1 b1 c1 d1 κ) R) : Tot (fun k κ => X k (fun a1 b1 c1 d1 => Y k a1 b1 c1 d1 κ)) R := by
  obtain ⟨K1, ⟨a1, b1, c1, d1⟩, q1, q2⟩ := hG
  obtain ⟨K2, b, q3, q4⟩ := hH a1 b1 c1 d1 q1
  refine ⟨max K1 K2, b, q3, fun k hk κ => ?_⟩
  exact (q2 k (by omega) (fun p => Y k p.1 p.2.1 p.2.2.1 p.2.2.2 κ)).trans (q4 k (by omega) κ)
theorem Tot.bind5 {A B C D E : Type} {X : Nat → (A → B → C → D → E → Option ρ) → Option ρ} {Y : Nat → A → B → C → D → E → (β → Option ρ) → Option ρ} {Q : A × B × C × D × E → Prop} {R : β → Prop} (hG : Tot (fun k κ => X k (fun a1 b1 c1 d1 e1 => κ (a1, b1, c1, d1, e1))) Q) (hH : ∀ a1 b1 c1 d1 e1, Q (a1, b1, c1, d1, e1) → Tot (fun k κ => Y k a1 b1 c1 d1 e1 κ) R) : Tot (fun k κ => X k (fun a1 b1 c1 d1 e1 => Y k a1 b1 c1 d1 e1 κ)) R := by
  obtain ⟨K1, ⟨a1, b1, c1, d1, e1⟩, q1, q2⟩ := hG
  obtain ⟨K2, b, q3, q4⟩ := hH a1 b1 c1 d1 e1 q1
  refine ⟨max K1 K2, b, q3, fun k hk κ => ?_⟩
  exact (q2 k (by omega) (fun p => Y k p.1 p.2.1 p.2.2.1 p.2.2.2.1 p.2.2.2.2 κ)).trans (q4 k (by omega) κ)
end
end Go.Proofs.YtbakkcdanoopgaaGreatDoor.Ev
namespace Go.Proofs
open Go.Shelf
def Tryz.lays162_ren : Go.Shelf.Ren := ⟨fun | 162 => 168 | 232 => 209 | 227 => 210 | 234 => 211 | 236 => 212 | 228 => 249 | 271 => 250 | 151 => 251 | 120 => 278 | 197 => 279 | 152 => 280 | 260 => 297 | 137 => 196 | 119 => 298 | 224 => 299 | 225 => 300 | 217 => 244 | 266 => 271 | n => n, fun | 9 => 9 | 4 => 4 | 3 => 3 | 5 => 5 | 117 => 207 | 116 => 206 | 0 => 0 | 124 => 210 | 21 => 21 | 105 => 237 | 46 => 182 | 119 => 273 | 139 => 276 | 138 => 275 | n => n, fun | 3 => 4 | 4 => 5 | n => n⟩
theorem Tryz.lays162 : Go.Proofs.Lays.n162 Tryz.prog Tryz.lays162_ren := {
  mixed := by kernel_rfl
  f119 := Tryz.func298.trans (congrArg some (by kernel_rfl))
  f120 := Tryz.func278.trans (congrArg some (by kernel_rfl))
  f137 := Tryz.func196.trans (congrArg some (by kernel_rfl))
  f151 := Tryz.func251.trans (congrArg some (by kernel_rfl))
  f152 := Tryz.func280.trans (congrArg some (by kernel_rfl))
  f162 := Tryz.func168.trans (congrArg some (by kernel_rfl))
  f197 := Tryz.func279.trans (congrArg some (by kernel_rfl))
  f217 := Tryz.func244.trans (congrArg some (by kernel_rfl))
  f224 := Tryz.func299.trans (congrArg some (by kernel_rfl))
  f225 := Tryz.func300.trans (congrArg some (by kernel_rfl))
  f227 := Tryz.func210.trans (congrArg some (by kernel_rfl))
  f228 := Tryz.func249.trans (congrArg some (by kernel_rfl))
  f232 := Tryz.func209.trans (congrArg some (by kernel_rfl))
  f234 := Tryz.func211.trans (congrArg some (by kernel_rfl))
  f236 := Tryz.func212.trans (congrArg some (by kernel_rfl))
  f260 := Tryz.func297.trans (congrArg some (by kernel_rfl))
  f266 := Tryz.func271.trans (congrArg some (by kernel_rfl))
  f271 := Tryz.func250.trans (congrArg some (by kernel_rfl))
  t0 := Tryz.underlying0
  a0 := Tryz.isAgg0
  z0 := Tryz.sizeOf0
  v0 := Tryz.zeroValue0
  t3 := Tryz.underlying3
  a3 := Tryz.isAgg3
  z3 := Tryz.sizeOf3
  v3 := Tryz.zeroValue3
  t4 := Tryz.underlying4
  a4 := Tryz.isAgg4
  z4 := Tryz.sizeOf4
  v4 := Tryz.zeroValue4
  t5 := Tryz.underlying5
  a5 := Tryz.isAgg5
  z5 := Tryz.sizeOf5
  v5 := Tryz.zeroValue5
  t9 := Tryz.underlying9
  a9 := Tryz.isAgg9
  z9 := Tryz.sizeOf9
  v9 := Tryz.zeroValue9
  t21 := Tryz.underlying21
  a21 := Tryz.isAgg21
  z21 := Tryz.sizeOf21
  v21 := Tryz.zeroValue21
  t46 := Tryz.underlying182
  a46 := Tryz.isAgg182
  z46 := Tryz.sizeOf182
  v46 := Tryz.zeroValue182
  t105 := Tryz.underlying237
  a105 := Tryz.isAgg237
  z105 := Tryz.sizeOf237
  v105 := Tryz.zeroValue237
  t116 := Tryz.underlying206
  a116 := Tryz.isAgg206
  z116 := Tryz.sizeOf206
  t117 := Tryz.underlying207
  a117 := Tryz.isAgg207
  z117 := Tryz.sizeOf207
  v117 := Tryz.zeroValue207
  t119 := Tryz.underlying273
  a119 := Tryz.isAgg273
  z119 := Tryz.sizeOf273
  t124 := Tryz.underlying210
  a124 := Tryz.isAgg210
  z124 := Tryz.sizeOf210
  v124 := Tryz.zeroValue210
  t138 := Tryz.underlying275
  a138 := Tryz.isAgg275
  z138 := Tryz.sizeOf275
  v138 := Tryz.zeroValue275
  t139 := Tryz.underlying276
  a139 := Tryz.isAgg276
  z139 := Tryz.sizeOf276
  v139 := Tryz.zeroValue276
  g3 := by kernel_rfl
  g4 := by kernel_rfl }
open Go.RowKit in
/-- strings.TrimRight: "TrimRight returns a slice of the string s, with all trailing Unicode code points contained in cutset removed.": AT A cutset OF ONE ASCII BYTE. The world is as it was. (LAID: no walk: one application.) -/
theorem Tryz.strings_TrimRight_one (s : ByteArray) (c : UInt8) (hc : c.toNat < 128) (w : World) (hs : s.size ≤ 9223372036854775807) :
    Calls Tryz.prog 168 #[.string s, .string ⟨#[c]⟩] w fun e w' => e = .returned (.string ⟨(Lib.trimRightB s.data.toList c).toArray⟩) ∧ w' = w := Any.strings_TrimRight_one Tryz.lays162 s c hc w hs
def Tryz.lays172_ren : Go.Shelf.Ren := ⟨fun | 172 => 112 | 244 => 164 | 245 => 165 | 247 => 203 | 279 => 204 | 280 => 205 | 281 => 206 | 282 => 207 | 287 => 245 | 316 => 246 | 171 => 167 | 205 => 247 | 321 => 272 | 322 => 273 | 243 => 208 | 246 => 248 | 283 => 274 | 284 => 275 | 285 => 276 | 286 => 277 | 129 => 293 | 317 => 292 | 318 => 294 | 319 => 295 | 320 => 296 | 337 => 310 | 338 => 311 | n => n, fun | 9 => 9 | 3 => 3 | 75 => 131 | 76 => 132 | 4 => 4 | 5 => 5 | 167 => 198 | 37 => 30 | 0 => 0 | 85 => 199 | 2 => 2 | 168 => 201 | 53 => 214 | 175 => 231 | 46 => 182 | 210 => 234 | 127 => 167 | 145 => 253 | 143 => 251 | 21 => 21 | 171 => 254 | 173 => 257 | 212 => 266 | 51 => 211 | 20 => 20 | 213 => 267 | 232 => 278 | 233 => 279 | 80 => 119 | n => n, fun | 15 => 0 | 16 => 1 | 17 => 3 | 18 => 6 | 19 => 7 | n => n⟩
theorem Tryz.lays172 : Go.Proofs.Lays.n172 Tryz.prog Tryz.lays172_ren := {
  mixed := by kernel_rfl
  f129 := Tryz.func293.trans (congrArg some (by kernel_rfl))
  f171 := Tryz.func167.trans (congrArg some (by kernel_rfl))
  f172 := Tryz.func112.trans (congrArg some (by kernel_rfl))
  f205 := Tryz.func247.trans (congrArg some (by kernel_rfl))
  f243 := Tryz.func208.trans (congrArg some (by kernel_rfl))
  f244 := Tryz.func164.trans (congrArg some (by kernel_rfl))
  f245 := Tryz.func165.trans (congrArg some (by kernel_rfl))
  f246 := Tryz.func248.trans (congrArg some (by kernel_rfl))
  f247 := Tryz.func203.trans (congrArg some (by kernel_rfl))
  f279 := Tryz.func204.trans (congrArg some (by kernel_rfl))
  f280 := Tryz.func205.trans (congrArg some (by kernel_rfl))
  f281 := Tryz.func206.trans (congrArg some (by kernel_rfl))
  f282 := Tryz.func207.trans (congrArg some (by kernel_rfl))
  f283 := Tryz.func274.trans (congrArg some (by kernel_rfl))
  f284 := Tryz.func275.trans (congrArg some (by kernel_rfl))
  f285 := Tryz.func276.trans (congrArg some (by kernel_rfl))
  f286 := Tryz.func277.trans (congrArg some (by kernel_rfl))
  f287 := Tryz.func245.trans (congrArg some (by kernel_rfl))
  f316 := Tryz.func246.trans (congrArg some (by kernel_rfl))
  f317 := Tryz.func292.trans (congrArg some (by kernel_rfl))
  f318 := Tryz.func294.trans (congrArg some (by kernel_rfl))
  f319 := Tryz.func295.trans (congrArg some (by kernel_rfl))
  f320 := Tryz.func296.trans (congrArg some (by kernel_rfl))
  f321 := Tryz.func272.trans (congrArg some (by kernel_rfl))
  f322 := Tryz.func273.trans (congrArg some (by kernel_rfl))
  f337 := Tryz.func310.trans (congrArg some (by kernel_rfl))
  f338 := Tryz.func311.trans (congrArg some (by kernel_rfl))
  t0 := Tryz.underlying0
  a0 := Tryz.isAgg0
  z0 := Tryz.sizeOf0
  v0 := Tryz.zeroValue0
  t2 := Tryz.underlying2
  a2 := Tryz.isAgg2
  z2 := Tryz.sizeOf2
  v2 := Tryz.zeroValue2
  t3 := Tryz.underlying3
  a3 := Tryz.isAgg3
  z3 := Tryz.sizeOf3
  v3 := Tryz.zeroValue3
  t4 := Tryz.underlying4
  a4 := Tryz.isAgg4
  z4 := Tryz.sizeOf4
  v4 := Tryz.zeroValue4
  t5 := Tryz.underlying5
  a5 := Tryz.isAgg5
  z5 := Tryz.sizeOf5
  v5 := Tryz.zeroValue5
  t9 := Tryz.underlying9
  a9 := Tryz.isAgg9
  z9 := Tryz.sizeOf9
  v9 := Tryz.zeroValue9
  t20 := Tryz.underlying20
  a20 := Tryz.isAgg20
  z20 := Tryz.sizeOf20
  v20 := Tryz.zeroValue20
  t21 := Tryz.underlying21
  a21 := Tryz.isAgg21
  z21 := Tryz.sizeOf21
  v21 := Tryz.zeroValue21
  t37 := Tryz.underlying30
  a37 := Tryz.isAgg30
  z37 := Tryz.sizeOf30
  v37 := Tryz.zeroValue30
  t46 := Tryz.underlying182
  a46 := Tryz.isAgg182
  z46 := Tryz.sizeOf182
  v46 := Tryz.zeroValue182
  t51 := Tryz.underlying211
  a51 := Tryz.isAgg211
  z51 := Tryz.sizeOf211
  v51 := Tryz.zeroValue211
  t53 := Tryz.underlying214
  a53 := Tryz.isAgg214
  z53 := Tryz.sizeOf214
  v53 := Tryz.zeroValue214
  t75 := Tryz.underlying131
  a75 := Tryz.isAgg131
  z75 := Tryz.sizeOf131
  v75 := Tryz.zeroValue131
  t76 := Tryz.underlying132
  a76 := Tryz.isAgg132
  z76 := Tryz.sizeOf132
  v76 := Tryz.zeroValue132
  t85 := Tryz.underlying199
  a85 := Tryz.isAgg199
  z85 := Tryz.sizeOf199
  v85 := Tryz.zeroValue199
  t127 := Tryz.underlying167
  a127 := Tryz.isAgg167
  z127 := Tryz.sizeOf167
  v127 := Tryz.zeroValue167
  t143 := Tryz.underlying251
  a143 := Tryz.isAgg251
  z143 := Tryz.sizeOf251
  v143 := Tryz.zeroValue251
  t145 := Tryz.underlying253
  a145 := Tryz.isAgg253
  z145 := Tryz.sizeOf253
  v145 := Tryz.zeroValue253
  t167 := Tryz.underlying198
  a167 := Tryz.isAgg198
  z167 := Tryz.sizeOf198
  v167 := Tryz.zeroValue198
  t168 := Tryz.underlying201
  a168 := Tryz.isAgg201
  z168 := Tryz.sizeOf201
  v168 := Tryz.zeroValue201
  t171 := Tryz.underlying254
  a171 := Tryz.isAgg254
  z171 := Tryz.sizeOf254
  v171 := Tryz.zeroValue254
  t173 := Tryz.underlying257
  a173 := Tryz.isAgg257
  z173 := Tryz.sizeOf257
  v173 := Tryz.zeroValue257
  t175 := Tryz.underlying231
  a175 := Tryz.isAgg231
  z175 := Tryz.sizeOf231
  v175 := Tryz.zeroValue231
  t210 := Tryz.underlying234
  a210 := Tryz.isAgg234
  z210 := Tryz.sizeOf234
  v210 := Tryz.zeroValue234
  t212 := Tryz.underlying266
  a212 := Tryz.isAgg266
  z212 := Tryz.sizeOf266
  v212 := Tryz.zeroValue266
  t213 := Tryz.underlying267
  a213 := Tryz.isAgg267
  z213 := Tryz.sizeOf267
  t232 := Tryz.underlying278
  a232 := Tryz.isAgg278
  z232 := Tryz.sizeOf278
  v232 := Tryz.zeroValue278
  t233 := Tryz.underlying279
  a233 := Tryz.isAgg279
  z233 := Tryz.sizeOf279
  v233 := Tryz.zeroValue279
  g15 := by kernel_rfl
  g16 := by kernel_rfl
  g17 := by kernel_rfl
  g18 := by kernel_rfl
  g19 := by kernel_rfl }
open Go.RowKit in
/-- strconv.Atoi: "Atoi is equivalent to ParseInt(s, 10, 0), converted to type int.": AT A DECIMAL NUMERAL OF AT MOST 18 BYTES: its value, and a nil error. The world behind the call: the one new row that the library's '[]byte(s)' lays. (LAID: no walk: one application.) -/
theorem Tryz.strconv_Atoi (s : ByteArray) (n : Int) (hl : s.size ≤ 18) (h : Lib.atoi s.data.toList = some n) (w : World) :
    Calls Tryz.prog 112 #[.string s] w fun e w' => e = .returned (.tuple #[.int .i64 n, .nilIface]) ∧ ∃ t, w' = Lib.bytesWorld w 5 t := Any.strconv_Atoi Tryz.lays172 s n hl h w
def Tryz.laysM171_ren : Go.Shelf.Ren := ⟨fun | 171 => 167 | 243 => 208 | 246 => 248 | 283 => 274 | 284 => 275 | 285 => 276 | 286 => 277 | 129 => 293 | 317 => 292 | 318 => 294 | 319 => 295 | 320 => 296 | 337 => 310 | 338 => 311 | n => n, fun | 3 => 3 | 9 => 9 | 2 => 2 | 4 => 4 | 171 => 254 | 0 => 0 | 53 => 214 | 37 => 30 | 5 => 5 | 173 => 257 | 212 => 266 | 51 => 211 | 20 => 20 | 213 => 267 | 46 => 182 | 232 => 278 | 233 => 279 | n => n, fun | 17 => 3 | 18 => 6 | 19 => 7 | n => n⟩
theorem Tryz.laysM171 : Go.Proofs.LaysM.n171 Tryz.prog Tryz.laysM171_ren := {
  mixed := by kernel_rfl
  f129 := Tryz.func293.trans (congrArg some (by kernel_rfl))
  f171 := Tryz.func167.trans (congrArg some (by kernel_rfl))
  f243 := Tryz.func208.trans (congrArg some (by kernel_rfl))
  f246 := Tryz.func248.trans (congrArg some (by kernel_rfl))
  f283 := Tryz.func274.trans (congrArg some (by kernel_rfl))
  f284 := Tryz.func275.trans (congrArg some (by kernel_rfl))
  f285 := Tryz.func276.trans (congrArg some (by kernel_rfl))
  f286 := Tryz.func277.trans (congrArg some (by kernel_rfl))
  f317 := Tryz.func292.trans (congrArg some (by kernel_rfl))
  f318 := Tryz.func294.trans (congrArg some (by kernel_rfl))
  f319 := Tryz.func295.trans (congrArg some (by kernel_rfl))
  f320 := Tryz.func296.trans (congrArg some (by kernel_rfl))
  f337 := Tryz.func310.trans (congrArg some (by kernel_rfl))
  f338 := Tryz.func311.trans (congrArg some (by kernel_rfl))
  t0 := Tryz.underlying0
  a0 := Tryz.isAgg0
  z0 := Tryz.sizeOf0
  v0 := Tryz.zeroValue0
  t2 := Tryz.underlying2
  a2 := Tryz.isAgg2
  z2 := Tryz.sizeOf2
  v2 := Tryz.zeroValue2
  t3 := Tryz.underlying3
  a3 := Tryz.isAgg3
  z3 := Tryz.sizeOf3
  v3 := Tryz.zeroValue3
  t4 := Tryz.underlying4
  a4 := Tryz.isAgg4
  z4 := Tryz.sizeOf4
  v4 := Tryz.zeroValue4
  t5 := Tryz.underlying5
  a5 := Tryz.isAgg5
  z5 := Tryz.sizeOf5
  v5 := Tryz.zeroValue5
  t9 := Tryz.underlying9
  a9 := Tryz.isAgg9
  z9 := Tryz.sizeOf9
  v9 := Tryz.zeroValue9
  t20 := Tryz.underlying20
  a20 := Tryz.isAgg20
  z20 := Tryz.sizeOf20
  v20 := Tryz.zeroValue20
  t37 := Tryz.underlying30
  a37 := Tryz.isAgg30
  z37 := Tryz.sizeOf30
  v37 := Tryz.zeroValue30
  t46 := Tryz.underlying182
  a46 := Tryz.isAgg182
  z46 := Tryz.sizeOf182
  v46 := Tryz.zeroValue182
  t51 := Tryz.underlying211
  a51 := Tryz.isAgg211
  z51 := Tryz.sizeOf211
  v51 := Tryz.zeroValue211
  t53 := Tryz.underlying214
  a53 := Tryz.isAgg214
  z53 := Tryz.sizeOf214
  v53 := Tryz.zeroValue214
  t171 := Tryz.underlying254
  a171 := Tryz.isAgg254
  z171 := Tryz.sizeOf254
  v171 := Tryz.zeroValue254
  t173 := Tryz.underlying257
  a173 := Tryz.isAgg257
  z173 := Tryz.sizeOf257
  v173 := Tryz.zeroValue257
  t212 := Tryz.underlying266
  a212 := Tryz.isAgg266
  z212 := Tryz.sizeOf266
  v212 := Tryz.zeroValue266
  t213 := Tryz.underlying267
  a213 := Tryz.isAgg267
  z213 := Tryz.sizeOf267
  t232 := Tryz.underlying278
  a232 := Tryz.isAgg278
  z232 := Tryz.sizeOf278
  v232 := Tryz.zeroValue278
  t233 := Tryz.underlying279
  a233 := Tryz.isAgg279
  z233 := Tryz.sizeOf279
  v233 := Tryz.zeroValue279
  g17 := by kernel_rfl
  g18 := by kernel_rfl
  g19 := by kernel_rfl
  i0 := by kernel_rfl
  i2 := by kernel_rfl
  i3 := by kernel_rfl
  i4 := by kernel_rfl
  i5 := by kernel_rfl
  i9 := by kernel_rfl
  i20 := by kernel_rfl
  i37 := by kernel_rfl
  i46 := by kernel_rfl
  i51 := by kernel_rfl
  i53 := by kernel_rfl
  i171 := by kernel_rfl
  i173 := by kernel_rfl
  i212 := by kernel_rfl
  i232 := by kernel_rfl
  i233 := by kernel_rfl
  m17 := by kernel_rfl
  m18 := by kernel_rfl
  m19 := by kernel_rfl }
open Go.RowKit Go.Sort Go.Lib in
/-- strconv.Itoa: "Itoa is equivalent to FormatInt(int64(i), 10).": i's DECIMAL NUMERAL ('Lib.itoa': a '-' where i is negative, then the digits), FOR EVERY int. The world behind the call: the world before it, new blocks behind the heap (the library's 'var a [24]byte'), draws. (LAID: no walk: one application.) -/
theorem Tryz.strconv_Itoa (n : Int) (h0 : -9223372036854775808 ≤ n) (h1 : n ≤ 9223372036854775807) (w : World) (htab : Lib.TabIs Tryz.prog w "internal/strconv.uint64pow10" .u64 Lib.pow10Tab) :
    Calls Tryz.prog 167 #[.int .i64 n] w fun e w' => e = .returned (.string ⟨(Lib.itoa n).toArray⟩) ∧ ∃ k os, w' = grow (w.drewN k) os := Any.strconv_Itoa Tryz.laysM171 n h0 h1 w htab
def Tryz.laysC172_ren : Go.Shelf.Ren := ⟨fun | 172 => 112 | 244 => 164 | 245 => 165 | 247 => 203 | 279 => 204 | 280 => 205 | 281 => 206 | 282 => 207 | 287 => 245 | 316 => 246 | 171 => 167 | 205 => 247 | 321 => 272 | 322 => 273 | 243 => 208 | 246 => 248 | 283 => 274 | 284 => 275 | 285 => 276 | 286 => 277 | 129 => 293 | 317 => 292 | 318 => 294 | 319 => 295 | 320 => 296 | 337 => 310 | 338 => 311 | n => n, fun | 9 => 9 | 3 => 3 | 75 => 131 | 76 => 132 | 4 => 4 | 5 => 5 | 167 => 198 | 37 => 30 | 0 => 0 | 85 => 199 | 2 => 2 | 168 => 201 | 53 => 214 | 175 => 231 | 46 => 182 | 210 => 234 | 127 => 167 | 145 => 253 | 143 => 251 | 21 => 21 | 171 => 254 | 173 => 257 | 212 => 266 | 51 => 211 | 20 => 20 | 213 => 267 | 232 => 278 | 233 => 279 | 80 => 119 | n => n, fun | 15 => 0 | 16 => 1 | 17 => 3 | 18 => 6 | 19 => 7 | n => n⟩
theorem Tryz.laysC172 : Go.Proofs.LaysC.n172 Tryz.prog Tryz.laysC172_ren := {
  mixed := by kernel_rfl
  f129 := Tryz.func293.trans (congrArg some (by kernel_rfl))
  f171 := Tryz.func167.trans (congrArg some (by kernel_rfl))
  f172 := Tryz.func112.trans (congrArg some (by kernel_rfl))
  f205 := Tryz.func247.trans (congrArg some (by kernel_rfl))
  f243 := Tryz.func208.trans (congrArg some (by kernel_rfl))
  f244 := Tryz.func164.trans (congrArg some (by kernel_rfl))
  f245 := Tryz.func165.trans (congrArg some (by kernel_rfl))
  f246 := Tryz.func248.trans (congrArg some (by kernel_rfl))
  f247 := Tryz.func203.trans (congrArg some (by kernel_rfl))
  f279 := Tryz.func204.trans (congrArg some (by kernel_rfl))
  f280 := Tryz.func205.trans (congrArg some (by kernel_rfl))
  f281 := Tryz.func206.trans (congrArg some (by kernel_rfl))
  f282 := Tryz.func207.trans (congrArg some (by kernel_rfl))
  f283 := Tryz.func274.trans (congrArg some (by kernel_rfl))
  f284 := Tryz.func275.trans (congrArg some (by kernel_rfl))
  f285 := Tryz.func276.trans (congrArg some (by kernel_rfl))
  f286 := Tryz.func277.trans (congrArg some (by kernel_rfl))
  f287 := Tryz.func245.trans (congrArg some (by kernel_rfl))
  f316 := Tryz.func246.trans (congrArg some (by kernel_rfl))
  f317 := Tryz.func292.trans (congrArg some (by kernel_rfl))
  f318 := Tryz.func294.trans (congrArg some (by kernel_rfl))
  f319 := Tryz.func295.trans (congrArg some (by kernel_rfl))
  f320 := Tryz.func296.trans (congrArg some (by kernel_rfl))
  f321 := Tryz.func272.trans (congrArg some (by kernel_rfl))
  f322 := Tryz.func273.trans (congrArg some (by kernel_rfl))
  f337 := Tryz.func310.trans (congrArg some (by kernel_rfl))
  f338 := Tryz.func311.trans (congrArg some (by kernel_rfl))
  t0 := Tryz.underlying0
  a0 := Tryz.isAgg0
  z0 := Tryz.sizeOf0
  v0 := Tryz.zeroValue0
  t2 := Tryz.underlying2
  a2 := Tryz.isAgg2
  z2 := Tryz.sizeOf2
  v2 := Tryz.zeroValue2
  t3 := Tryz.underlying3
  a3 := Tryz.isAgg3
  z3 := Tryz.sizeOf3
  v3 := Tryz.zeroValue3
  t4 := Tryz.underlying4
  a4 := Tryz.isAgg4
  z4 := Tryz.sizeOf4
  v4 := Tryz.zeroValue4
  t5 := Tryz.underlying5
  a5 := Tryz.isAgg5
  z5 := Tryz.sizeOf5
  v5 := Tryz.zeroValue5
  t9 := Tryz.underlying9
  a9 := Tryz.isAgg9
  z9 := Tryz.sizeOf9
  v9 := Tryz.zeroValue9
  t20 := Tryz.underlying20
  a20 := Tryz.isAgg20
  z20 := Tryz.sizeOf20
  v20 := Tryz.zeroValue20
  t21 := Tryz.underlying21
  a21 := Tryz.isAgg21
  z21 := Tryz.sizeOf21
  v21 := Tryz.zeroValue21
  t37 := Tryz.underlying30
  a37 := Tryz.isAgg30
  z37 := Tryz.sizeOf30
  v37 := Tryz.zeroValue30
  t46 := Tryz.underlying182
  a46 := Tryz.isAgg182
  z46 := Tryz.sizeOf182
  v46 := Tryz.zeroValue182
  t51 := Tryz.underlying211
  a51 := Tryz.isAgg211
  z51 := Tryz.sizeOf211
  v51 := Tryz.zeroValue211
  t53 := Tryz.underlying214
  a53 := Tryz.isAgg214
  z53 := Tryz.sizeOf214
  v53 := Tryz.zeroValue214
  t75 := Tryz.underlying131
  a75 := Tryz.isAgg131
  z75 := Tryz.sizeOf131
  v75 := Tryz.zeroValue131
  t76 := Tryz.underlying132
  a76 := Tryz.isAgg132
  z76 := Tryz.sizeOf132
  v76 := Tryz.zeroValue132
  t85 := Tryz.underlying199
  a85 := Tryz.isAgg199
  z85 := Tryz.sizeOf199
  v85 := Tryz.zeroValue199
  t127 := Tryz.underlying167
  a127 := Tryz.isAgg167
  z127 := Tryz.sizeOf167
  v127 := Tryz.zeroValue167
  t143 := Tryz.underlying251
  a143 := Tryz.isAgg251
  z143 := Tryz.sizeOf251
  v143 := Tryz.zeroValue251
  t145 := Tryz.underlying253
  a145 := Tryz.isAgg253
  z145 := Tryz.sizeOf253
  v145 := Tryz.zeroValue253
  t167 := Tryz.underlying198
  a167 := Tryz.isAgg198
  z167 := Tryz.sizeOf198
  v167 := Tryz.zeroValue198
  t168 := Tryz.underlying201
  a168 := Tryz.isAgg201
  z168 := Tryz.sizeOf201
  v168 := Tryz.zeroValue201
  t171 := Tryz.underlying254
  a171 := Tryz.isAgg254
  z171 := Tryz.sizeOf254
  v171 := Tryz.zeroValue254
  t173 := Tryz.underlying257
  a173 := Tryz.isAgg257
  z173 := Tryz.sizeOf257
  v173 := Tryz.zeroValue257
  t175 := Tryz.underlying231
  a175 := Tryz.isAgg231
  z175 := Tryz.sizeOf231
  v175 := Tryz.zeroValue231
  t210 := Tryz.underlying234
  a210 := Tryz.isAgg234
  z210 := Tryz.sizeOf234
  v210 := Tryz.zeroValue234
  t212 := Tryz.underlying266
  a212 := Tryz.isAgg266
  z212 := Tryz.sizeOf266
  v212 := Tryz.zeroValue266
  t213 := Tryz.underlying267
  a213 := Tryz.isAgg267
  z213 := Tryz.sizeOf267
  t232 := Tryz.underlying278
  a232 := Tryz.isAgg278
  z232 := Tryz.sizeOf278
  v232 := Tryz.zeroValue278
  t233 := Tryz.underlying279
  a233 := Tryz.isAgg279
  z233 := Tryz.sizeOf279
  v233 := Tryz.zeroValue279
  g15 := by kernel_rfl
  g16 := by kernel_rfl
  g17 := by kernel_rfl
  g18 := by kernel_rfl
  g19 := by kernel_rfl
  t80 := Tryz.underlying119
  a80 := Tryz.isAgg119
  z80 := Tryz.sizeOf119
  v80 := Tryz.zeroValue119
  i0 := by kernel_rfl
  i2 := by kernel_rfl
  i3 := by kernel_rfl
  i4 := by kernel_rfl
  i5 := by kernel_rfl
  i9 := by kernel_rfl
  i20 := by kernel_rfl
  i21 := by kernel_rfl
  i37 := by kernel_rfl
  i46 := by kernel_rfl
  i51 := by kernel_rfl
  i53 := by kernel_rfl
  i75 := by kernel_rfl
  i76 := by kernel_rfl
  i80 := by kernel_rfl
  i85 := by kernel_rfl
  i127 := by kernel_rfl
  i143 := by kernel_rfl
  i145 := by kernel_rfl
  i167 := by kernel_rfl
  i168 := by kernel_rfl
  i171 := by kernel_rfl
  i173 := by kernel_rfl
  i175 := by kernel_rfl
  i210 := by kernel_rfl
  i212 := by kernel_rfl
  i232 := by kernel_rfl
  i233 := by kernel_rfl
  m15 := by kernel_rfl
  m16 := by kernel_rfl
  m17 := by kernel_rfl
  m18 := by kernel_rfl
  m19 := by kernel_rfl
  c0 := by kernel_rfl
  c2 := by kernel_rfl
  c3 := by kernel_rfl
  c4 := by kernel_rfl
  c5 := by kernel_rfl
  c9 := by kernel_rfl
  c20 := by kernel_rfl
  c21 := by kernel_rfl
  c37 := by kernel_rfl
  c46 := by kernel_rfl
  c51 := by kernel_rfl
  c53 := by kernel_rfl
  c75 := by kernel_rfl
  c76 := by kernel_rfl
  c80 := by kernel_rfl
  c85 := by kernel_rfl
  c127 := by kernel_rfl
  c143 := by kernel_rfl
  c145 := by kernel_rfl
  c167 := by kernel_rfl
  c168 := by kernel_rfl
  c171 := by kernel_rfl
  c173 := by kernel_rfl
  c175 := by kernel_rfl
  c210 := by kernel_rfl
  c212 := by kernel_rfl
  c213 := by kernel_rfl
  c232 := by kernel_rfl
  c233 := by kernel_rfl }
open Go.RowKit in
/-- strconv.Atoi, AT EVERY STRING OF AT MOST 18 BYTES THAT IS NO DECIMAL NUMERAL (the empty one too): 0, AND AN ERROR THAT IS NOT nil: a *NumError in a new block N: {Func: "Atoi", Num: s's bytes, Err: what the variable ErrSyntax holds}. Of what was there nothing has turned. (LAID: no walk: one application.) -/
theorem Tryz.strconv_Atoi_err (s : ByteArray) (hl : s.size ≤ 18) (h : Lib.atoi s.data.toList = none) (ev : Value) (w : World) (hv : w.cell? ⟨0, 0, none⟩ = some ev) (hev : ev = .nilIface ∨ ∃ te pe, ev = .iface te pe) :
    Calls Tryz.prog 112 #[.string s] w fun e w' => ∃ N, e = .returned (.tuple #[.int .i64 0, .iface 201 (.pointer (some ⟨N, 0, none⟩))]) ∧ w.heap.size ≤ N ∧ w'.heap[N]? = some (.cells #[.string ⟨#[65, 116, 111, 105]⟩, .string s, ev] 234 (0, 0)) ∧ Below w.heap.size w w' := Any.strconv_Atoi_err Tryz.laysC172 s hl h ev w hv hev
def Tryz.lays105_ren : Go.Shelf.Ren := ⟨fun | 105 => 120 | 212 => 169 | 99 => 170 | 165 => 171 | 166 => 172 | 170 => 173 | 169 => 93 | 263 => 213 | 264 => 214 | 206 => 215 | 240 => 216 | 241 => 217 | 276 => 252 | 277 => 253 | n => n, fun | 9 => 9 | 3 => 3 | 4 => 4 | 20 => 20 | 0 => 0 | 46 => 182 | 109 => 183 | 5 => 5 | 72 => 115 | 76 => 132 | 51 => 211 | 146 => 212 | 53 => 214 | 148 => 215 | 70 => 113 | 37 => 30 | 75 => 131 | 127 => 167 | 164 => 240 | 80 => 119 | n => n, fun | n => n⟩
theorem Tryz.lays105 : Go.Proofs.Lays.n105 Tryz.prog Tryz.lays105_ren := {
  mixed := by kernel_rfl
  f99 := Tryz.func170.trans (congrArg some (by kernel_rfl))
  f105 := Tryz.func120.trans (congrArg some (by kernel_rfl))
  f165 := Tryz.func171.trans (congrArg some (by kernel_rfl))
  f166 := Tryz.func172.trans (congrArg some (by kernel_rfl))
  f169 := Tryz.func93.trans (congrArg some (by kernel_rfl))
  f170 := Tryz.func173.trans (congrArg some (by kernel_rfl))
  f206 := Tryz.func215.trans (congrArg some (by kernel_rfl))
  f212 := Tryz.func169.trans (congrArg some (by kernel_rfl))
  f240 := Tryz.func216.trans (congrArg some (by kernel_rfl))
  f241 := Tryz.func217.trans (congrArg some (by kernel_rfl))
  f263 := Tryz.func213.trans (congrArg some (by kernel_rfl))
  f264 := Tryz.func214.trans (congrArg some (by kernel_rfl))
  f276 := Tryz.func252.trans (congrArg some (by kernel_rfl))
  f277 := Tryz.func253.trans (congrArg some (by kernel_rfl))
  t0 := Tryz.underlying0
  a0 := Tryz.isAgg0
  z0 := Tryz.sizeOf0
  v0 := Tryz.zeroValue0
  t3 := Tryz.underlying3
  a3 := Tryz.isAgg3
  z3 := Tryz.sizeOf3
  v3 := Tryz.zeroValue3
  t4 := Tryz.underlying4
  a4 := Tryz.isAgg4
  z4 := Tryz.sizeOf4
  v4 := Tryz.zeroValue4
  t5 := Tryz.underlying5
  a5 := Tryz.isAgg5
  z5 := Tryz.sizeOf5
  v5 := Tryz.zeroValue5
  t9 := Tryz.underlying9
  a9 := Tryz.isAgg9
  z9 := Tryz.sizeOf9
  v9 := Tryz.zeroValue9
  t20 := Tryz.underlying20
  a20 := Tryz.isAgg20
  z20 := Tryz.sizeOf20
  v20 := Tryz.zeroValue20
  t37 := Tryz.underlying30
  a37 := Tryz.isAgg30
  z37 := Tryz.sizeOf30
  v37 := Tryz.zeroValue30
  t46 := Tryz.underlying182
  a46 := Tryz.isAgg182
  z46 := Tryz.sizeOf182
  v46 := Tryz.zeroValue182
  t51 := Tryz.underlying211
  a51 := Tryz.isAgg211
  z51 := Tryz.sizeOf211
  v51 := Tryz.zeroValue211
  t53 := Tryz.underlying214
  a53 := Tryz.isAgg214
  z53 := Tryz.sizeOf214
  v53 := Tryz.zeroValue214
  t70 := Tryz.underlying113
  a70 := Tryz.isAgg113
  z70 := Tryz.sizeOf113
  v70 := Tryz.zeroValue113
  t72 := Tryz.underlying115
  a72 := Tryz.isAgg115
  z72 := Tryz.sizeOf115
  v72 := Tryz.zeroValue115
  t75 := Tryz.underlying131
  a75 := Tryz.isAgg131
  z75 := Tryz.sizeOf131
  v75 := Tryz.zeroValue131
  t76 := Tryz.underlying132
  a76 := Tryz.isAgg132
  z76 := Tryz.sizeOf132
  v76 := Tryz.zeroValue132
  t109 := Tryz.underlying183
  a109 := Tryz.isAgg183
  z109 := Tryz.sizeOf183
  v109 := Tryz.zeroValue183
  t127 := Tryz.underlying167
  a127 := Tryz.isAgg167
  z127 := Tryz.sizeOf167
  v127 := Tryz.zeroValue167
  t146 := Tryz.underlying212
  a146 := Tryz.isAgg212
  z146 := Tryz.sizeOf212
  v146 := Tryz.zeroValue212
  t148 := Tryz.underlying215
  a148 := Tryz.isAgg215
  z148 := Tryz.sizeOf215
  v148 := Tryz.zeroValue215
  t164 := Tryz.underlying240
  a164 := Tryz.isAgg240
  z164 := Tryz.sizeOf240
  v164 := Tryz.zeroValue240 }
theorem Tryz.Builder_Extra_105 : Builder.Extra Tryz.prog Tryz.lays105_ren := {
  sizeBuilder := by kernel_rfl
  liesBuilder := by kernel_rfl
  t5 := Tryz.underlying5
  a5 := Tryz.isAgg5
  z5 := Tryz.sizeOf5
  v5 := Tryz.zeroValue5
  infoByte := by kernel_rfl
  cellsByte := by kernel_rfl
  sizeByte := by kernel_rfl
  neB5 := by decide }
open Go.RowKit Go.Lib in
/-- **strings.Repeat: count ≥ 0, the result within one allocation: count copies of s.** (LAID: no walk: one application.) -/
theorem Tryz.strings_Repeat (s : ByteArray) (c : Nat) (w : World) (hc : c ≤ 9223372036854775807) (hlen : s.size * c ≤ 140737488355328) :
    Calls Tryz.prog 120 #[.string s, .int .i64 c] w fun e w' => e = .returned (.string ⟨(Lib.repeatL s.data.toList c).toArray⟩) ∧ Below w.heap.size w w' := Any.strings_Repeat Tryz.lays105 Tryz.Builder_Extra_105 s c w hc hlen
end Go.Proofs
set_option linter.unusedVariables false
namespace Go.Proofs.YtbakkcdanoopgaaGreatDoor.Ev.Pr
open Go
section
variable {ρ : Type}
def X_strconv_Itoa (x0 : Int) (κ : ByteArray → Option ρ) : Option ρ := if -9223372036854775808 ≤ x0 ∧ x0 ≤ 9223372036854775807 then κ ⟨(Lib.itoa x0).toArray⟩ else none
def X_strings_TrimRight (x0 x1 : ByteArray) (κ : ByteArray → Option ρ) : Option ρ := match x1.data.toList with
  | [c] => if c.toNat < 128 ∧ x0.size ≤ 9223372036854775807 then κ ⟨(Lib.trimRightB x0.data.toList c).toArray⟩ else none
  | _ => none
def X_strconv_Atoi (x0 : ByteArray) (κ : Int → Option ρ) : Option ρ := if x0.size ≤ 18 then κ ((Lib.atoi x0.data.toList).getD 0) else none
def X_strings_Repeat (x0 : ByteArray) (x1 : Int) (κ : ByteArray → Option ρ) : Option ρ := if 0 ≤ x1 ∧ x1 ≤ 9223372036854775807 ∧ x0.size * x1.toNat ≤ 140737488355328 then κ ⟨(Lib.repeatL x0.data.toList x1.toNat).toArray⟩ else none
end
end Go.Proofs.YtbakkcdanoopgaaGreatDoor.Ev.Pr
set_option linter.unusedVariables false
set_option maxRecDepth 100000
namespace Go.Proofs.YtbakkcdanoopgaaGreatDoor.Ev.Pr
open Go Go.RowKit Go.Proofs.YtbakkcdanoopgaaGreatDoorW.PrintWords Go.Proofs.YtbakkcdanoopgaaGreatDoorW.PrintMore Kd Go.Proofs.YtbakkcdanoopgaaGreatDoor.Ev
abbrev yt38r1 : Ty := .pr (.int .i64) .str
abbrev Tt38r1 : Type := Int × ByteArray
abbrev yt38 : Ty := .pr (.int .i64) yt38r1
abbrev Tt38 : Type := Int × Tt38r1
abbrev elt38 (xs : List Tt38) (i : Int) : Tt38 := elem yt38 xs i
abbrev yt75r2 : Ty := .pr .bool (.int .i64)
abbrev Tt75r2 : Type := Bool × Int
abbrev yt87 : Ty := .pr (.int .u8) yt75r2
abbrev Tt87 : Type := Int × Tt75r2
abbrev elt87 (xs : List Tt87) (i : Int) : Tt87 := elem yt87 xs i
structure Tb (ρ : Type) where
  laws_FnExactFormat : ByteArray → (List Tt38) → (Bool → Option ρ) → Option ρ
  laws_FnFormats : (List Int) → (Bool → Option ρ) → Option ρ
  laws_szCellS : (List Tt38) → Int → (Int → Option ρ) → Option ρ
  laws_szCellS_s5 : (List Tt38) → Int → Int → (Int → Option ρ) → Option ρ
  spec_Format : ByteArray → (List Tt38) → (ByteArray → Int → Option ρ) → Option ρ
  spec_Format_s5 : ByteArray → (List Tt38) → Int → Int → (ByteArray → Int → Option ρ) → Option ρ
  spec_Format_s14 : ByteArray → (List Tt38) → ByteArray → Int → Int → (ByteArray → Int → Option ρ) → Option ρ
  spec_Format_s15 : ByteArray → (List Tt38) → ByteArray → Int → Int → (ByteArray → Int → Option ρ) → Option ρ
  laws_toCellS : (List Tt38) → (List Tt38 → Option ρ) → Option ρ
  laws_toCellS_s3 : (List Tt38) → Int → (List Tt38) → (List Tt38 → Option ρ) → Option ρ
  impl_Format : ByteArray → (List Tt38) → (ByteArray → Int → Option ρ) → Option ρ
  impl_Format_s5 : (List Tt38) → (List Tt38) → Int → Int → (List ByteArray) → (List Tt87) → (ByteArray → Int → Option ρ) → Option ρ
  impl_Format_s14 : (List Tt38) → ByteArray → Int → Int → (List ByteArray) → (List Tt87) → (ByteArray → Int → Option ρ) → Option ρ
  laws_eqCellS : (List Tt38) → (List Tt38) → (Bool → Option ρ) → Option ρ
  laws_eqCellS_s4 : (List Tt38) → (List Tt38) → Int → (Bool → Option ρ) → Option ρ
  spec_DrawFormat : (List Int) → (ByteArray → List Tt38 → Option ρ) → Option ρ
  spec_DrawFormat_s5 : ByteArray → Int → (List Tt38) → (List Int) → Int → Int → (ByteArray → List Tt38 → Option ρ) → Option ρ
  impl_Places : ByteArray → (Int → Bool → Option ρ) → Option ρ
  impl_PlaceKinds : ByteArray → (ByteArray → Option ρ) → Option ρ
  impl_PlaceKinds_s4 : Int → Int → (List Tt87) → (List Int) → (ByteArray → Option ρ) → Option ρ
  laws_forms : (Bool → Option ρ) → Option ρ
  laws_szCell : Int → Int → ByteArray → Int → (Int → Option ρ) → Option ρ
  spec_Places : ByteArray → (Int → Bool → Option ρ) → Option ρ
  spec_Places_s5 : ByteArray → Int → Int → (Int → Bool → Option ρ) → Option ρ
  spec_CellOk : Int → Int → ByteArray → (Bool → Option ρ) → Option ρ
  spec_l9place : ByteArray → Int → (Int → Int → Bool → Int → Option ρ) → Option ρ
  spec_l9place_s8 : ByteArray → Int → Int → Int → Bool → Int → Int → Int → Bool → Int → (Int → Int → Bool → Int → Option ρ) → Option ρ
  spec_l9place_s9 : ByteArray → Int → Int → Int → Int → Bool → Int → Int → Int → Bool → Int → (Int → Int → Bool → Int → Option ρ) → Option ρ
  spec_l9place_s14 : ByteArray → Int → Int → Int → Bool → Int → Int → Int → Bool → Int → (Int → Int → Bool → Int → Option ρ) → Option ρ
  spec_l9place_s16 : Int → Int → Bool → Int → Int → Int → Bool → Int → (Int → Int → Bool → Int → Option ρ) → Option ρ
  spec_l9pad : ByteArray → Int → Int → Bool → Int → (ByteArray → Option ρ) → Option ρ
  spec_l9pad_s1 : ByteArray → Int → Int → Bool → Int → (ByteArray → Option ρ) → Option ρ
  spec_ToStr : Int → Int → ByteArray → (ByteArray → Option ρ) → Option ρ
  spec_DecText : Int → (ByteArray → Option ρ) → Option ρ
  spec_DecText_s11 : ByteArray → Int → Int → (ByteArray → Option ρ) → Option ρ
  spec_DecInt : Int → (Int → Option ρ) → Option ρ
  spec_ToNum : Int → Int → ByteArray → (Int → Option ρ) → Option ρ
  laws_toCell : Int → Int → ByteArray → (Int → Int → ByteArray → Option ρ) → Option ρ
  impl_parts : ByteArray → (List ByteArray → List Tt87 → Bool → Option ρ) → Option ρ
  impl_parts_s5 : ByteArray → Int → (List ByteArray) → (List Tt87) → (List Int) → (List ByteArray → List Tt87 → Bool → Option ρ) → Option ρ
  impl_parts_s16 : ByteArray → Int → (List ByteArray) → (List Tt87) → (List Int) → Int → Bool → Int → (List ByteArray → List Tt87 → Bool → Option ρ) → Option ρ
  impl_CellOk : Int → Int → ByteArray → (Bool → Option ρ) → Option ρ
  impl_place_text : Int → Bool → Int → Int → Int → ByteArray → (ByteArray → Option ρ) → Option ρ
  laws_eqCell : Int → Int → ByteArray → Int → Int → ByteArray → (Bool → Option ρ) → Option ρ
  spec_l1New : (List Int) → (List Int → Int → Int → Option ρ) → Option ρ
  spec_l1New_s3 : (List Int) → Int → Int → (List Int → Int → Int → Option ρ) → Option ρ
  spec_l9format : (List Int) → Int → Int → (ByteArray → Int → Int → Option ρ) → Option ρ
  spec_l9format_s3 : ByteArray → Int → (List Int) → Int → Int → (ByteArray → Int → Int → Option ρ) → Option ρ
  spec_l1Below : Int → (List Int) → Int → Int → (Int → Int → Int → Option ρ) → Option ρ
  spec_l7draw : (List Int) → Int → Int → (Int → Int → ByteArray → Int → Int → Option ρ) → Option ρ
  spec_l1Once : Int → (List Int) → Int → Int → (Bool → Int → Int → Option ρ) → Option ρ
  spec_l7bent : (List Int) → Int → Int → (Int → Int → ByteArray → Int → Int → Option ρ) → Option ρ
  spec_l7bent_s9 : (List Int) → Int → Int → Int → Int → ByteArray → Int → Int → ByteArray → (Int → Int → ByteArray → Int → Int → Option ρ) → Option ρ
  spec_l1bend : ByteArray → (List Int) → Int → Int → (ByteArray → Int → Int → Option ρ) → Option ρ
  spec_l1text : (List ByteArray) → (List Int) → Int → Int → (ByteArray → Int → Int → Option ρ) → Option ρ
  impl_between : Int → Int → Int → (Bool → Option ρ) → Option ρ
  spec_DecOk : Int → (Bool → Option ρ) → Option ρ
  spec_ReadDec : ByteArray → (Int → Int → Option ρ) → Option ρ
  spec_ReadDec_s6 : ByteArray → Int → Bool → (Int → Int → Option ρ) → Option ρ
  spec_ReadDec_s8 : ByteArray → Int → Bool → Int → Int → (Int → Int → Option ρ) → Option ρ
  spec_ReadDec_s15 : ByteArray → Int → Bool → Int → Int → (Int → Int → Option ρ) → Option ρ
  spec_ReadDec_s17 : ByteArray → Int → Bool → Int → Int → Int → (Int → Int → Option ρ) → Option ρ
  spec_ReadDec_s22 : Int → Bool → Int → Int → (Int → Int → Option ρ) → Option ρ
  spec_ReadDec_s26 : Int → Bool → Int → (Int → Int → Option ρ) → Option ρ
  spec_ReadDec_s28 : Int → Int → (Int → Int → Option ρ) → Option ρ
  spec_LooksNum : ByteArray → (Bool → Option ρ) → Option ρ
  spec_l1digit : Int → (Bool → Option ρ) → Option ρ
  spec_l1dec : Int → (ByteArray → Option ρ) → Option ρ
  spec_l1abs : Int → (Int → Option ρ) → Option ρ
  impl_run : ByteArray → Int → (Int → Option ρ) → Option ρ
  impl_run_s2 : ByteArray → Int → Int → (Int → Option ρ) → Option ρ
  impl_run_1 : ByteArray → Int → (Int → Option ρ) → Option ρ
  impl_run_1_s2 : ByteArray → Int → Int → (Int → Option ρ) → Option ρ
  impl_isDigit : Int → (Bool → Option ρ) → Option ρ
  strconv_Atoi : ByteArray → (Int → Option ρ) → Option ρ
  impl_DecOk : Int → (Bool → Option ρ) → Option ρ
  impl_ReadDec : ByteArray → (Int → Int → Option ρ) → Option ρ
  impl_ReadDec_s6 : ByteArray → Int → Bool → (Int → Int → Option ρ) → Option ρ
  impl_ReadDec_s15 : Int → Bool → ByteArray → ByteArray → (Int → Int → Option ρ) → Option ρ
  impl_ReadDec_s17 : Int → Bool → ByteArray → ByteArray → (Int → Int → Option ρ) → Option ρ
  impl_ReadDec_s19 : Int → Bool → Int → (List Int) → Int → Int → (Int → Int → Option ρ) → Option ρ
  impl_LooksNum : ByteArray → (Bool → Option ρ) → Option ρ
  impl_Cell_str : Int → Int → ByteArray → (ByteArray → Option ρ) → Option ρ
  impl_DecText : Int → (ByteArray → Option ρ) → Option ρ
  impl_DecText_s9 : ByteArray → (ByteArray → Option ρ) → Option ρ
  impl_DecInt : Int → (Int → Option ρ) → Option ρ
  impl_Cell_num : Int → Int → ByteArray → (Int → Option ρ) → Option ρ
  strings_Repeat : ByteArray → Int → (ByteArray → Option ρ) → Option ρ
  spec_l1of : Int → ByteArray → (List Int) → Int → Int → (ByteArray → Int → Int → Option ρ) → Option ρ
  spec_l1of_s3 : Int → ByteArray → Int → (List Int) → (List Int) → Int → Int → (ByteArray → Int → Int → Option ρ) → Option ρ
  spec_l1Byte : (List Int) → Int → Int → (Int → Int → Int → Option ρ) → Option ρ
  spec_FieldCell : ByteArray → (Int → Int → ByteArray → Option ρ) → Option ρ
  spec_l1num : (List Int) → Int → Int → (Int → Int → Int → Option ρ) → Option ρ
  spec_l1skip : ByteArray → Int → (Int → Option ρ) → Option ρ
  spec_l1skip_s1 : ByteArray → Int → (Int → Option ρ) → Option ρ
  impl_isSpace : Int → (Bool → Option ρ) → Option ρ
  strconv_Itoa : Int → (ByteArray → Option ρ) → Option ρ
  strings_TrimRight : ByteArray → ByteArray → (ByteArray → Option ρ) → Option ρ
  spec_l1PickInt : (List Int) → (List Int) → Int → Int → (Int → Int → Int → Option ρ) → Option ρ
  spec_l1white : Int → (Bool → Option ρ) → Option ρ
end Go.Proofs.YtbakkcdanoopgaaGreatDoor.Ev.Pr
set_option linter.unusedVariables false
set_option maxRecDepth 100000
namespace Go.Proofs.YtbakkcdanoopgaaGreatDoor.Ev.Pr
open Go Go.RowKit Go.Proofs.YtbakkcdanoopgaaGreatDoorW.PrintWords Go.Proofs.YtbakkcdanoopgaaGreatDoorW.PrintMore Kd Go.Proofs.YtbakkcdanoopgaaGreatDoor.Ev
section
variable {ρ : Type}
def B_laws_FnExactFormat (t : Tb ρ) (x0 : ByteArray) (x1 : List Tt38) (κ : Bool → Option ρ) : Option ρ := bif decide ((x0.size : Int) > 1048576) then (κ true) else (t.laws_szCellS x1 1048576 (fun (v2 : Int) => bif decide (v2 < 0) then (κ true) else (t.laws_toCellS x1 (fun (v3 : List Tt38) => t.spec_Format x0 v3 (fun (v4 : ByteArray) (v5 : Int) => t.laws_toCellS x1 (fun (v6 : List Tt38) => t.impl_Format x0 v6 (fun (v7 : ByteArray) (v8 : Int) => bif !(v7.toList == v4.toList) then (κ false) else (bif v8 != v5 then (κ false) else (t.laws_toCellS x1 (fun (v9 : List Tt38) => t.laws_eqCellS v6 v9 (fun (v10 : Bool) => bif !v10 then (κ false) else (κ true))))))))))))
def B_laws_FnFormats (t : Tb ρ) (x0 : List Int) (κ : Bool → Option ρ) : Option ρ := t.spec_DrawFormat x0 (fun (v1 : ByteArray) (v2 : List Tt38) => t.impl_Format v1 v2 (fun (v3 : ByteArray) (v4 : Int) => t.spec_Format v1 v2 (fun (v5 : ByteArray) (v6 : Int) => t.impl_Places v1 (fun (v7 : Int) (v8 : Bool) => bif v4 != v6 then (κ false) else (t.impl_PlaceKinds v1 (fun (v9 : ByteArray) => bif (v9.size : Int) != v7 then (κ false) else (bif v4 != 0 then (bif v3.toList == (bs []).toList then (bif v8 then (t.laws_forms  (fun (v10 : Bool) => κ v10)) else (bif v4 == 1 then (t.laws_forms  (fun (v11 : Bool) => κ v11)) else (κ false))) else (κ false)) else (if (0 + v2.length) * 32 ≤ 140737488355328 then if (([] ++ v2).length + 1) * 32 ≤ 140737488355328 then t.impl_Format v1 (([] ++ v2) ++ [(0, 0, bs [])]) (fun (v12 : ByteArray) (v13 : Int) => bif v13 == 0 then (bif v12.toList == v3.toList then (bif decide ((v2.length : Int) ≥ v7) then (bif decide ((v3.size : Int) ≤ 500) then (t.laws_forms  (fun (v14 : Bool) => κ v14)) else (κ false)) else (κ false)) else (κ false)) else (κ false)) else none else none))))))))
def B_laws_szCellS (t : Tb ρ) (x0 : List Tt38) (x1 : Int) (κ : Int → Option ρ) : Option ρ := bif decide ((w (x1 - (x0.length : Int))) < 0) then (κ (-1)) else (t.laws_szCellS_s5 x0 (w (x1 - (x0.length : Int))) 0 κ)
def B_laws_szCellS_s5 (t : Tb ρ) (x2 : List Tt38) (x3 : Int) (x4 : Int) (κ : Int → Option ρ) : Option ρ := bif decide (x4 < (x2.length : Int)) then (if (0 : Int) ≤ x4 then if x4 < (x2.length : Int) then t.laws_szCell (elt38 x2 x4).1 (elt38 x2 x4).2.1 (elt38 x2 x4).2.2 x3 (fun (v5 : Int) => bif decide (v5 < 0) then (κ (-1)) else (t.laws_szCellS_s5 x2 v5 (w (x4 + 1)) κ)) else none else none) else (κ x3)
def B_spec_Format (t : Tb ρ) (x0 : ByteArray) (x1 : List Tt38) (κ : ByteArray → Int → Option ρ) : Option ρ := t.spec_Places x0 (fun (v2 : Int) (v3 : Bool) => bif !v3 then (κ (bs []) 1) else (t.spec_Format_s5 x0 x1 v2 0 κ))
def B_spec_Format_s5 (t : Tb ρ) (x4 : ByteArray) (x5 : List Tt38) (x6 : Int) (x7 : Int) (κ : ByteArray → Int → Option ρ) : Option ρ := bif decide (x7 < (x5.length : Int)) then (if (0 : Int) ≤ x7 then if x7 < (x5.length : Int) then t.spec_CellOk (elt38 x5 x7).1 (elt38 x5 x7).2.1 (elt38 x5 x7).2.2 (fun (v8 : Bool) => bif !v8 then (κ (bs []) 1) else (t.spec_Format_s5 x4 x5 x6 (w (x7 + 1)) κ)) else none else none) else (bif decide ((x5.length : Int) < x6) then (κ (bs []) 2) else (t.spec_Format_s14 x4 x5 (bs []) 0 0 κ))
def B_spec_Format_s14 (t : Tb ρ) (x9 : ByteArray) (x10 : List Tt38) (x11 : ByteArray) (x12 : Int) (x13 : Int) (κ : ByteArray → Int → Option ρ) : Option ρ := bif decide (x13 < (x9.size : Int)) then (if (0 : Int) ≤ x13 then if x13 < (x9.size : Int) then bif (bt x9 x13) != 37 then (if (0 : Int) ≤ x13 then if x13 ≤ (w (x13 + 1)) then if (w (x13 + 1)) ≤ (x9.size : Int) then if x11.size + (x9.extract x13.toNat (w (x13 + 1)).toNat).size ≤ 9223372036854775807 then t.spec_Format_s15 x9 x10 (x11 ++ (x9.extract x13.toNat (w (x13 + 1)).toNat)) x12 x13 κ else none else none else none else none) else (t.spec_l9place x9 x13 (fun (v14 : Int) (v15 : Int) (v16 : Bool) (v17 : Int) => bif v14 == 115 then (if (0 : Int) ≤ x12 then if x12 < (x10.length : Int) then t.spec_ToStr (elt38 x10 x12).1 (elt38 x10 x12).2.1 (elt38 x10 x12).2.2 (fun (v18 : ByteArray) => t.spec_l9pad v18 v14 v15 v16 v17 (fun (v19 : ByteArray) => if x11.size + v19.size ≤ 9223372036854775807 then bif decide (((x11 ++ v19).size : Int) > 500) then (κ (bs []) 3) else (t.spec_Format_s15 x9 x10 (x11 ++ v19) (w (x12 + 1)) (w (v17 - 1)) κ) else none)) else none else none) else (bif v14 == 100 then (if (0 : Int) ≤ x12 then if x12 < (x10.length : Int) then t.spec_ToNum (elt38 x10 x12).1 (elt38 x10 x12).2.1 (elt38 x10 x12).2.2 (fun (v20 : Int) => t.spec_DecInt v20 (fun (v21 : Int) => t.spec_DecText v21 (fun (v22 : ByteArray) => t.spec_l9pad v22 v14 v15 v16 v17 (fun (v23 : ByteArray) => if x11.size + v23.size ≤ 9223372036854775807 then bif decide (((x11 ++ v23).size : Int) > 500) then (κ (bs []) 3) else (t.spec_Format_s15 x9 x10 (x11 ++ v23) (w (x12 + 1)) (w (v17 - 1)) κ) else none)))) else none else none) else (if x11.size + 1 ≤ 9223372036854775807 then bif decide (((x11 ++ (bs [37])).size : Int) > 500) then (κ (bs []) 3) else (t.spec_Format_s15 x9 x10 (x11 ++ (bs [37])) x12 (w (v17 - 1)) κ) else none)))) else none else none) else (bif decide ((x11.size : Int) > 500) then (κ (bs []) 3) else (κ x11 0))
def B_spec_Format_s15 (t : Tb ρ) (x24 : ByteArray) (x25 : List Tt38) (x26 : ByteArray) (x27 : Int) (x28 : Int) (κ : ByteArray → Int → Option ρ) : Option ρ := t.spec_Format_s14 x24 x25 x26 x27 (w (x28 + 1)) κ
def B_laws_toCellS (t : Tb ρ) (x0 : List Tt38) (κ : List Tt38 → Option ρ) : Option ρ := if (0 : Int) ≤ (x0.length : Int) then if (x0.length : Int) ≤ (x0.length : Int) then if (x0.length : Int).toNat * 32 ≤ 281474976710656 then t.laws_toCellS_s3 x0 0 (List.replicate (x0.length : Int).toNat (0, 0, bs [])) κ else none else none else none
def B_laws_toCellS_s3 (t : Tb ρ) (x1 : List Tt38) (x2 : Int) (x3 : List Tt38) (κ : List Tt38 → Option ρ) : Option ρ := bif decide (x2 < (x1.length : Int)) then (if (0 : Int) ≤ x2 then if x2 < (x1.length : Int) then t.laws_toCell (elt38 x1 x2).1 (elt38 x1 x2).2.1 (elt38 x1 x2).2.2 (fun (v4 : Int) (v5 : Int) (v6 : ByteArray) => if (0 : Int) ≤ x2 then if x2 < (x3.length : Int) then t.laws_toCellS_s3 x1 (w (x2 + 1)) (x3.set x2.toNat (v4, v5, v6)) κ else none else none) else none else none) else (κ x3)
def B_impl_Format (t : Tb ρ) (x0 : ByteArray) (x1 : List Tt38) (κ : ByteArray → Int → Option ρ) : Option ρ := t.impl_parts x0 (fun (v2 : List ByteArray) (v3 : List Tt87) (v4 : Bool) => bif !v4 then (κ (bs []) 1) else (t.impl_Format_s5 x1 x1 (x1.length : Int) 0 v2 v3 κ))
def B_impl_Format_s5 (t : Tb ρ) (x5 : List Tt38) (x6 : List Tt38) (x7 : Int) (x8 : Int) (x9 : List ByteArray) (x10 : List Tt87) (κ : ByteArray → Int → Option ρ) : Option ρ := bif decide (x8 < x7) then (if (0 : Int) ≤ x8 then if x8 < (x6.length : Int) then t.impl_CellOk (elt38 x6 x8).1 (elt38 x6 x8).2.1 (elt38 x6 x8).2.2 (fun (v11 : Bool) => bif !v11 then (κ (bs []) 1) else (t.impl_Format_s5 x5 x6 x7 (w (x8 + 1)) x9 x10 κ)) else none else none) else (bif decide ((x5.length : Int) < (x10.length : Int)) then (κ (bs []) 2) else (t.impl_Format_s14 x5 (bs []) (x9.length : Int) 0 x9 x10 κ))
def B_impl_Format_s14 (t : Tb ρ) (x12 : List Tt38) (x13 : ByteArray) (x14 : Int) (x15 : Int) (x16 : List ByteArray) (x17 : List Tt87) (κ : ByteArray → Int → Option ρ) : Option ρ := bif decide (x15 < x14) then (if (0 : Int) ≤ x15 then if x15 < (x16.length : Int) then if x13.size + (elS x16 x15).size ≤ 9223372036854775807 then bif decide (x15 < (x17.length : Int)) then (if (0 : Int) ≤ x15 then if x15 < (x17.length : Int) then if (0 : Int) ≤ x15 then if x15 < (x12.length : Int) then t.impl_place_text (elt87 x17 x15).1 (elt87 x17 x15).2.1 (elt87 x17 x15).2.2 (elt38 x12 x15).1 (elt38 x12 x15).2.1 (elt38 x12 x15).2.2 (fun (v18 : ByteArray) => if (x13 ++ (elS x16 x15)).size + v18.size ≤ 9223372036854775807 then t.impl_Format_s14 x12 ((x13 ++ (elS x16 x15)) ++ v18) x14 (w (x15 + 1)) x16 x17 κ else none) else none else none else none else none) else (t.impl_Format_s14 x12 (x13 ++ (elS x16 x15)) x14 (w (x15 + 1)) x16 x17 κ) else none else none else none) else (bif decide ((x13.size : Int) > 500) then (κ (bs []) 3) else (κ x13 0))
def B_laws_eqCellS (t : Tb ρ) (x0 : List Tt38) (x1 : List Tt38) (κ : Bool → Option ρ) : Option ρ := bif (x0.length : Int) != (x1.length : Int) then (κ false) else (t.laws_eqCellS_s4 x0 x1 0 κ)
def B_laws_eqCellS_s4 (t : Tb ρ) (x2 : List Tt38) (x3 : List Tt38) (x4 : Int) (κ : Bool → Option ρ) : Option ρ := bif decide (x4 < (x2.length : Int)) then (if (0 : Int) ≤ x4 then if x4 < (x2.length : Int) then if (0 : Int) ≤ x4 then if x4 < (x3.length : Int) then t.laws_eqCell (elt38 x2 x4).1 (elt38 x2 x4).2.1 (elt38 x2 x4).2.2 (elt38 x3 x4).1 (elt38 x3 x4).2.1 (elt38 x3 x4).2.2 (fun (v5 : Bool) => bif !v5 then (κ false) else (t.laws_eqCellS_s4 x2 x3 (w (x4 + 1)) κ)) else none else none else none else none) else (κ true)
def B_spec_DrawFormat (t : Tb ρ) (x0 : List Int) (κ : ByteArray → List Tt38 → Option ρ) : Option ρ := t.spec_l1New x0 (fun (v1 : List Int) (v2 : Int) (v3 : Int) => t.spec_l9format v1 v2 v3 (fun (v4 : ByteArray) (v5 : Int) (v6 : Int) => t.spec_l1Below 7 v1 v5 v6 (fun (v7 : Int) (v8 : Int) (v9 : Int) => t.spec_DrawFormat_s5 v4 v7 [] v1 v8 v9 κ)))
def B_spec_DrawFormat_s5 (t : Tb ρ) (x10 : ByteArray) (x11 : Int) (x12 : List Tt38) (x13 : List Int) (x14 : Int) (x15 : Int) (κ : ByteArray → List Tt38 → Option ρ) : Option ρ := bif decide (x11 > 0) then (t.spec_l7draw x13 x14 x15 (fun (v16 : Int) (v17 : Int) (v18 : ByteArray) (v19 : Int) (v20 : Int) => if (x12.length + 1) * 32 ≤ 140737488355328 then t.spec_DrawFormat_s5 x10 (w (x11 - 1)) (x12 ++ [(v16, v17, v18)]) x13 v19 v20 κ else none)) else (t.spec_l1Once 10 x13 x14 x15 (fun (v21 : Bool) (v22 : Int) (v23 : Int) => bif v21 then (t.spec_l7bent x13 v22 v23 (fun (v24 : Int) (v25 : Int) (v26 : ByteArray) (v27 : Int) (v28 : Int) => if (x12.length + 1) * 32 ≤ 140737488355328 then κ x10 (x12 ++ [(v24, v25, v26)]) else none)) else (κ x10 x12)))
def B_impl_Places (t : Tb ρ) (x0 : ByteArray) (κ : Int → Bool → Option ρ) : Option ρ := t.impl_parts x0 (fun (v1 : List ByteArray) (v2 : List Tt87) (v3 : Bool) => κ (v2.length : Int) v3)
def B_impl_PlaceKinds (t : Tb ρ) (x0 : ByteArray) (κ : ByteArray → Option ρ) : Option ρ := t.impl_parts x0 (fun (v1 : List ByteArray) (v2 : List Tt87) (v3 : Bool) => t.impl_PlaceKinds_s4 (v2.length : Int) 0 v2 [] κ)
def B_impl_PlaceKinds_s4 (t : Tb ρ) (x4 : Int) (x5 : Int) (x6 : List Tt87) (x7 : List Int) (κ : ByteArray → Option ρ) : Option ρ := bif decide (x5 < x4) then (if (0 : Int) ≤ x5 then if x5 < (x6.length : Int) then if (x7.length + 1) * 1 ≤ 140737488355328 then t.impl_PlaceKinds_s4 x4 (w (x5 + 1)) x6 (x7 ++ [(elt87 x6 x5).1]) κ else none else none else none) else (κ (strOfNums x7))
def B_laws_forms (t : Tb ρ) (κ : Bool → Option ρ) : Option ρ := t.impl_Format (bs [37, 51, 115, 124, 37, 45, 50, 100, 124, 37, 37]) [(2, 0, bs [97]), (1, 2500000, bs [])] (fun (v0 : ByteArray) (v1 : Int) => bif v1 == 0 then (bif v0.toList == (bs [32, 32, 97, 124, 50, 32, 124, 37]).toList then (t.impl_PlaceKinds (bs [37, 115, 37, 100]) (fun (v2 : ByteArray) => κ (v2.toList == (bs [115, 100]).toList))) else (κ false)) else (κ false))
def B_laws_szCell (t : Tb ρ) (x0 : Int) (x1 : Int) (x2 : ByteArray) (x3 : Int) (κ : Int → Option ρ) : Option ρ := bif decide ((w (x3 - (x2.size : Int))) < 0) then (κ (-1)) else (κ (w (x3 - (x2.size : Int))))
def B_spec_Places (t : Tb ρ) (x0 : ByteArray) (κ : Int → Bool → Option ρ) : Option ρ := bif decide ((x0.size : Int) > 500) then (κ 0 false) else (t.spec_Places_s5 x0 0 0 κ)
def B_spec_Places_s5 (t : Tb ρ) (x1 : ByteArray) (x2 : Int) (x3 : Int) (κ : Int → Bool → Option ρ) : Option ρ := bif decide (x3 < (x1.size : Int)) then (if (0 : Int) ≤ x3 then if x3 < (x1.size : Int) then bif (bt x1 x3) != 37 then (t.spec_Places_s5 x1 x2 (w (x3 + 1)) κ) else (t.spec_l9place x1 x3 (fun (v4 : Int) (v5 : Int) (v6 : Bool) (v7 : Int) => bif v4 == 0 then (κ 0 false) else (bif v4 != 37 then (t.spec_Places_s5 x1 (w (x2 + 1)) (w ((w (v7 - 1)) + 1)) κ) else (t.spec_Places_s5 x1 x2 (w ((w (v7 - 1)) + 1)) κ)))) else none else none) else (κ x2 true)
def B_spec_CellOk (t : Tb ρ) (x0 : Int) (x1 : Int) (x2 : ByteArray) (κ : Bool → Option ρ) : Option ρ := bif decide ((x2.size : Int) > 500) then (κ false) else (bif x0 == 0 then (bif x2.toList == (bs []).toList then (κ (x1 == 0)) else (κ false)) else (bif x0 == 1 then (bif x2.toList == (bs []).toList then (t.spec_DecOk x1 (fun (v3 : Bool) => κ v3)) else (κ false)) else (bif x0 == 2 then (κ (x1 == 0)) else (bif x0 == 3 then (t.spec_ReadDec x2 (fun (v4 : Int) (v5 : Int) => t.spec_LooksNum x2 (fun (v6 : Bool) => bif v6 then (κ (x1 == v4)) else (κ false)))) else (κ false)))))
def B_spec_l9place (t : Tb ρ) (x0 : ByteArray) (x1 : Int) (κ : Int → Int → Bool → Int → Option ρ) : Option ρ := bif decide ((w (x1 + 1)) < (x0.size : Int)) then (if (0 : Int) ≤ (w (x1 + 1)) then if (w (x1 + 1)) < (x0.size : Int) then bif (bt x0 (w (x1 + 1))) == 37 then (κ 37 0 false (w ((w (x1 + 1)) + 1))) else (bif decide ((w (x1 + 1)) < (x0.size : Int)) then (if (0 : Int) ≤ (w (x1 + 1)) then if (w (x1 + 1)) < (x0.size : Int) then bif (bt x0 (w (x1 + 1))) == 45 then (t.spec_l9place_s8 x0 (w ((w (x1 + 1)) + 1)) 0 0 false 0 0 0 true 0 κ) else (t.spec_l9place_s8 x0 (w (x1 + 1)) 0 0 false 0 0 0 false 0 κ) else none else none) else (t.spec_l9place_s8 x0 (w (x1 + 1)) 0 0 false 0 0 0 false 0 κ)) else none else none) else (bif decide ((w (x1 + 1)) < (x0.size : Int)) then (if (0 : Int) ≤ (w (x1 + 1)) then if (w (x1 + 1)) < (x0.size : Int) then bif (bt x0 (w (x1 + 1))) == 45 then (t.spec_l9place_s8 x0 (w ((w (x1 + 1)) + 1)) 0 0 false 0 0 0 true 0 κ) else (t.spec_l9place_s8 x0 (w (x1 + 1)) 0 0 false 0 0 0 false 0 κ) else none else none) else (t.spec_l9place_s8 x0 (w (x1 + 1)) 0 0 false 0 0 0 false 0 κ))
def B_spec_l9place_s8 (t : Tb ρ) (x2 : ByteArray) (x3 : Int) (x4 : Int) (x5 : Int) (x6 : Bool) (x7 : Int) (x8 : Int) (x9 : Int) (x10 : Bool) (x11 : Int) (κ : Int → Int → Bool → Int → Option ρ) : Option ρ := t.spec_l9place_s9 x2 x3 0 x4 x5 x6 x7 x8 x9 x10 x11 κ
def B_spec_l9place_s9 (t : Tb ρ) (x12 : ByteArray) (x13 : Int) (x14 : Int) (x15 : Int) (x16 : Int) (x17 : Bool) (x18 : Int) (x19 : Int) (x20 : Int) (x21 : Bool) (x22 : Int) (κ : Int → Int → Bool → Int → Option ρ) : Option ρ := bif decide (x14 < 2) then (bif decide (x13 < (x12.size : Int)) then (if (0 : Int) ≤ x13 then if x13 < (x12.size : Int) then t.spec_l1digit (bt x12 x13) (fun (v23 : Bool) => bif v23 then (if (0 : Int) ≤ x13 then if x13 < (x12.size : Int) then t.spec_l9place_s9 x12 (w (x13 + 1)) (w (x14 + 1)) x15 x16 x17 x18 x19 (w ((w (10 * x20)) + (w (IntKind.wrap .u8 ((bt x12 x13) - 48))))) x21 x22 κ else none else none) else (bif decide (x13 < (x12.size : Int)) then (if (0 : Int) ≤ x13 then if x13 < (x12.size : Int) then bif (bt x12 x13) == 100 then (t.spec_l9place_s14 x12 x13 x15 x16 x17 x18 x19 x20 x21 x22 κ) else (if (0 : Int) ≤ x13 then if x13 < (x12.size : Int) then bif (bt x12 x13) == 115 then (t.spec_l9place_s14 x12 x13 x15 x16 x17 x18 x19 x20 x21 x22 κ) else (t.spec_l9place_s16 x15 x16 x17 x18 x19 x20 x21 x22 κ) else none else none) else none else none) else (t.spec_l9place_s16 x15 x16 x17 x18 x19 x20 x21 x22 κ))) else none else none) else (bif decide (x13 < (x12.size : Int)) then (if (0 : Int) ≤ x13 then if x13 < (x12.size : Int) then bif (bt x12 x13) == 100 then (t.spec_l9place_s14 x12 x13 x15 x16 x17 x18 x19 x20 x21 x22 κ) else (if (0 : Int) ≤ x13 then if x13 < (x12.size : Int) then bif (bt x12 x13) == 115 then (t.spec_l9place_s14 x12 x13 x15 x16 x17 x18 x19 x20 x21 x22 κ) else (t.spec_l9place_s16 x15 x16 x17 x18 x19 x20 x21 x22 κ) else none else none) else none else none) else (t.spec_l9place_s16 x15 x16 x17 x18 x19 x20 x21 x22 κ))) else (bif decide (x13 < (x12.size : Int)) then (if (0 : Int) ≤ x13 then if x13 < (x12.size : Int) then bif (bt x12 x13) == 100 then (t.spec_l9place_s14 x12 x13 x15 x16 x17 x18 x19 x20 x21 x22 κ) else (if (0 : Int) ≤ x13 then if x13 < (x12.size : Int) then bif (bt x12 x13) == 115 then (t.spec_l9place_s14 x12 x13 x15 x16 x17 x18 x19 x20 x21 x22 κ) else (t.spec_l9place_s16 x15 x16 x17 x18 x19 x20 x21 x22 κ) else none else none) else none else none) else (t.spec_l9place_s16 x15 x16 x17 x18 x19 x20 x21 x22 κ))
def B_spec_l9place_s14 (t : Tb ρ) (x24 : ByteArray) (x25 : Int) (x26 : Int) (x27 : Int) (x28 : Bool) (x29 : Int) (x30 : Int) (x31 : Int) (x32 : Bool) (x33 : Int) (κ : Int → Int → Bool → Int → Option ρ) : Option ρ := if (0 : Int) ≤ x25 then if x25 < (x24.size : Int) then t.spec_l9place_s16 x26 x27 x28 x29 (bt x24 x25) x31 x32 (w (x25 + 1)) κ else none else none
def B_spec_l9place_s16 (t : Tb ρ) (x34 : Int) (x35 : Int) (x36 : Bool) (x37 : Int) (x38 : Int) (x39 : Int) (x40 : Bool) (x41 : Int) (κ : Int → Int → Bool → Int → Option ρ) : Option ρ := κ x38 x39 x40 x41
def B_spec_l9pad (t : Tb ρ) (x0 : ByteArray) (x1 : Int) (x2 : Int) (x3 : Bool) (x4 : Int) (κ : ByteArray → Option ρ) : Option ρ := t.spec_l9pad_s1 x0 x1 x2 x3 x4 κ
def B_spec_l9pad_s1 (t : Tb ρ) (x5 : ByteArray) (x6 : Int) (x7 : Int) (x8 : Bool) (x9 : Int) (κ : ByteArray → Option ρ) : Option ρ := bif decide ((x5.size : Int) < x7) then (bif x8 then (if x5.size + 1 ≤ 9223372036854775807 then t.spec_l9pad_s1 (x5 ++ (bs [32])) x6 x7 x8 x9 κ else none) else (if 1 + x5.size ≤ 9223372036854775807 then t.spec_l9pad_s1 ((bs [32]) ++ x5) x6 x7 x8 x9 κ else none)) else (κ x5)
def B_spec_ToStr (t : Tb ρ) (x0 : Int) (x1 : Int) (x2 : ByteArray) (κ : ByteArray → Option ρ) : Option ρ := t.spec_CellOk x0 x1 x2 (fun (v3 : Bool) => bif !v3 then (κ (bs [])) else (bif x0 == 1 then (t.spec_DecText x1 (fun (v4 : ByteArray) => κ v4)) else (κ x2)))
def B_spec_DecText (t : Tb ρ) (x0 : Int) (κ : ByteArray → Option ρ) : Option ρ := t.spec_DecOk x0 (fun (v1 : Bool) => bif !v1 then (κ (bs [])) else (t.spec_l1abs x0 (fun (v2 : Int) => t.spec_l1dec (w (v2.tdiv 1000000)) (fun (v3 : ByteArray) => bif decide (x0 < 0) then (if 1 + v3.size ≤ 9223372036854775807 then t.spec_l1abs x0 (fun (v4 : Int) => bif (v4.tmod 1000000) == 0 then (κ ((bs [45]) ++ v3)) else (if ((bs [45]) ++ v3).size + 1 ≤ 9223372036854775807 then t.spec_DecText_s11 (((bs [45]) ++ v3) ++ (bs [46])) (v4.tmod 1000000) 100000 κ else none)) else none) else (t.spec_l1abs x0 (fun (v5 : Int) => bif (v5.tmod 1000000) == 0 then (κ v3) else (if v3.size + 1 ≤ 9223372036854775807 then t.spec_DecText_s11 (v3 ++ (bs [46])) (v5.tmod 1000000) 100000 κ else none)))))))
def B_spec_DecText_s11 (t : Tb ρ) (x6 : ByteArray) (x7 : Int) (x8 : Int) (κ : ByteArray → Option ρ) : Option ρ := bif decide (x7 > 0) then (if x8 = 0 then none else t.spec_l1dec (w (x7.tdiv x8)) (fun (v9 : ByteArray) => if x6.size + v9.size ≤ 9223372036854775807 then if x8 = 0 then none else t.spec_DecText_s11 (x6 ++ v9) (x7.tmod x8) (w (x8.tdiv 10)) κ else none)) else (κ x6)
def B_spec_DecInt (t : Tb ρ) (x0 : Int) (κ : Int → Option ρ) : Option ρ := t.spec_DecOk x0 (fun (v1 : Bool) => bif !v1 then (κ 0) else (κ (w ((w (x0.tdiv 1000000)) * 1000000))))
def B_spec_ToNum (t : Tb ρ) (x0 : Int) (x1 : Int) (x2 : ByteArray) (κ : Int → Option ρ) : Option ρ := t.spec_CellOk x0 x1 x2 (fun (v3 : Bool) => bif !v3 then (κ 0) else (bif x0 == 2 then (t.spec_ReadDec x2 (fun (v4 : Int) (v5 : Int) => κ v4)) else (κ x1)))
def B_laws_toCell (t : Tb ρ) (x0 : Int) (x1 : Int) (x2 : ByteArray) (κ : Int → Int → ByteArray → Option ρ) : Option ρ := κ x0 x1 x2
def B_impl_parts (t : Tb ρ) (x0 : ByteArray) (κ : List ByteArray → List Tt87 → Bool → Option ρ) : Option ρ := bif decide ((x0.size : Int) > 500) then (κ [] [] false) else (t.impl_parts_s5 x0 0 [] [] [] κ)
def B_impl_parts_s5 (t : Tb ρ) (x1 : ByteArray) (x2 : Int) (x3 : List ByteArray) (x4 : List Tt87) (x5 : List Int) (κ : List ByteArray → List Tt87 → Bool → Option ρ) : Option ρ := bif decide (x2 < (x1.size : Int)) then (if (0 : Int) ≤ x2 then if x2 < (x1.size : Int) then bif (bt x1 x2) != 37 then (if (0 : Int) ≤ x2 then if x2 < (x1.size : Int) then if (x5.length + 1) * 1 ≤ 140737488355328 then t.impl_parts_s5 x1 (w (x2 + 1)) x3 x4 (x5 ++ [bt x1 x2]) κ else none else none else none) else (bif decide ((w (x2 + 1)) < (x1.size : Int)) then (if (0 : Int) ≤ (w (x2 + 1)) then if (w (x2 + 1)) < (x1.size : Int) then bif (bt x1 (w (x2 + 1))) == 37 then (if (x5.length + 1) * 1 ≤ 140737488355328 then t.impl_parts_s5 x1 (w ((w (x2 + 1)) + 1)) x3 x4 (x5 ++ [37]) κ else none) else (bif decide ((w (x2 + 1)) < (x1.size : Int)) then (if (0 : Int) ≤ (w (x2 + 1)) then if (w (x2 + 1)) < (x1.size : Int) then bif (bt x1 (w (x2 + 1))) == 45 then (t.impl_parts_s16 x1 (w ((w (x2 + 1)) + 1)) x3 x4 x5 0 true 0 κ) else (t.impl_parts_s16 x1 (w (x2 + 1)) x3 x4 x5 0 false 0 κ) else none else none) else (t.impl_parts_s16 x1 (w (x2 + 1)) x3 x4 x5 0 false 0 κ)) else none else none) else (bif decide ((w (x2 + 1)) < (x1.size : Int)) then (if (0 : Int) ≤ (w (x2 + 1)) then if (w (x2 + 1)) < (x1.size : Int) then bif (bt x1 (w (x2 + 1))) == 45 then (t.impl_parts_s16 x1 (w ((w (x2 + 1)) + 1)) x3 x4 x5 0 true 0 κ) else (t.impl_parts_s16 x1 (w (x2 + 1)) x3 x4 x5 0 false 0 κ) else none else none) else (t.impl_parts_s16 x1 (w (x2 + 1)) x3 x4 x5 0 false 0 κ))) else none else none) else (if (x3.length + 1) * 16 ≤ 140737488355328 then κ (x3 ++ [strOfNums x5]) x4 true else none)
def B_impl_parts_s16 (t : Tb ρ) (x6 : ByteArray) (x7 : Int) (x8 : List ByteArray) (x9 : List Tt87) (x10 : List Int) (x11 : Int) (x12 : Bool) (x13 : Int) (κ : List ByteArray → List Tt87 → Bool → Option ρ) : Option ρ := t.impl_run x6 x7 (fun (v14 : Int) => if (0 : Int) ≤ x7 then if x7 ≤ (w (x7 + (mn v14 2))) then if (w (x7 + (mn v14 2))) ≤ (x6.size : Int) then t.strconv_Atoi (x6.extract x7.toNat (w (x7 + (mn v14 2))).toNat) (fun (v15 : Int) => bif decide ((w (x7 + (mn v14 2))) ≥ (x6.size : Int)) then (κ [] [] false) else (if (0 : Int) ≤ (w (x7 + (mn v14 2))) then if (w (x7 + (mn v14 2))) < (x6.size : Int) then bif (bt x6 (w (x7 + (mn v14 2)))) != 100 then (if (0 : Int) ≤ (w (x7 + (mn v14 2))) then if (w (x7 + (mn v14 2))) < (x6.size : Int) then bif (bt x6 (w (x7 + (mn v14 2)))) != 115 then (κ [] [] false) else (if (0 : Int) ≤ (w (x7 + (mn v14 2))) then if (w (x7 + (mn v14 2))) < (x6.size : Int) then if (x8.length + 1) * 16 ≤ 140737488355328 then if (x9.length + 1) * 16 ≤ 140737488355328 then t.impl_parts_s5 x6 (w ((w (x7 + (mn v14 2))) + 1)) (x8 ++ [strOfNums x10]) (x9 ++ [(bt x6 (w (x7 + (mn v14 2))), x12, v15)]) [] κ else none else none else none else none) else none else none) else (if (0 : Int) ≤ (w (x7 + (mn v14 2))) then if (w (x7 + (mn v14 2))) < (x6.size : Int) then if (x8.length + 1) * 16 ≤ 140737488355328 then if (x9.length + 1) * 16 ≤ 140737488355328 then t.impl_parts_s5 x6 (w ((w (x7 + (mn v14 2))) + 1)) (x8 ++ [strOfNums x10]) (x9 ++ [(bt x6 (w (x7 + (mn v14 2))), x12, v15)]) [] κ else none else none else none else none) else none else none)) else none else none else none)
def B_impl_CellOk (t : Tb ρ) (x0 : Int) (x1 : Int) (x2 : ByteArray) (κ : Bool → Option ρ) : Option ρ := bif x0 == 0 then (bif x2.toList == (bs []).toList then (κ (x1 == 0)) else (κ false)) else (bif x0 == 1 then (bif x2.toList == (bs []).toList then (t.impl_DecOk x1 (fun (v3 : Bool) => κ v3)) else (κ false)) else (bif x0 == 2 then (bif decide ((x2.size : Int) ≤ 500) then (κ (x1 == 0)) else (κ false)) else (bif x0 == 3 then (t.impl_ReadDec x2 (fun (v4 : Int) (v5 : Int) => bif decide ((x2.size : Int) ≤ 500) then (t.impl_LooksNum x2 (fun (v6 : Bool) => bif v6 then (κ (x1 == v4)) else (κ false))) else (κ false))) else (κ false))))
def B_impl_place_text (t : Tb ρ) (x0 : Int) (x1 : Bool) (x2 : Int) (x3 : Int) (x4 : Int) (x5 : ByteArray) (κ : ByteArray → Option ρ) : Option ρ := t.impl_Cell_str x3 x4 x5 (fun (v6 : ByteArray) => bif x0 == 100 then (t.impl_Cell_num x3 x4 x5 (fun (v7 : Int) => t.impl_DecInt v7 (fun (v8 : Int) => t.impl_DecText v8 (fun (v9 : ByteArray) => t.strings_Repeat (bs [32]) (mx 0 (w (x2 - (v9.size : Int)))) (fun (v10 : ByteArray) => bif x1 then (if v9.size + v10.size ≤ 9223372036854775807 then κ (v9 ++ v10) else none) else (if v10.size + v9.size ≤ 9223372036854775807 then κ (v10 ++ v9) else none)))))) else (t.strings_Repeat (bs [32]) (mx 0 (w (x2 - (v6.size : Int)))) (fun (v11 : ByteArray) => bif x1 then (if v6.size + v11.size ≤ 9223372036854775807 then κ (v6 ++ v11) else none) else (if v11.size + v6.size ≤ 9223372036854775807 then κ (v11 ++ v6) else none))))
def B_laws_eqCell (t : Tb ρ) (x0 : Int) (x1 : Int) (x2 : ByteArray) (x3 : Int) (x4 : Int) (x5 : ByteArray) (κ : Bool → Option ρ) : Option ρ := bif x0 != x3 then (κ false) else (bif x1 != x4 then (κ false) else (bif !(x2.toList == x5.toList) then (κ false) else (κ true)))
def B_spec_l1New (t : Tb ρ) (x0 : List Int) (κ : List Int → Int → Int → Option ρ) : Option ρ := t.spec_l1New_s3 x0 (w (64242 + (x0.length : Int))) 0 κ
def B_spec_l1New_s3 (t : Tb ρ) (x1 : List Int) (x2 : Int) (x3 : Int) (κ : List Int → Int → Int → Option ρ) : Option ρ := bif decide (x3 < (x1.length : Int)) then (bif decide (x3 < 4000) then (if (0 : Int) ≤ x3 then if x3 < (x1.length : Int) then t.spec_l1New_s3 x1 (bitand .i64 (w ((w ((w (x2 * 131)) + (w (elI .u8 x1 x3)))) + 7)) 1073741823) (w (x3 + 1)) κ else none else none) else (κ x1 0 x2)) else (κ x1 0 x2)
def B_spec_l9format (t : Tb ρ) (x0 : List Int) (x1 : Int) (x2 : Int) (κ : ByteArray → Int → Int → Option ρ) : Option ρ := t.spec_l1Below 6 x0 x1 x2 (fun (v3 : Int) (v4 : Int) (v5 : Int) => t.spec_l9format_s3 (bs []) v3 x0 v4 v5 κ)
def B_spec_l9format_s3 (t : Tb ρ) (x6 : ByteArray) (x7 : Int) (x8 : List Int) (x9 : Int) (x10 : Int) (κ : ByteArray → Int → Int → Option ρ) : Option ρ := bif decide (x7 > 0) then (t.spec_l1text [bs [97], bs [37, 115], bs [37, 100], bs [37, 53, 115], bs [37, 45, 52, 100], bs [37, 37], bs [32], bs [37, 49, 50, 115]] x8 x9 x10 (fun (v11 : ByteArray) (v12 : Int) (v13 : Int) => if x6.size + v11.size ≤ 9223372036854775807 then t.spec_l9format_s3 (x6 ++ v11) (w (x7 - 1)) x8 v12 v13 κ else none)) else (t.spec_l1Below 12 x8 x9 x10 (fun (v14 : Int) (v15 : Int) (v16 : Int) => bif v14 == 0 then (t.spec_l1bend x6 x8 v15 v16 (fun (v17 : ByteArray) (v18 : Int) (v19 : Int) => κ v17 v18 v19)) else (bif v14 == 1 then (t.spec_l1text [bs [37], bs [37, 113], bs [37, 49, 50, 51, 115], bs [37, 45], bs [37, 53]] x8 v15 v16 (fun (v20 : ByteArray) (v21 : Int) (v22 : Int) => if x6.size + v20.size ≤ 9223372036854775807 then κ (x6 ++ v20) v21 v22 else none)) else (bif v14 == 2 then (t.spec_l1Below 5 x8 v15 v16 (fun (v23 : Int) (v24 : Int) (v25 : Int) => t.spec_l1of (w (497 + v23)) (bs [102]) x8 v24 v25 (fun (v26 : ByteArray) (v27 : Int) (v28 : Int) => if v26.size + 2 ≤ 9223372036854775807 then κ (v26 ++ (bs [37, 115])) v27 v28 else none))) else (κ x6 v15 v16)))))
def B_spec_l1Below (t : Tb ρ) (x0 : Int) (x1 : List Int) (x2 : Int) (x3 : Int) (κ : Int → Int → Int → Option ρ) : Option ρ := bif decide (x0 ≤ 0) then (κ 0 x2 x3) else (bif decide (x0 ≤ 256) then (t.spec_l1Byte x1 x2 x3 (fun (v4 : Int) (v5 : Int) (v6 : Int) => if x0 = 0 then none else κ (v4.tmod x0) v5 v6)) else (t.spec_l1Byte x1 x2 x3 (fun (v7 : Int) (v8 : Int) (v9 : Int) => t.spec_l1Byte x1 v8 v9 (fun (v10 : Int) (v11 : Int) (v12 : Int) => t.spec_l1Byte x1 v11 v12 (fun (v13 : Int) (v14 : Int) (v15 : Int) => t.spec_l1Byte x1 v14 v15 (fun (v16 : Int) (v17 : Int) (v18 : Int) => if x0 = 0 then none else κ ((w ((w ((w ((w (v7 * 16777216)) + (w (v10 * 65536)))) + (w (v13 * 256)))) + v16)).tmod x0) v17 v18))))))
def B_spec_l7draw (t : Tb ρ) (x0 : List Int) (x1 : Int) (x2 : Int) (κ : Int → Int → ByteArray → Int → Int → Option ρ) : Option ρ := t.spec_l1Below 4 x0 x1 x2 (fun (v3 : Int) (v4 : Int) (v5 : Int) => bif v3 == 0 then (κ 0 0 (bs []) v4 v5) else (bif v3 == 1 then (t.spec_l1Below 20 x0 v4 v5 (fun (v6 : Int) (v7 : Int) (v8 : Int) => t.spec_l1Below 2 x0 v7 v8 (fun (v9 : Int) (v10 : Int) (v11 : Int) => κ 1 (w ((w ((w (v6 - 5)) * 500000)) + v9)) (bs []) v10 v11))) else (bif v3 == 2 then (t.spec_l1text [bs [51], bs [32, 51, 32], bs [45, 49, 46, 53], bs [120], bs [], bs [51, 120], bs [49, 48]] x0 v4 v5 (fun (v12 : ByteArray) (v13 : Int) (v14 : Int) => t.spec_FieldCell v12 (fun (v15 : Int) (v16 : Int) (v17 : ByteArray) => κ v15 v16 v17 v13 v14))) else (t.spec_l1text [bs [], bs [51], bs [97], bs [97, 98], bs [49, 48], bs [32, 50]] x0 v4 v5 (fun (v18 : ByteArray) (v19 : Int) (v20 : Int) => κ 2 0 v18 v19 v20)))))
def B_spec_l1Once (t : Tb ρ) (x0 : Int) (x1 : List Int) (x2 : Int) (x3 : Int) (κ : Bool → Int → Int → Option ρ) : Option ρ := t.spec_l1Below x0 x1 x2 x3 (fun (v4 : Int) (v5 : Int) (v6 : Int) => κ (v4 == 0) v5 v6)
def B_spec_l7bent (t : Tb ρ) (x0 : List Int) (x1 : Int) (x2 : Int) (κ : Int → Int → ByteArray → Int → Int → Option ρ) : Option ρ := t.spec_l7draw x0 x1 x2 (fun (v3 : Int) (v4 : Int) (v5 : ByteArray) (v6 : Int) (v7 : Int) => t.spec_l1Below 16 x0 v6 v7 (fun (v8 : Int) (v9 : Int) (v10 : Int) => bif v8 == 0 then (t.spec_l1Below 6 x0 v9 v10 (fun (v11 : Int) (v12 : Int) (v13 : Int) => t.spec_l7bent_s9 x0 v12 v13 0 0 (bs []) (w (v11 - 1)) v4 v5 κ)) else (bif v8 == 1 then (t.spec_l1num x0 v9 v10 (fun (v14 : Int) (v15 : Int) (v16 : Int) => t.spec_l7bent_s9 x0 v15 v16 0 0 (bs []) v3 v14 v5 κ)) else (bif v8 == 2 then (t.spec_l1Below 2 x0 v9 v10 (fun (v17 : Int) (v18 : Int) (v19 : Int) => t.spec_l1of (w (500 + v17)) (bs [97]) x0 v18 v19 (fun (v20 : ByteArray) (v21 : Int) (v22 : Int) => t.spec_l7bent_s9 x0 v21 v22 0 0 (bs []) v3 v4 v20 κ))) else (t.spec_l7bent_s9 x0 v9 v10 0 0 (bs []) v3 v4 v5 κ)))))
def B_spec_l7bent_s9 (t : Tb ρ) (x23 : List Int) (x24 : Int) (x25 : Int) (x26 : Int) (x27 : Int) (x28 : ByteArray) (x29 : Int) (x30 : Int) (x31 : ByteArray) (κ : Int → Int → ByteArray → Int → Int → Option ρ) : Option ρ := κ x29 x30 x31 x24 x25
def B_spec_l1bend (t : Tb ρ) (x0 : ByteArray) (x1 : List Int) (x2 : Int) (x3 : Int) (κ : ByteArray → Int → Int → Option ρ) : Option ρ := t.spec_l1Below (w ((x0.size : Int) + 1)) x1 x2 x3 (fun (v4 : Int) (v5 : Int) (v6 : Int) => t.spec_l1Below 3 x1 v5 v6 (fun (v7 : Int) (v8 : Int) (v9 : Int) => bif v7 == 0 then (if (0 : Int) ≤ v4 then if v4 ≤ (x0.size : Int) then if (0 : Int) ≤ v4 then if v4 ≤ (x0.size : Int) then t.spec_l1of 1 (bs [97, 40, 41, 123, 125, 91, 93, 59, 44, 61, 43, 45, 42, 47, 60, 33, 126, 36, 34, 120, 49, 32, 46, 124, 94]) x1 v8 v9 (fun (v10 : ByteArray) (v11 : Int) (v12 : Int) => if (x0.extract 0 v4.toNat).size + v10.size ≤ 9223372036854775807 then if ((x0.extract 0 v4.toNat) ++ v10).size + (x0.extract v4.toNat x0.size).size ≤ 9223372036854775807 then κ (((x0.extract 0 v4.toNat) ++ v10) ++ (x0.extract v4.toNat x0.size)) v11 v12 else none else none) else none else none else none else none) else (bif v7 == 1 then (if (0 : Int) ≤ v4 then if v4 ≤ (x0.size : Int) then κ (x0.extract 0 v4.toNat) v8 v9 else none else none) else (bif decide (v4 < (x0.size : Int)) then (if (0 : Int) ≤ v4 then if v4 ≤ (x0.size : Int) then if (0 : Int) ≤ (w (v4 + 1)) then if (w (v4 + 1)) ≤ (x0.size : Int) then if (x0.extract 0 v4.toNat).size + (x0.extract (w (v4 + 1)).toNat x0.size).size ≤ 9223372036854775807 then κ ((x0.extract 0 v4.toNat) ++ (x0.extract (w (v4 + 1)).toNat x0.size)) v8 v9 else none else none else none else none else none) else (if x0.size + 1 ≤ 9223372036854775807 then κ (x0 ++ (bs [125])) v8 v9 else none)))))
def B_spec_l1text (t : Tb ρ) (x0 : List ByteArray) (x1 : List Int) (x2 : Int) (x3 : Int) (κ : ByteArray → Int → Int → Option ρ) : Option ρ := t.spec_l1Below (x0.length : Int) x1 x2 x3 (fun (v4 : Int) (v5 : Int) (v6 : Int) => if (0 : Int) ≤ v4 then if v4 < (x0.length : Int) then κ (elS x0 v4) v5 v6 else none else none)
def B_impl_between (t : Tb ρ) (x0 : Int) (x1 : Int) (x2 : Int) (κ : Bool → Option ρ) : Option ρ := bif decide (x0 ≥ x1) then (κ (decide (x0 ≤ x2))) else (κ false)
def B_spec_DecOk (t : Tb ρ) (x0 : Int) (κ : Bool → Option ρ) : Option ρ := bif decide (x0 ≥ (-9000000000000)) then (κ (decide (x0 ≤ 9000000000000))) else (κ false)
def B_spec_ReadDec (t : Tb ρ) (x0 : ByteArray) (κ : Int → Int → Option ρ) : Option ρ := t.spec_l1skip x0 0 (fun (v1 : Int) => bif decide (v1 < (x0.size : Int)) then (if (0 : Int) ≤ v1 then if v1 < (x0.size : Int) then bif (bt x0 v1) == 43 then (if (0 : Int) ≤ v1 then if v1 < (x0.size : Int) then t.spec_ReadDec_s6 x0 (w (v1 + 1)) ((bt x0 v1) == 45) κ else none else none) else (if (0 : Int) ≤ v1 then if v1 < (x0.size : Int) then bif (bt x0 v1) == 45 then (if (0 : Int) ≤ v1 then if v1 < (x0.size : Int) then t.spec_ReadDec_s6 x0 (w (v1 + 1)) ((bt x0 v1) == 45) κ else none else none) else (t.spec_ReadDec_s6 x0 v1 false κ) else none else none) else none else none) else (t.spec_ReadDec_s6 x0 v1 false κ))
def B_spec_ReadDec_s6 (t : Tb ρ) (x2 : ByteArray) (x3 : Int) (x4 : Bool) (κ : Int → Int → Option ρ) : Option ρ := t.spec_ReadDec_s8 x2 x3 x4 0 0 κ
def B_spec_ReadDec_s8 (t : Tb ρ) (x5 : ByteArray) (x6 : Int) (x7 : Bool) (x8 : Int) (x9 : Int) (κ : Int → Int → Option ρ) : Option ρ := bif decide (x6 < (x5.size : Int)) then (if (0 : Int) ≤ x6 then if x6 < (x5.size : Int) then t.spec_l1digit (bt x5 x6) (fun (v10 : Bool) => bif v10 then (if (0 : Int) ≤ x6 then if x6 < (x5.size : Int) then bif decide ((w ((w (x8 * 10)) + (w ((w (IntKind.wrap .u8 ((bt x5 x6) - 48))) * 1000000)))) > 9000000000000) then (t.spec_ReadDec_s8 x5 (w (x6 + 1)) x7 9000000000001 (w (x9 + 1)) κ) else (t.spec_ReadDec_s8 x5 (w (x6 + 1)) x7 (w ((w (x8 * 10)) + (w ((w (IntKind.wrap .u8 ((bt x5 x6) - 48))) * 1000000)))) (w (x9 + 1)) κ) else none else none) else (bif decide (x6 < (x5.size : Int)) then (if (0 : Int) ≤ x6 then if x6 < (x5.size : Int) then bif (bt x5 x6) == 46 then (bif decide (x9 > 0) then (t.spec_ReadDec_s15 x5 x6 x7 x8 x9 κ) else (bif decide ((w (x6 + 1)) < (x5.size : Int)) then (if (0 : Int) ≤ (w (x6 + 1)) then if (w (x6 + 1)) < (x5.size : Int) then t.spec_l1digit (bt x5 (w (x6 + 1))) (fun (v11 : Bool) => bif v11 then (t.spec_ReadDec_s15 x5 x6 x7 x8 x9 κ) else (t.spec_ReadDec_s22 x6 x7 x8 x9 κ)) else none else none) else (t.spec_ReadDec_s22 x6 x7 x8 x9 κ))) else (t.spec_ReadDec_s22 x6 x7 x8 x9 κ) else none else none) else (t.spec_ReadDec_s22 x6 x7 x8 x9 κ))) else none else none) else (bif decide (x6 < (x5.size : Int)) then (if (0 : Int) ≤ x6 then if x6 < (x5.size : Int) then bif (bt x5 x6) == 46 then (bif decide (x9 > 0) then (t.spec_ReadDec_s15 x5 x6 x7 x8 x9 κ) else (bif decide ((w (x6 + 1)) < (x5.size : Int)) then (if (0 : Int) ≤ (w (x6 + 1)) then if (w (x6 + 1)) < (x5.size : Int) then t.spec_l1digit (bt x5 (w (x6 + 1))) (fun (v12 : Bool) => bif v12 then (t.spec_ReadDec_s15 x5 x6 x7 x8 x9 κ) else (t.spec_ReadDec_s22 x6 x7 x8 x9 κ)) else none else none) else (t.spec_ReadDec_s22 x6 x7 x8 x9 κ))) else (t.spec_ReadDec_s22 x6 x7 x8 x9 κ) else none else none) else (t.spec_ReadDec_s22 x6 x7 x8 x9 κ))
def B_spec_ReadDec_s15 (t : Tb ρ) (x13 : ByteArray) (x14 : Int) (x15 : Bool) (x16 : Int) (x17 : Int) (κ : Int → Int → Option ρ) : Option ρ := t.spec_ReadDec_s17 x13 (w (x14 + 1)) x15 x16 x17 100000 κ
def B_spec_ReadDec_s17 (t : Tb ρ) (x22 : ByteArray) (x23 : Int) (x24 : Bool) (x25 : Int) (x26 : Int) (x27 : Int) (κ : Int → Int → Option ρ) : Option ρ := bif decide (x23 < (x22.size : Int)) then (if (0 : Int) ≤ x23 then if x23 < (x22.size : Int) then t.spec_l1digit (bt x22 x23) (fun (v28 : Bool) => bif v28 then (if (0 : Int) ≤ x23 then if x23 < (x22.size : Int) then t.spec_ReadDec_s17 x22 (w (x23 + 1)) x24 (w (x25 + (w ((w (IntKind.wrap .u8 ((bt x22 x23) - 48))) * x27)))) (w (x26 + 1)) (w (x27.tdiv 10)) κ else none else none) else (t.spec_ReadDec_s22 x23 x24 x25 x26 κ)) else none else none) else (t.spec_ReadDec_s22 x23 x24 x25 x26 κ)
def B_spec_ReadDec_s22 (t : Tb ρ) (x18 : Int) (x19 : Bool) (x20 : Int) (x21 : Int) (κ : Int → Int → Option ρ) : Option ρ := bif x21 == 0 then (κ 0 0) else (bif decide (x20 > 9000000000000) then (t.spec_ReadDec_s26 x18 x19 9000000000000 κ) else (t.spec_ReadDec_s26 x18 x19 x20 κ))
def B_spec_ReadDec_s26 (t : Tb ρ) (x29 : Int) (x30 : Bool) (x31 : Int) (κ : Int → Int → Option ρ) : Option ρ := bif x30 then (t.spec_ReadDec_s28 x29 (w (0 - x31)) κ) else (t.spec_ReadDec_s28 x29 x31 κ)
def B_spec_ReadDec_s28 (t : Tb ρ) (x32 : Int) (x33 : Int) (κ : Int → Int → Option ρ) : Option ρ := κ x33 x32
def B_spec_LooksNum (t : Tb ρ) (x0 : ByteArray) (κ : Bool → Option ρ) : Option ρ := t.spec_ReadDec x0 (fun (v1 : Int) (v2 : Int) => bif decide (v2 > 0) then (t.spec_l1skip x0 v2 (fun (v3 : Int) => κ (v3 == (x0.size : Int)))) else (κ false))
def B_spec_l1digit (t : Tb ρ) (x0 : Int) (κ : Bool → Option ρ) : Option ρ := bif decide (x0 ≥ 48) then (κ (decide (x0 ≤ 57))) else (κ false)
def B_spec_l1dec (t : Tb ρ) (x0 : Int) (κ : ByteArray → Option ρ) : Option ρ := bif decide (x0 < 10) then (κ (strOfNums [IntKind.wrap .u8 (w (48 + (x0.tmod 10)))])) else (t.spec_l1dec (w (x0.tdiv 10)) (fun (v1 : ByteArray) => if v1.size + (strOfNums [IntKind.wrap .u8 (w (48 + (x0.tmod 10)))]).size ≤ 9223372036854775807 then κ (v1 ++ (strOfNums [IntKind.wrap .u8 (w (48 + (x0.tmod 10)))])) else none))
def B_spec_l1abs (t : Tb ρ) (x0 : Int) (κ : Int → Option ρ) : Option ρ := bif decide (x0 < 0) then (κ (w (0 - x0))) else (κ x0)
def B_impl_run (t : Tb ρ) (x0 : ByteArray) (x1 : Int) (κ : Int → Option ρ) : Option ρ := t.impl_run_s2 x0 x1 0 κ
def B_impl_run_s2 (t : Tb ρ) (x2 : ByteArray) (x3 : Int) (x4 : Int) (κ : Int → Option ρ) : Option ρ := bif decide ((w (x3 + x4)) < (x2.size : Int)) then (if (0 : Int) ≤ (w (x3 + x4)) then if (w (x3 + x4)) < (x2.size : Int) then t.impl_isDigit (bt x2 (w (x3 + x4))) (fun (v5 : Bool) => bif v5 then (t.impl_run_s2 x2 x3 (w (x4 + 1)) κ) else (κ x4)) else none else none) else (κ x4)
def B_impl_run_1 (t : Tb ρ) (x0 : ByteArray) (x1 : Int) (κ : Int → Option ρ) : Option ρ := t.impl_run_1_s2 x0 x1 0 κ
def B_impl_run_1_s2 (t : Tb ρ) (x2 : ByteArray) (x3 : Int) (x4 : Int) (κ : Int → Option ρ) : Option ρ := bif decide ((w (x3 + x4)) < (x2.size : Int)) then (if (0 : Int) ≤ (w (x3 + x4)) then if (w (x3 + x4)) < (x2.size : Int) then t.impl_isSpace (bt x2 (w (x3 + x4))) (fun (v5 : Bool) => bif v5 then (t.impl_run_1_s2 x2 x3 (w (x4 + 1)) κ) else (κ x4)) else none else none) else (κ x4)
def B_impl_isDigit (t : Tb ρ) (x0 : Int) (κ : Bool → Option ρ) : Option ρ := bif decide (x0 ≥ 48) then (κ (decide (x0 ≤ 57))) else (κ false)
def B_impl_DecOk (t : Tb ρ) (x0 : Int) (κ : Bool → Option ρ) : Option ρ := t.impl_between x0 (-9000000000000) 9000000000000 (fun (v1 : Bool) => κ v1)
def B_impl_ReadDec (t : Tb ρ) (x0 : ByteArray) (κ : Int → Int → Option ρ) : Option ρ := t.impl_run_1 x0 0 (fun (v1 : Int) => bif decide (v1 < (x0.size : Int)) then (if (0 : Int) ≤ v1 then if v1 < (x0.size : Int) then bif (bt x0 v1) == 43 then (if (0 : Int) ≤ v1 then if v1 < (x0.size : Int) then t.impl_ReadDec_s6 x0 (w (v1 + 1)) ((bt x0 v1) == 45) κ else none else none) else (if (0 : Int) ≤ v1 then if v1 < (x0.size : Int) then bif (bt x0 v1) == 45 then (if (0 : Int) ≤ v1 then if v1 < (x0.size : Int) then t.impl_ReadDec_s6 x0 (w (v1 + 1)) ((bt x0 v1) == 45) κ else none else none) else (t.impl_ReadDec_s6 x0 v1 false κ) else none else none) else none else none) else (t.impl_ReadDec_s6 x0 v1 false κ))
def B_impl_ReadDec_s6 (t : Tb ρ) (x2 : ByteArray) (x3 : Int) (x4 : Bool) (κ : Int → Int → Option ρ) : Option ρ := t.impl_run x2 x3 (fun (v5 : Int) => if (0 : Int) ≤ x3 then if x3 ≤ (w (x3 + v5)) then if (w (x3 + v5)) ≤ (x2.size : Int) then bif decide ((w (x3 + v5)) < (x2.size : Int)) then (if (0 : Int) ≤ (w (x3 + v5)) then if (w (x3 + v5)) < (x2.size : Int) then bif (bt x2 (w (x3 + v5))) == 46 then (t.impl_run x2 (w ((w (x3 + v5)) + 1)) (fun (v6 : Int) => bif decide ((w (v5 + v6)) > 0) then (if (0 : Int) ≤ (w ((w (x3 + v5)) + 1)) then if (w ((w (x3 + v5)) + 1)) ≤ (w ((w ((w (x3 + v5)) + 1)) + v6)) then if (w ((w ((w (x3 + v5)) + 1)) + v6)) ≤ (x2.size : Int) then t.impl_ReadDec_s15 (w ((w (x3 + v5)) + (w (1 + v6)))) x4 (x2.extract x3.toNat (w (x3 + v5)).toNat) (x2.extract (w ((w (x3 + v5)) + 1)).toNat (w ((w ((w (x3 + v5)) + 1)) + v6)).toNat) κ else none else none else none) else (t.impl_ReadDec_s15 (w (x3 + v5)) x4 (x2.extract x3.toNat (w (x3 + v5)).toNat) (bs []) κ))) else (t.impl_ReadDec_s15 (w (x3 + v5)) x4 (x2.extract x3.toNat (w (x3 + v5)).toNat) (bs []) κ) else none else none) else (t.impl_ReadDec_s15 (w (x3 + v5)) x4 (x2.extract x3.toNat (w (x3 + v5)).toNat) (bs []) κ) else none else none else none)
def B_impl_ReadDec_s15 (t : Tb ρ) (x7 : Int) (x8 : Bool) (x9 : ByteArray) (x10 : ByteArray) (κ : Int → Int → Option ρ) : Option ρ := bif x9.toList == (bs []).toList then (bif x10.toList == (bs []).toList then (κ 0 0) else (t.impl_ReadDec_s17 x7 x8 x9 x10 κ)) else (t.impl_ReadDec_s17 x7 x8 x9 x10 κ)
def B_impl_ReadDec_s17 (t : Tb ρ) (x11 : Int) (x12 : Bool) (x13 : ByteArray) (x14 : ByteArray) (κ : Int → Int → Option ρ) : Option ρ := if x14.size + 6 ≤ 9223372036854775807 then if (6 : Int) ≤ ((x14 ++ (bs [48, 48, 48, 48, 48, 48])).size : Int) then if x13.size + ((x14 ++ (bs [48, 48, 48, 48, 48, 48])).extract 0 6).size ≤ 9223372036854775807 then if (x13 ++ ((x14 ++ (bs [48, 48, 48, 48, 48, 48])).extract 0 6)).size ≤ 9223372036854775807 then t.impl_ReadDec_s19 x11 x12 0 (bytesOf (x13 ++ ((x14 ++ (bs [48, 48, 48, 48, 48, 48])).extract 0 6))) ((bytesOf (x13 ++ ((x14 ++ (bs [48, 48, 48, 48, 48, 48])).extract 0 6))).length : Int) 0 κ else none else none else none else none
def B_impl_ReadDec_s19 (t : Tb ρ) (x15 : Int) (x16 : Bool) (x17 : Int) (x18 : List Int) (x19 : Int) (x20 : Int) (κ : Int → Int → Option ρ) : Option ρ := bif decide (x20 < x19) then (if (0 : Int) ≤ x20 then if x20 < (x18.length : Int) then t.impl_ReadDec_s19 x15 x16 (mn (w ((w (x17 * 10)) + (w (IntKind.wrap .u8 ((elI .u8 x18 x20) - 48))))) 9000000000001) x18 x19 (w (x20 + 1)) κ else none else none) else (bif x16 then (κ (w (0 - (mn x17 9000000000000))) x15) else (κ (mn x17 9000000000000) x15))
def B_impl_LooksNum (t : Tb ρ) (x0 : ByteArray) (κ : Bool → Option ρ) : Option ρ := t.impl_ReadDec x0 (fun (v1 : Int) (v2 : Int) => bif decide (v2 > 0) then (t.impl_run_1 x0 v2 (fun (v3 : Int) => κ (v3 == (w ((x0.size : Int) - v2))))) else (κ false))
def B_impl_Cell_str (t : Tb ρ) (x0 : Int) (x1 : Int) (x2 : ByteArray) (κ : ByteArray → Option ρ) : Option ρ := bif x0 == 1 then (t.impl_DecText x1 (fun (v3 : ByteArray) => κ v3)) else (κ x2)
def B_impl_DecText (t : Tb ρ) (x0 : Int) (κ : ByteArray → Option ρ) : Option ρ := t.impl_DecOk x0 (fun (v1 : Bool) => bif !v1 then (κ (bs [])) else (bif decide (x0 < 0) then (t.strconv_Itoa (w ((mx x0 (w (0 - x0))).tdiv 1000000)) (fun (v2 : ByteArray) => if 1 + v2.size ≤ 9223372036854775807 then bif decide (((mx x0 (w (0 - x0))).tmod 1000000) > 0) then (t.strconv_Itoa (w (1000000 + ((mx x0 (w (0 - x0))).tmod 1000000))) (fun (v3 : ByteArray) => if (1 : Int) ≤ (v3.size : Int) then t.strings_TrimRight (v3.extract 1 v3.size) (bs [48]) (fun (v4 : ByteArray) => if 1 + v4.size ≤ 9223372036854775807 then if ((bs [45]) ++ v2).size + ((bs [46]) ++ v4).size ≤ 9223372036854775807 then t.impl_DecText_s9 (((bs [45]) ++ v2) ++ ((bs [46]) ++ v4)) κ else none else none) else none)) else (t.impl_DecText_s9 ((bs [45]) ++ v2) κ) else none)) else (t.strconv_Itoa (w ((mx x0 (w (0 - x0))).tdiv 1000000)) (fun (v5 : ByteArray) => if 0 + v5.size ≤ 9223372036854775807 then bif decide (((mx x0 (w (0 - x0))).tmod 1000000) > 0) then (t.strconv_Itoa (w (1000000 + ((mx x0 (w (0 - x0))).tmod 1000000))) (fun (v6 : ByteArray) => if (1 : Int) ≤ (v6.size : Int) then t.strings_TrimRight (v6.extract 1 v6.size) (bs [48]) (fun (v7 : ByteArray) => if 1 + v7.size ≤ 9223372036854775807 then if ((bs []) ++ v5).size + ((bs [46]) ++ v7).size ≤ 9223372036854775807 then t.impl_DecText_s9 (((bs []) ++ v5) ++ ((bs [46]) ++ v7)) κ else none else none) else none)) else (t.impl_DecText_s9 ((bs []) ++ v5) κ) else none))))
def B_impl_DecText_s9 (t : Tb ρ) (x8 : ByteArray) (κ : ByteArray → Option ρ) : Option ρ := κ x8
def B_impl_DecInt (t : Tb ρ) (x0 : Int) (κ : Int → Option ρ) : Option ρ := t.impl_DecOk x0 (fun (v1 : Bool) => bif !v1 then (κ 0) else (κ (w ((w (x0.tdiv 1000000)) * 1000000))))
def B_impl_Cell_num (t : Tb ρ) (x0 : Int) (x1 : Int) (x2 : ByteArray) (κ : Int → Option ρ) : Option ρ := bif x0 == 2 then (t.impl_ReadDec x2 (fun (v3 : Int) (v4 : Int) => κ v3)) else (κ x1)
def B_spec_l1of (t : Tb ρ) (x0 : Int) (x1 : ByteArray) (x2 : List Int) (x3 : Int) (x4 : Int) (κ : ByteArray → Int → Int → Option ρ) : Option ρ := t.spec_l1of_s3 x0 x1 0 [] x2 x3 x4 κ
def B_spec_l1of_s3 (t : Tb ρ) (x5 : Int) (x6 : ByteArray) (x7 : Int) (x8 : List Int) (x9 : List Int) (x10 : Int) (x11 : Int) (κ : ByteArray → Int → Int → Option ρ) : Option ρ := bif decide (x7 < x5) then (t.spec_l1Below (x6.size : Int) x9 x10 x11 (fun (v12 : Int) (v13 : Int) (v14 : Int) => if (0 : Int) ≤ v12 then if v12 < (x6.size : Int) then if (x8.length + 1) * 1 ≤ 140737488355328 then t.spec_l1of_s3 x5 x6 (w (x7 + 1)) (x8 ++ [bt x6 v12]) x9 v13 v14 κ else none else none else none)) else (κ (strOfNums x8) x10 x11)
def B_spec_l1Byte (t : Tb ρ) (x0 : List Int) (x1 : Int) (x2 : Int) (κ : Int → Int → Int → Option ρ) : Option ρ := bif decide (x1 < (x0.length : Int)) then (if (0 : Int) ≤ x1 then if x1 < (x0.length : Int) then κ (bitand .i64 (w ((bitand .i64 (bitxor .i64 (shr .i64 (w ((w (x2 * 6364136223846793005)) + 1442695040888963407)) 33) (shr .i64 (w ((w (x2 * 6364136223846793005)) + 1442695040888963407)) 45)) 255) + (w (elI .u8 x0 x1)))) 255) (w (x1 + 1)) (w ((w (x2 * 6364136223846793005)) + 1442695040888963407)) else none else none) else (κ (bitand .i64 (bitxor .i64 (shr .i64 (w ((w (x2 * 6364136223846793005)) + 1442695040888963407)) 33) (shr .i64 (w ((w (x2 * 6364136223846793005)) + 1442695040888963407)) 45)) 255) x1 (w ((w (x2 * 6364136223846793005)) + 1442695040888963407)))
def B_spec_FieldCell (t : Tb ρ) (x0 : ByteArray) (κ : Int → Int → ByteArray → Option ρ) : Option ρ := bif decide ((x0.size : Int) > 500) then (κ 0 0 (bs [])) else (t.spec_LooksNum x0 (fun (v1 : Bool) => bif v1 then (t.spec_ReadDec x0 (fun (v2 : Int) (v3 : Int) => κ 3 v2 x0)) else (κ 2 0 x0)))
def B_spec_l1num (t : Tb ρ) (x0 : List Int) (x1 : Int) (x2 : Int) (κ : Int → Int → Int → Option ρ) : Option ρ := t.spec_l1Below 4 x0 x1 x2 (fun (v3 : Int) (v4 : Int) (v5 : Int) => bif v3 == 0 then (t.spec_l1PickInt [0, 1, (-1), 1000000, (-1000000), 9000000000000, (-9000000000000), 9000000000001, (-9000000000001), 500000, 4611686018427387904, 3000000] x0 v4 v5 (fun (v6 : Int) (v7 : Int) (v8 : Int) => κ v6 v7 v8)) else (bif v3 == 1 then (t.spec_l1Below 4294967296 x0 v4 v5 (fun (v9 : Int) (v10 : Int) (v11 : Int) => κ (w ((w (v9 * 2000)) - 4000000000000)) v10 v11)) else (t.spec_l1Below 30 x0 v4 v5 (fun (v12 : Int) (v13 : Int) (v14 : Int) => t.spec_l1PickInt [0, 0, 500000, 250000, 1] x0 v13 v14 (fun (v15 : Int) (v16 : Int) (v17 : Int) => κ (w ((w ((w (v12 - 9)) * 1000000)) + v15)) v16 v17)))))
def B_spec_l1skip (t : Tb ρ) (x0 : ByteArray) (x1 : Int) (κ : Int → Option ρ) : Option ρ := t.spec_l1skip_s1 x0 x1 κ
def B_spec_l1skip_s1 (t : Tb ρ) (x2 : ByteArray) (x3 : Int) (κ : Int → Option ρ) : Option ρ := bif decide (x3 < (x2.size : Int)) then (if (0 : Int) ≤ x3 then if x3 < (x2.size : Int) then t.spec_l1white (bt x2 x3) (fun (v4 : Bool) => bif v4 then (t.spec_l1skip_s1 x2 (w (x3 + 1)) κ) else (κ x3)) else none else none) else (κ x3)
def B_impl_isSpace (t : Tb ρ) (x0 : Int) (κ : Bool → Option ρ) : Option ρ := bif x0 == 32 then (κ true) else (bif x0 == 9 then (κ true) else (κ (x0 == 10)))
def B_spec_l1PickInt (t : Tb ρ) (x0 : List Int) (x1 : List Int) (x2 : Int) (x3 : Int) (κ : Int → Int → Int → Option ρ) : Option ρ := t.spec_l1Below (x0.length : Int) x1 x2 x3 (fun (v4 : Int) (v5 : Int) (v6 : Int) => if (0 : Int) ≤ v4 then if v4 < (x0.length : Int) then κ (elI .i64 x0 v4) v5 v6 else none else none)
def B_spec_l1white (t : Tb ρ) (x0 : Int) (κ : Bool → Option ρ) : Option ρ := bif x0 == 32 then (κ true) else (bif x0 == 9 then (κ true) else (κ (x0 == 10)))
noncomputable def tb : Nat → Tb ρ
  | 0 => ⟨fun _ _ _ => none, fun _ _ => none, fun _ _ _ => none, fun _ _ _ _ => none, fun _ _ _ => none, fun _ _ _ _ _ => none, fun _ _ _ _ _ _ => none, fun _ _ _ _ _ _ => none, fun _ _ => none, fun _ _ _ _ => none, fun _ _ _ => none, fun _ _ _ _ _ _ _ => none, fun _ _ _ _ _ _ _ => none, fun _ _ _ => none, fun _ _ _ _ => none, fun _ _ => none, fun _ _ _ _ _ _ _ => none, fun _ _ => none, fun _ _ => none, fun _ _ _ _ _ => none, fun _ => none, fun _ _ _ _ _ => none, fun _ _ => none, fun _ _ _ _ => none, fun _ _ _ _ => none, fun _ _ _ => none, fun _ _ _ _ _ _ _ _ _ _ _ => none, fun _ _ _ _ _ _ _ _ _ _ _ _ => none, fun _ _ _ _ _ _ _ _ _ _ _ => none, fun _ _ _ _ _ _ _ _ _ => none, fun _ _ _ _ _ _ => none, fun _ _ _ _ _ _ => none, fun _ _ _ _ => none, fun _ _ => none, fun _ _ _ _ => none, fun _ _ => none, fun _ _ _ _ => none, fun _ _ _ _ => none, fun _ _ => none, fun _ _ _ _ _ _ => none, fun _ _ _ _ _ _ _ _ _ => none, fun _ _ _ _ => none, fun _ _ _ _ _ _ _ => none, fun _ _ _ _ _ _ _ => none, fun _ _ => none, fun _ _ _ _ => none, fun _ _ _ _ => none, fun _ _ _ _ _ _ => none, fun _ _ _ _ _ => none, fun _ _ _ _ => none, fun _ _ _ _ _ => none, fun _ _ _ _ => none, fun _ _ _ _ _ _ _ _ _ _ => none, fun _ _ _ _ _ => none, fun _ _ _ _ _ => none, fun _ _ _ _ => none, fun _ _ => none, fun _ _ => none, fun _ _ _ _ => none, fun _ _ _ _ _ _ => none, fun _ _ _ _ _ _ => none, fun _ _ _ _ _ _ _ => none, fun _ _ _ _ _ => none, fun _ _ _ _ => none, fun _ _ _ => none, fun _ _ => none, fun _ _ => none, fun _ _ => none, fun _ _ => none, fun _ _ _ => none, fun _ _ _ _ => none, fun _ _ _ => none, fun _ _ _ _ => none, fun _ _ => none, X_strconv_Atoi, fun _ _ => none, fun _ _ => none, fun _ _ _ _ => none, fun _ _ _ _ _ => none, fun _ _ _ _ _ => none, fun _ _ _ _ _ _ _ => none, fun _ _ => none, fun _ _ _ _ => none, fun _ _ => none, fun _ _ => none, fun _ _ => none, fun _ _ _ _ => none, X_strings_Repeat, fun _ _ _ _ _ _ => none, fun _ _ _ _ _ _ _ _ => none, fun _ _ _ _ => none, fun _ _ => none, fun _ _ _ _ => none, fun _ _ _ => none, fun _ _ _ => none, fun _ _ => none, X_strconv_Itoa, X_strings_TrimRight, fun _ _ _ _ _ => none, fun _ _ => none⟩
  | k + 1 => ⟨B_laws_FnExactFormat (tb k), B_laws_FnFormats (tb k), B_laws_szCellS (tb k), B_laws_szCellS_s5 (tb k), B_spec_Format (tb k), B_spec_Format_s5 (tb k), B_spec_Format_s14 (tb k), B_spec_Format_s15 (tb k), B_laws_toCellS (tb k), B_laws_toCellS_s3 (tb k), B_impl_Format (tb k), B_impl_Format_s5 (tb k), B_impl_Format_s14 (tb k), B_laws_eqCellS (tb k), B_laws_eqCellS_s4 (tb k), B_spec_DrawFormat (tb k), B_spec_DrawFormat_s5 (tb k), B_impl_Places (tb k), B_impl_PlaceKinds (tb k), B_impl_PlaceKinds_s4 (tb k), B_laws_forms (tb k), B_laws_szCell (tb k), B_spec_Places (tb k), B_spec_Places_s5 (tb k), B_spec_CellOk (tb k), B_spec_l9place (tb k), B_spec_l9place_s8 (tb k), B_spec_l9place_s9 (tb k), B_spec_l9place_s14 (tb k), B_spec_l9place_s16 (tb k), B_spec_l9pad (tb k), B_spec_l9pad_s1 (tb k), B_spec_ToStr (tb k), B_spec_DecText (tb k), B_spec_DecText_s11 (tb k), B_spec_DecInt (tb k), B_spec_ToNum (tb k), B_laws_toCell (tb k), B_impl_parts (tb k), B_impl_parts_s5 (tb k), B_impl_parts_s16 (tb k), B_impl_CellOk (tb k), B_impl_place_text (tb k), B_laws_eqCell (tb k), B_spec_l1New (tb k), B_spec_l1New_s3 (tb k), B_spec_l9format (tb k), B_spec_l9format_s3 (tb k), B_spec_l1Below (tb k), B_spec_l7draw (tb k), B_spec_l1Once (tb k), B_spec_l7bent (tb k), B_spec_l7bent_s9 (tb k), B_spec_l1bend (tb k), B_spec_l1text (tb k), B_impl_between (tb k), B_spec_DecOk (tb k), B_spec_ReadDec (tb k), B_spec_ReadDec_s6 (tb k), B_spec_ReadDec_s8 (tb k), B_spec_ReadDec_s15 (tb k), B_spec_ReadDec_s17 (tb k), B_spec_ReadDec_s22 (tb k), B_spec_ReadDec_s26 (tb k), B_spec_ReadDec_s28 (tb k), B_spec_LooksNum (tb k), B_spec_l1digit (tb k), B_spec_l1dec (tb k), B_spec_l1abs (tb k), B_impl_run (tb k), B_impl_run_s2 (tb k), B_impl_run_1 (tb k), B_impl_run_1_s2 (tb k), B_impl_isDigit (tb k), X_strconv_Atoi, B_impl_DecOk (tb k), B_impl_ReadDec (tb k), B_impl_ReadDec_s6 (tb k), B_impl_ReadDec_s15 (tb k), B_impl_ReadDec_s17 (tb k), B_impl_ReadDec_s19 (tb k), B_impl_LooksNum (tb k), B_impl_Cell_str (tb k), B_impl_DecText (tb k), B_impl_DecText_s9 (tb k), B_impl_DecInt (tb k), B_impl_Cell_num (tb k), X_strings_Repeat, B_spec_l1of (tb k), B_spec_l1of_s3 (tb k), B_spec_l1Byte (tb k), B_spec_FieldCell (tb k), B_spec_l1num (tb k), B_spec_l1skip (tb k), B_spec_l1skip_s1 (tb k), B_impl_isSpace (tb k), X_strconv_Itoa, X_strings_TrimRight, B_spec_l1PickInt (tb k), B_spec_l1white (tb k)⟩
end
end Go.Proofs.YtbakkcdanoopgaaGreatDoor.Ev.Pr
set_option linter.unusedVariables false
set_option maxRecDepth 100000
namespace Go.Proofs.YtbakkcdanoopgaaGreatDoor.Ev.Pr
open Go Go.RowKit Go.Proofs.YtbakkcdanoopgaaGreatDoorW.PrintWords Go.Proofs.YtbakkcdanoopgaaGreatDoorW.PrintMore Kd Go.Proofs.YtbakkcdanoopgaaGreatDoor.Ev
def tabD : List TI := [⟨3, .int .i64, 1, 8⟩,
  ⟨4, .bool, 1, 1⟩,
  ⟨5, .int .u8, 1, 1⟩,
  ⟨9, .str, 1, 16⟩,
  ⟨22, .sl 72, 1, 24⟩,
  ⟨26, .sl 38, 1, 24⟩,
  ⟨30, .sl 5, 1, 24⟩,
  ⟨38, .st [(0, 3), (1, 3), (2, 9)], 3, 32⟩,
  ⟨47, .sl 3, 1, 24⟩,
  ⟨50, .sl 9, 1, 24⟩,
  ⟨72, .st [(0, 3), (1, 3), (2, 9)], 3, 32⟩,
  ⟨75, .st [(0, 5), (1, 3), (2, 4), (3, 3)], 4, 32⟩,
  ⟨83, .sl 87, 1, 24⟩,
  ⟨87, .st [(0, 5), (1, 4), (2, 3)], 3, 16⟩,
  ⟨131, .iface, 1, 16⟩,
  ⟨137, .st [(0, 30), (1, 3), (2, 3)], 3, 40⟩]
def modes : List (Nat × List Nat) := []
def quiets : List Nat := []
def keepers : List Nat := [62]
def wrs : List (Nat × Option Wr) := []
def C : Ctx := ⟨tabD, lookA [] modes, inN quiets, inN keepers, lookA none wrs⟩
def insts : List (Nat × List Inst) := [(3, [⟨[pS, .sl 72 yt38], [], [pB], [], none, []⟩]),
  (4, [⟨[.sl 5 (.int .u8)], [], [pB], [], none, []⟩]),
  (15, [⟨[.sl 72 yt38, pI], [], [pI], [], none, [(5, ⟨[(0, .sl 72 yt38), (1, pI), (5, pI)], [], []⟩)]⟩]),
  (16, [⟨[pS, .sl 38 yt38], [], [pS, pI], [], none, [(5, ⟨[(0, pS), (1, .sl 38 yt38), (6, pI), (8, pI)], [], []⟩), (14, ⟨[(0, pS), (1, .sl 38 yt38), (9, pS), (10, pI), (11, pI)], [], []⟩), (15, ⟨[(0, pS), (1, .sl 38 yt38), (9, pS), (10, pI), (11, pI)], [], []⟩)]⟩]),
  (17, [⟨[.sl 72 yt38], [], [.own 38 yt38], [], none, [(3, ⟨[(0, .sl 72 yt38), (3, .tok 3), (4, pI)], [(3, 38, yt38)], []⟩)]⟩]),
  (18, [⟨[pS, .sl 38 yt38], [], [pS, pI], [], none, [(5, ⟨[(1, .sl 38 yt38), (6, .tok 6), (7, .tok 7), (22, .sl 38 yt38), (23, pI), (24, pI)], [(6, 9, .str), (7, 87, yt87)], []⟩), (14, ⟨[(1, .sl 38 yt38), (7, .tok 7), (11, pS), (37, .tok 6), (38, pI), (39, pI)], [(6, 9, .str), (7, 87, yt87)], []⟩)]⟩]),
  (19, [⟨[.sl 38 yt38, .sl 38 yt38], [], [pB], [], none, [(4, ⟨[(0, .sl 38 yt38), (1, .sl 38 yt38), (5, pI)], [], []⟩)]⟩]),
  (20, [⟨[.sl 5 (.int .u8)], [], [pS, .own 38 yt38], [], none, [(5, ⟨[(4, .ptr 0 0), (5, pS), (6, .tok 6), (7, pI)], [(6, 38, yt38)], [[.sl 5 (.int .u8), pI, pI]]⟩)]⟩]),
  (21, [⟨[pS], [], [pI, pB], [], none, []⟩]),
  (22, [⟨[pS], [], [pS], [], none, [(4, ⟨[(6, .tok 6), (16, .tok 4), (17, pI), (18, pI)], [(4, 87, yt87), (6, 5, (.int .u8))], []⟩)]⟩]),
  (23, [⟨[], [], [pB], [], none, []⟩]),
  (48, [⟨[.agg [pI, pI, pS], pI], [], [pI], [], none, []⟩]),
  (49, [⟨[pS], [], [pI, pB], [], none, [(5, ⟨[(0, pS), (4, pI), (5, pI)], [], []⟩)]⟩]),
  (50, [⟨[.agg [pI, pI, pS]], [], [pB], [], none, []⟩]),
  (51, [⟨[pS, pI], [], [.agg [.sc (.int .u8), pI, pB, pI]], [], none, [(8, ⟨[(0, pS), (4, .ptr 0 0), (5, .ptr 1 0), (6, pI)], [], [[.sc (.int .u8), pI, pB, pI], [.sc (.int .u8), pI, pB, pI]]⟩), (9, ⟨[(0, pS), (4, .ptr 0 0), (5, .ptr 1 0), (6, pI), (7, pI)], [], [[.sc (.int .u8), pI, pB, pI], [.sc (.int .u8), pI, pB, pI]]⟩), (14, ⟨[(0, pS), (4, .ptr 0 0), (5, .ptr 1 0), (6, pI)], [], [[.sc (.int .u8), pI, pB, pI], [.sc (.int .u8), pI, pB, pI]]⟩), (16, ⟨[(4, .ptr 0 0), (5, .ptr 1 0)], [], [[.sc (.int .u8), pI, pB, pI], [.sc (.int .u8), pI, pB, pI]]⟩)]⟩]),
  (52, [⟨[pS, .agg [.sc (.int .u8), pI, pB, pI]], [], [pS], [], none, [(1, ⟨[(0, pS), (3, .ptr 0 0)], [], [[.sc (.int .u8), pI, pB, pI]]⟩)]⟩]),
  (53, [⟨[.agg [pI, pI, pS]], [], [pS], [], none, []⟩]),
  (54, [⟨[pI], [], [pS], [], none, [(11, ⟨[(3, pS), (4, pI), (5, pI)], [], []⟩)]⟩]),
  (55, [⟨[pI], [], [pI], [], none, []⟩]),
  (56, [⟨[.agg [pI, pI, pS]], [], [pI], [], none, []⟩]),
  (57, [⟨[.agg [pI, pI, pS]], [], [.agg [pI, pI, pS]], [], none, []⟩]),
  (58, [⟨[pS], [], [.own 9 .str, .own 87 yt87, pB], [], none, [(5, ⟨[(0, pS), (5, .tok 5), (6, .tok 6), (7, .tok 7), (8, pI)], [(5, 9, .str), (6, 87, yt87), (7, 5, (.int .u8))], []⟩), (16, ⟨[(0, pS), (5, .tok 5), (6, .tok 6), (7, .tok 7), (8, pI), (9, .ptr 0 0)], [(5, 9, .str), (6, 87, yt87), (7, 5, (.int .u8))], [[.sc (.int .u8), pB, pI]]⟩)]⟩]),
  (59, [⟨[.agg [pI, pI, pS]], [], [pB], [], none, []⟩]),
  (60, [⟨[.agg [.sc (.int .u8), pB, pI], .agg [pI, pI, pS]], [], [pS], [], none, []⟩]),
  (61, [⟨[.agg [pI, pI, pS], .agg [pI, pI, pS]], [], [pB], [], none, []⟩]),
  (62, [⟨[.sl 5 (.int .u8)], [], [.ptr 0 0], [[.sl 5 (.int .u8), pI, pI]], none, [(3, ⟨[(0, .sl 5 (.int .u8)), (3, pI), (4, pI)], [], []⟩)]⟩]),
  (63, [⟨[.ptr 0 0], [[.same (.sl 5 (.int .u8)), pI, pI]], [pS], [[sj, pI, pI]], none, [(3, ⟨[(0, .ptr 0 0), (3, pS), (4, pI)], [], [[.same (.sl 5 (.int .u8)), pI, pI]]⟩)]⟩]),
  (64, [⟨[.ptr 0 0, pI], [[.same (.sl 5 (.int .u8)), pI, pI]], [pI], [[sj, pI, pI]], none, []⟩]),
  (65, [⟨[.ptr 0 0], [[.same (.sl 5 (.int .u8)), pI, pI]], [.agg [pI, pI, pS]], [[sj, pI, pI]], none, []⟩]),
  (66, [⟨[.ptr 0 0, pI], [[.same (.sl 5 (.int .u8)), pI, pI]], [pB], [[sj, pI, pI]], none, []⟩]),
  (67, [⟨[.ptr 0 0], [[.same (.sl 5 (.int .u8)), pI, pI]], [.agg [pI, pI, pS]], [[sj, pI, pI]], none, [(9, ⟨[(2, .ptr 1 0), (3, .ptr 2 0)], [], [[.same (.sl 5 (.int .u8)), pI, pI], [pI, pI, pS], [pI, pI, pS]]⟩)]⟩]),
  (69, [⟨[.ptr 0 0, pS], [[.same (.sl 5 (.int .u8)), pI, pI]], [pS], [[sj, pI, pI]], none, []⟩]),
  (70, [⟨[.ptr 0 0, .sl 9 .str], [[.same (.sl 5 (.int .u8)), pI, pI]], [pS], [[sj, pI, pI]], none, []⟩]),
  (90, [⟨[pI, pI, pI], [], [pB], [], none, []⟩]),
  (104, [⟨[pI], [], [pB], [], none, []⟩]),
  (105, [⟨[pS], [], [pI, pI], [], none, [(6, ⟨[(0, pS), (4, pI), (5, pB)], [], []⟩), (8, ⟨[(0, pS), (4, pI), (5, pB), (6, pI), (7, pI)], [], []⟩), (15, ⟨[(0, pS), (4, pI), (5, pB), (6, pI), (7, pI)], [], []⟩), (17, ⟨[(0, pS), (4, pI), (5, pB), (6, pI), (7, pI), (8, pI)], [], []⟩), (22, ⟨[(4, pI), (5, pB), (6, pI), (7, pI)], [], []⟩), (26, ⟨[(4, pI), (5, pB), (6, pI)], [], []⟩), (28, ⟨[(4, pI), (6, pI)], [], []⟩)]⟩]),
  (106, [⟨[pS], [], [pB], [], none, []⟩]),
  (107, [⟨[.sc (.int .u8)], [], [pB], [], none, []⟩]),
  (108, [⟨[pI], [], [pS], [], none, []⟩]),
  (109, [⟨[pI], [], [pI], [], none, []⟩]),
  (110, [⟨[pS, pI, .fn (.func 111) [] []], [], [pI], [], none, [(2, ⟨[(0, pS), (1, pI), (2, .fn (.func 111) [] []), (7, pI)], [], []⟩)]⟩,
    ⟨[pS, pI, .fn (.func 166) [] []], [], [pI], [], none, [(2, ⟨[(0, pS), (1, pI), (2, .fn (.func 166) [] []), (7, pI)], [], []⟩)]⟩]),
  (111, [⟨[.sc (.int .u8)], [], [pB], [], none, []⟩]),
  (112, [⟨[pS], [], [pI, jk], [], none, []⟩]),
  (113, [⟨[pI], [], [pB], [], none, []⟩]),
  (114, [⟨[pS], [], [pI, pI], [], none, [(6, ⟨[(0, pS), (4, pI), (5, pB)], [], []⟩), (15, ⟨[(4, pI), (5, pB), (7, pS), (8, pS)], [], []⟩), (17, ⟨[(4, pI), (5, pB), (7, pS), (8, pS)], [], []⟩), (19, ⟨[(4, pI), (5, pB), (10, pI), (90, .sl 5 (.int .u8)), (91, pI), (92, pI)], [], []⟩)]⟩]),
  (115, [⟨[pS], [], [pB], [], none, []⟩]),
  (116, [⟨[.agg [pI, pI, pS]], [], [pS], [], none, []⟩]),
  (117, [⟨[pI], [], [pS], [], none, [(9, ⟨[(5, pS)], [], []⟩)]⟩]),
  (118, [⟨[pI], [], [pI], [], none, []⟩]),
  (119, [⟨[.agg [pI, pI, pS]], [], [pI], [], none, []⟩]),
  (120, [⟨[pS, pI], [], [pS], [], none, []⟩]),
  (121, [⟨[.ptr 0 0, pI, pS], [[.same (.sl 5 (.int .u8)), pI, pI]], [pS], [[sj, pI, pI]], none, [(3, ⟨[(0, .ptr 0 0), (1, pI), (2, pS), (7, .tok 7), (8, pI)], [(7, 5, (.int .u8))], [[.same (.sl 5 (.int .u8)), pI, pI]]⟩)]⟩]),
  (122, [⟨[.ptr 0 0], [[.same (.sl 5 (.int .u8)), pI, pI]], [pI], [[sj, pI, pI]], none, []⟩]),
  (123, [⟨[pS], [], [.agg [pI, pI, pS]], [], none, []⟩]),
  (124, [⟨[.ptr 0 0], [[.same (.sl 5 (.int .u8)), pI, pI]], [pI], [[sj, pI, pI]], none, []⟩]),
  (163, [⟨[pS, pI], [], [pI], [], none, [(1, ⟨[(0, pS), (1, pI)], [], []⟩)]⟩]),
  (166, [⟨[.sc (.int .u8)], [], [pB], [], none, []⟩]),
  (167, [⟨[pI], [], [pS], [], none, []⟩]),
  (168, [⟨[pS, pS], [], [pS], [], none, []⟩]),
  (174, [⟨[.ptr 0 0, .sl 3 (.int .i64)], [[.same (.sl 5 (.int .u8)), pI, pI]], [pI], [[sj, pI, pI]], none, []⟩]),
  (202, [⟨[.sc (.int .u8)], [], [pB], [], none, []⟩])]
noncomputable def fnL : List (Nat × Option Func) := [(3, some Tryz.f3), (4, some Tryz.f4), (15, some Tryz.f15), (16, some Tryz.f16), (17, some Tryz.f17), (18, some Tryz.f18), (19, some Tryz.f19), (20, some Tryz.f20), (21, some Tryz.f21), (22, some Tryz.f22), (23, some Tryz.f23), (48, some Tryz.f48), (49, some Tryz.f49), (50, some Tryz.f50), (51, some Tryz.f51), (52, some Tryz.f52), (53, some Tryz.f53), (54, some Tryz.f54), (55, some Tryz.f55), (56, some Tryz.f56), (57, some Tryz.f57), (58, some Tryz.f58), (59, some Tryz.f59), (60, some Tryz.f60), (61, some Tryz.f61), (62, some Tryz.f62), (63, some Tryz.f63), (64, some Tryz.f64), (65, some Tryz.f65), (66, some Tryz.f66), (67, some Tryz.f67), (69, some Tryz.f69), (70, some Tryz.f70), (90, some Tryz.f90), (104, some Tryz.f104), (105, some Tryz.f105), (106, some Tryz.f106), (107, some Tryz.f107), (108, some Tryz.f108), (109, some Tryz.f109), (110, some Tryz.f110), (111, some Tryz.f111), (113, some Tryz.f113), (114, some Tryz.f114), (115, some Tryz.f115), (116, some Tryz.f116), (117, some Tryz.f117), (118, some Tryz.f118), (119, some Tryz.f119), (121, some Tryz.f121), (122, some Tryz.f122), (123, some Tryz.f123), (124, some Tryz.f124), (163, some Tryz.f163), (166, some Tryz.f166), (174, some Tryz.f174), (202, some Tryz.f202)]
noncomputable def F : Fns := ⟨lookA none fnL, lookA [] insts⟩
theorem tab_right : TabOK Tryz.prog C.D := tab_ok (by kernel_rfl)
theorem fns_right : FnsOK Tryz.prog F := fns_ok ⟨fn_one Tryz.func3 (by kernel_rfl), fn_one Tryz.func4 (by kernel_rfl), fn_one Tryz.func15 (by kernel_rfl), fn_one Tryz.func16 (by kernel_rfl), fn_one Tryz.func17 (by kernel_rfl), fn_one Tryz.func18 (by kernel_rfl), fn_one Tryz.func19 (by kernel_rfl), fn_one Tryz.func20 (by kernel_rfl), fn_one Tryz.func21 (by kernel_rfl), fn_one Tryz.func22 (by kernel_rfl), fn_one Tryz.func23 (by kernel_rfl), fn_one Tryz.func48 (by kernel_rfl), fn_one Tryz.func49 (by kernel_rfl), fn_one Tryz.func50 (by kernel_rfl), fn_one Tryz.func51 (by kernel_rfl), fn_one Tryz.func52 (by kernel_rfl), fn_one Tryz.func53 (by kernel_rfl), fn_one Tryz.func54 (by kernel_rfl), fn_one Tryz.func55 (by kernel_rfl), fn_one Tryz.func56 (by kernel_rfl), fn_one Tryz.func57 (by kernel_rfl), fn_one Tryz.func58 (by kernel_rfl), fn_one Tryz.func59 (by kernel_rfl), fn_one Tryz.func60 (by kernel_rfl), fn_one Tryz.func61 (by kernel_rfl), fn_one Tryz.func62 (by kernel_rfl), fn_one Tryz.func63 (by kernel_rfl), fn_one Tryz.func64 (by kernel_rfl), fn_one Tryz.func65 (by kernel_rfl), fn_one Tryz.func66 (by kernel_rfl), fn_one Tryz.func67 (by kernel_rfl), fn_one Tryz.func69 (by kernel_rfl), fn_one Tryz.func70 (by kernel_rfl), fn_one Tryz.func90 (by kernel_rfl), fn_one Tryz.func104 (by kernel_rfl), fn_one Tryz.func105 (by kernel_rfl), fn_one Tryz.func106 (by kernel_rfl), fn_one Tryz.func107 (by kernel_rfl), fn_one Tryz.func108 (by kernel_rfl), fn_one Tryz.func109 (by kernel_rfl), fn_one Tryz.func110 (by kernel_rfl), fn_one Tryz.func111 (by kernel_rfl), fn_one Tryz.func113 (by kernel_rfl), fn_one Tryz.func114 (by kernel_rfl), fn_one Tryz.func115 (by kernel_rfl), fn_one Tryz.func116 (by kernel_rfl), fn_one Tryz.func117 (by kernel_rfl), fn_one Tryz.func118 (by kernel_rfl), fn_one Tryz.func119 (by kernel_rfl), fn_one Tryz.func121 (by kernel_rfl), fn_one Tryz.func122 (by kernel_rfl), fn_one Tryz.func123 (by kernel_rfl), fn_one Tryz.func124 (by kernel_rfl), fn_one Tryz.func163 (by kernel_rfl), fn_one Tryz.func166 (by kernel_rfl), fn_one Tryz.func174 (by kernel_rfl), fn_one Tryz.func202 (by kernel_rfl), trivial⟩
end Go.Proofs.YtbakkcdanoopgaaGreatDoor.Ev.Pr
set_option linter.unusedVariables false
set_option maxRecDepth 100000
namespace Go.Proofs.YtbakkcdanoopgaaGreatDoor.Ev.Pr
open Go Go.RowKit Go.Proofs.YtbakkcdanoopgaaGreatDoor.Ev Go.Proofs.YtbakkcdanoopgaaGreatDoorW.PrintWords Go.Proofs.YtbakkcdanoopgaaGreatDoorW.PrintMore Kd
structure FTabs (w : World) : Prop where
  pow10 : Lib.TabIs Tryz.prog w "internal/strconv.uint64pow10" .u64 Lib.pow10Tab
  err : ∃ ev, w.cell? ⟨0, 0, none⟩ = some ev ∧ (ev = .nilIface ∨ ∃ te pe, ev = .iface te pe)
class BgF [Bgs] : Prop where
  tabs : ∀ {E W}, BgOK E W → FTabs W
theorem below_grow0 (w : World) (k : Nat) (os : Array Obj) : Below w.heap.size w (Go.Sort.grow (w.drewN k) os) :=
  ⟨rfl, rfl, rfl, by show w.heap.size ≤ (w.heap ++ os).size; rw [Array.size_append]; omega, fun j hj => by
    show (w.heap ++ os)[j]? = w.heap[j]?
    rw [Array.getElem?_append_left hj]⟩
end Go.Proofs.YtbakkcdanoopgaaGreatDoor.Ev.Pr
set_option linter.unusedVariables false
set_option maxRecDepth 100000
namespace Go.Proofs.YtbakkcdanoopgaaGreatDoor.Ev.Pr
open Go Go.RowKit Go.Proofs.YtbakkcdanoopgaaGreatDoor.Ev Go.Proofs.YtbakkcdanoopgaaGreatDoorW.PrintWords Go.Proofs.YtbakkcdanoopgaaGreatDoorW.PrintMore Kd
section
variable {ρ : Type} [Bgs] [BgF]
theorem xo_strconv_Itoa (x0 : Int) (κ : Out → Option ρ) (r : ρ) (h : X_strconv_Itoa x0 (fun a0 => κ (.ret [⟨.str, a0⟩])) = some r) : FunP Tryz.prog F.insts 167 0 [⟨.int .i64, x0⟩] κ r := by
  unfold X_strconv_Itoa at h
  split at h
  case isFalse => cases h
  rename_i hx
  refine ⟨⟨Tryz.f167, Tryz.func167, by kernel_rfl, by kernel_rfl⟩, fun I args h1 bx hI hb1 hb2 E W vals hok hB => ?_⟩
  have eI : (F.insts 167)[0]? = some ⟨[pI], [], [pS], [], none, []⟩ := by kernel_rfl
  obtain rfl := Option.some.inj (eI.symm.trans hI)
  obtain ⟨rfl, rfl⟩ : [AV.v (.int .i64 x0)] = args ∧ [] = h1 := by simpa [Pt.builds, Pt.build] using hb1
  obtain rfl : [] = bx := by simpa [Pt.buildB] using hb2
  have hl : E.adr = [] := List.length_eq_zero_iff.mp hok.len.symm
  obtain ⟨rest, rfl, hv⟩ := arg_v hok.vals
  obtain rfl := arg_nil hv
  exact ret_plain (outs := [.v (.string ⟨(Lib.itoa x0).toArray⟩)]) (m := [.string ⟨(Lib.itoa x0).toArray⟩]) (v := .string ⟨(Lib.itoa x0).toArray⟩) h (by simp [Pt.builds, Pt.build]) rfl hl hok.new rfl (fun W' => ⟨rfl, trivial⟩)
    ((Tryz.strconv_Itoa x0 hx.1 hx.2 W (BgF.tabs hB).pow10).mono fun e w' ⟨he, k, os, hw⟩ => ⟨he, hw ▸ below_grow0 W k os⟩)
theorem xo_strings_TrimRight (x0 x1 : ByteArray) (κ : Out → Option ρ) (r : ρ) (h : X_strings_TrimRight x0 x1 (fun a0 => κ (.ret [⟨.str, a0⟩])) = some r) : FunP Tryz.prog F.insts 168 0 [⟨.str, x0⟩, ⟨.str, x1⟩] κ r := by
  unfold X_strings_TrimRight at h
  split at h
  case h_2 => cases h
  rename_i c hc
  split at h
  case isFalse => cases h
  rename_i hx
  obtain rfl : x1 = ⟨#[c]⟩ := by
    cases x1
    rename_i d
    have : d.toList = [c] := hc
    congr 1
    exact Array.ext' this
  refine ⟨⟨Tryz.f168, Tryz.func168, by kernel_rfl, by kernel_rfl⟩, fun I args h1 bx hI hb1 hb2 E W vals hok hB => ?_⟩
  have eI : (F.insts 168)[0]? = some ⟨[pS, pS], [], [pS], [], none, []⟩ := by kernel_rfl
  obtain rfl := Option.some.inj (eI.symm.trans hI)
  obtain ⟨rfl, rfl⟩ : [AV.v (.string x0), AV.v (.string ⟨#[c]⟩)] = args ∧ [] = h1 := by simpa [Pt.builds, Pt.build] using hb1
  obtain rfl : [] = bx := by simpa [Pt.buildB] using hb2
  have hl : E.adr = [] := List.length_eq_zero_iff.mp hok.len.symm
  obtain ⟨rest, rfl, hv⟩ := arg_v hok.vals
  obtain ⟨rest2, rfl, hv2⟩ := arg_v hv
  obtain rfl := arg_nil hv2
  exact ret_plain (outs := [.v (.string ⟨(Lib.trimRightB x0.data.toList c).toArray⟩)]) (m := [.string ⟨(Lib.trimRightB x0.data.toList c).toArray⟩]) (v := .string ⟨(Lib.trimRightB x0.data.toList c).toArray⟩) h (by simp [Pt.builds, Pt.build]) rfl hl hok.new rfl (fun W' => ⟨rfl, trivial⟩)
    ((Tryz.strings_TrimRight_one x0 c hx.1 W hx.2).mono fun e w' ⟨he, hw⟩ => ⟨he, hw ▸ Below.refl _ _⟩)
theorem xo_strings_Repeat (x0 : ByteArray) (x1 : Int) (κ : Out → Option ρ) (r : ρ) (h : X_strings_Repeat x0 x1 (fun a0 => κ (.ret [⟨.str, a0⟩])) = some r) : FunP Tryz.prog F.insts 120 0 [⟨.str, x0⟩, ⟨.int .i64, x1⟩] κ r := by
  unfold X_strings_Repeat at h
  split at h
  case isFalse => cases h
  rename_i hx
  obtain ⟨hx0, hx1, hx2⟩ := hx
  obtain ⟨n, rfl⟩ := Int.eq_ofNat_of_zero_le hx0
  rw [Int.toNat_natCast] at hx2 h
  refine ⟨⟨Tryz.f120, Tryz.func120, by kernel_rfl, by kernel_rfl⟩, fun I args h1 bx hI hb1 hb2 E W vals hok hB => ?_⟩
  have eI : (F.insts 120)[0]? = some ⟨[pS, pI], [], [pS], [], none, []⟩ := by kernel_rfl
  obtain rfl := Option.some.inj (eI.symm.trans hI)
  obtain ⟨rfl, rfl⟩ : [AV.v (.string x0), AV.v (.int .i64 (n : Int))] = args ∧ [] = h1 := by simpa [Pt.builds, Pt.build] using hb1
  obtain rfl : [] = bx := by simpa [Pt.buildB] using hb2
  have hl : E.adr = [] := List.length_eq_zero_iff.mp hok.len.symm
  obtain ⟨rest, rfl, hv⟩ := arg_v hok.vals
  obtain ⟨rest2, rfl, hv2⟩ := arg_v hv
  obtain rfl := arg_nil hv2
  exact ret_plain (outs := [.v (.string ⟨(Lib.repeatL x0.data.toList n).toArray⟩)]) (m := [.string ⟨(Lib.repeatL x0.data.toList n).toArray⟩]) (v := .string ⟨(Lib.repeatL x0.data.toList n).toArray⟩) h (by simp [Pt.builds, Pt.build]) rfl hl hok.new rfl (fun W' => ⟨rfl, trivial⟩)
    (Tryz.strings_Repeat x0 n W (by omega) hx2)
theorem xo_strconv_Atoi (x0 : ByteArray) (κ : Out → Option ρ) (r : ρ) (h : X_strconv_Atoi x0 (fun a0 => κ (.ret [⟨.int .i64, a0⟩])) = some r) : FunP Tryz.prog F.insts 112 0 [⟨.str, x0⟩] κ r := by
  unfold X_strconv_Atoi at h
  split at h
  case isFalse => cases h
  rename_i hx
  refine ⟨⟨Tryz.f112, Tryz.func112, by kernel_rfl, by kernel_rfl⟩, fun I args h1 bx hI hb1 hb2 E W vals hok hB => ?_⟩
  have eI : (F.insts 112)[0]? = some ⟨[pS], [], [pI, jk], [], none, []⟩ := by kernel_rfl
  obtain rfl := Option.some.inj (eI.symm.trans hI)
  obtain ⟨rfl, rfl⟩ : [AV.v (.string x0)] = args ∧ [] = h1 := by simpa [Pt.builds, Pt.build] using hb1
  obtain rfl : [] = bx := by simpa [Pt.buildB] using hb2
  have hl : E.adr = [] := List.length_eq_zero_iff.mp hok.len.symm
  obtain ⟨rest, rfl, hv⟩ := arg_v hok.vals
  obtain rfl := arg_nil hv
  cases hn : Lib.atoi x0.data.toList with
  | some n =>
    rw [hn, Option.getD_some] at h
    exact ret_plain (outs := [.v (.int .i64 n), .junk]) (m := [.int .i64 n, .nilIface]) (v := .tuple #[.int .i64 n, .nilIface]) h (by simp [Pt.builds, Pt.build]) rfl hl hok.new rfl (fun W' => ⟨rfl, trivial, trivial⟩)
      ((Tryz.strconv_Atoi x0 n hx hn W).mono fun e w' ⟨he, t, hw⟩ => ⟨he, hw ▸ bytes_below (Below.refl _ _) (Nat.le_refl _) _ _⟩)
  | none =>
    rw [hn, Option.getD_none] at h
    obtain ⟨ev, he1, he2⟩ := (BgF.tabs hB).err
    refine (Tryz.strconv_Atoi_err x0 hx hn ev W he1 he2).mono fun e w' ⟨N, he, hN, hh, hBl⟩ => ?_
    subst he
    exact ⟨_, h, [⟨.int .i64, 0⟩], [.v (.int .i64 0), .junk], [], [], E, [.int .i64 0, .iface _ (.pointer (some ⟨N, 0, none⟩))], rfl, by simp [Pt.builds, Pt.build], rfl, below_aft hBl, rfl, ⟨rfl, trivial, trivial⟩, fun j cs hj => by simp at hj, by rw [hl]; rfl, fun k hk => hok.new k (Nat.le_trans hBl.size hk)⟩
end
end Go.Proofs.YtbakkcdanoopgaaGreatDoor.Ev.Pr
namespace Go.Proofs.YtbakkcdanoopgaaGreatDoor.Q
open Go Go.RowKit Go.Lib
theorem tabIs_of_reads {P : Program} {W : World} {name : String} {k : IntKind} {zs : List Int} {g : Nat} {t e : TypeId} {n : Nat}
    (hg : P.globalNamed name = some g) (hty : (P.globals[g]?).map (·.type) = some t) (ht : P.underlying t = some (.array n e)) (he : P.underlying e = some (.int k)) (hce : P.cellsOf e = 1) (hct : P.cellsOf t = n)
    (h : VarReads P W name (Lib.tabData k zs)) : Lib.TabIs P W name k zs := by
  obtain ⟨g', t', cs, fuel, p, hg', ht', hvar, hd⟩ := h
  obtain rfl := Option.some.inj (hg.symm.trans hg')
  obtain rfl := Option.some.inj (hty.symm.trans ht')
  unfold Lib.TabIs
  rw [hvar, ← Lib.cells_of_tab ht he hce hct hd]
theorem iface_of_trod {P : Program} {w : World} {fuel : Nat} {t : TypeId} {cs : List Value} {name : String} {x : DataW Unit} {p : List MemPlace} {ms : Array (String × TypeId)} (ht : P.underlying t = some (.interface ms))
    (h : DataW.trod (fun _ => ()) P w 0 (fun _ => true) false fuel t cs = some (.iface name x, p)) : ∃ u v, cs = [.iface u v] := by
  cases fuel with
  | zero => cases h
  | succ fuel =>
    unfold DataW.trod at h
    rw [ht] at h
    match cs, h with
    | [.iface u v], _ => exact ⟨u, v, rfl⟩
    | [.nilIface], h => cases h
theorem ftabs_of_laid {W : World} {l : List (String × DataW Unit)} (h : laidMet Tryz.prog l W) (hm : ("internal/strconv.uint64pow10", Rows.laid_internal_strconv_uint64pow10) ∈ l) (he : ("strconv.ErrSyntax", Rows.laid_strconv_ErrSyntax) ∈ l) : Ev.Pr.FTabs W where
  pow10 := tabIs_of_reads (g := 3) (t := 266) (e := 214) (by kernel_rfl) (by kernel_rfl) Tryz.underlying266 Tryz.underlying214 (by kernel_rfl) (by kernel_rfl)
    ((show Rows.laid_internal_strconv_uint64pow10 = Lib.tabData .u64 Lib.pow10Tab by kernel_rfl) ▸ laidMet.reads h hm)
  err := by
    obtain ⟨g, t, cs, fuel, p, hg, ht, hvar, hd⟩ := laidMet.reads h he
    obtain rfl : 0 = g := Option.some.inj ((show Tryz.prog.globalNamed "strconv.ErrSyntax" = some 0 by kernel_rfl).symm.trans hg)
    obtain rfl : 131 = t := Option.some.inj ((show (Tryz.prog.globals[0]?).map (·.type) = some 131 by kernel_rfl).symm.trans ht)
    obtain ⟨u, v, e⟩ := iface_of_trod Tryz.underlying131 hd
    refine ⟨.iface u v, ?_, .inr ⟨u, v, rfl⟩⟩
    unfold World.var? at hvar
    rw [hg] at hvar
    simp only [Option.bind_some] at hvar
    cases hh : W.heap[0]? with
    | none => rw [hh] at hvar; cases hvar
    | some o =>
      rw [hh] at hvar
      unfold World.cell?
      rw [hh]
      cases o <;> simp at hvar ⊢
      · rename_i cells ty fz
        have e2 : cells.toList = [.iface u v] := by first | (rw [hvar]; exact e) | (obtain ⟨rfl, _⟩ := hvar; exact e) | (simpa [hvar] using e)
        have e3 : cells = #[.iface u v] := by apply Array.ext'; exact e2
        rw [e3]
        rfl
end Go.Proofs.YtbakkcdanoopgaaGreatDoor.Q
namespace Go
variable {H : Type} {enc : TypeId × Value → H}
theorem returnsInHanded_of_change_and_shaped_ytbakkcdanoopgaagreatdoor {a : Assume} {C : Checked} {os : Os} {f : FuncId} {fn : Func} {s : ChangeSpec} {conds : List PathCond} {apart fresh handsOn again : Bool} {X : World → Array Value → Prop}
    (hX : ∀ (w w' : World) (args : Array Value), w.heap = w'.heap → X w args → X w' args)
    (own : ownKnob C.prog.godebug = none) (started : os.Started) (noInit : C.prog.inits.idxOf? f = none) (hfn : C.prog.funcs[f]? = some fn)
    (witness : ∃ (w : World) (tape : Tape) (i : Input), w.os = os ∧ (w.forCall tape i).Shaped C.prog ∧ i.vars = [] ∧ Input.okWide C.prog (w.forCall tape i) .any w.heap.size f i ∧
      ((s.pre enc C.prog fn conds apart (w.forCall tape i).memory i.args ∧ X (w.forCall tape i).memory i.args) ∧ sizedMet enc C.prog fn (OpenSpec.ofChange s) apart (w.forCall tape i).memory i.args) ∧ a.holds C.prog (lone (Frame.enter C.prog f i.args .normal) [] (w.forCall tape i)))
    (contract : ∀ (W : World) (base : Nat) (args : Array Value) (ds gs : List (DataW H)) (before : List MemPlace),
      (∀ (j : Nat) t v, fn.params[j]? = some t → args[j]? = some v → Value.okWide C.prog W .any base t v) →
      DataW.Whole enc C.prog fn.params.toList s.vars apart W args.toList ds gs before →
      conds.all (PathCond.test C.prog ⟨fn.params.toList, ds, s.plain.varTypes C.prog, gs⟩) = true →
      (DataW.weightsEach C.prog (fn.params.toList ++ s.plain.varTypes C.prog) (ds ++ gs)).all (· ≤ reachBytes) = true → X W args →
      W.ShapedOpen C.prog →
      a.holds C.prog (lone (Frame.enter C.prog f args .normal) [] W) →
      Calls C.prog f args W fun e W' => ∃ v, e = .returned v ∧ s.post enc C.prog fn apart fresh handsOn again W args v W') :
    ReturnsInHanded a C os f .any (fun w args => (s.pre enc C.prog fn conds apart w args ∧ X w args) ∧ sizedMet enc C.prog fn (OpenSpec.ofChange s) apart w args) (s.post enc C.prog fn apart fresh handsOn again) := by
  refine returnsInHanded_of_calls own started noInit witness ?_
  intro w tape i _ hsh _ hok hpre hholds
  obtain ⟨_, _, _, fn', hfn', _, _, _, _, hval⟩ := hok
  have e : fn' = fn := Option.some.inj (hfn'.symm.trans hfn)
  subst e
  obtain ⟨⟨⟨ds, gs, before, hw, hc⟩, hx⟩, hz⟩ := hpre
  have hw' := DataW.Whole.of_heap (w' := w.forCall tape i) (by rfl) hw
  refine (contract (w.forCall tape i) w.heap.size i.args ds gs before hval hw' hc (hz.weights hw) (hX _ _ _ (by rfl) hx) hsh hholds).mono fun e W' ⟨v, he, hp⟩ => ?_
  subst he
  exact ChangeSpec.post_blind hp
end Go
set_option linter.unusedVariables false
namespace Go.Proofs.YtbakkcdanoopgaaGreatDoor.Ev
open Go Go.RowKit Go.Proofs.YtbakkcdanoopgaaGreatDoorW.PrintWords Go.Proofs.YtbakkcdanoopgaaGreatDoorW.PrintMore Kd
def E0 : Env := ⟨fun _ => .free, [], fun _ => undef, fun _ _ => undef⟩
def outB : Out → Option Bool
  | .ret [⟨.bool, b⟩] => some b
  | _ => none
theorem law_calls [Bgs] {P : Program} {insts : Nat → List Inst} {f : Nat} {hs : List HV} {r : Bool} (h : FunP P insts f 0 hs outB r) {ps : List Pt} {args : List AV} (hI : ((insts f)[0]?).map (fun I => (I.args, I.boxes, I.outs, I.obox, I.pans)) = some (ps, [], [pB], [], none)) (hb : Pt.builds ps hs = some (args, []))
    {W : World} {vals : List Value} (hv : AllQ (ArgV E0 W) 0 args vals) (hB : BgOK E0 W) : Calls P f vals.toArray W fun e w' => e = .returned (.bool r) ∧ Below W.heap.size W w' := by
  obtain ⟨I, hI1, hs5⟩ := Option.map_eq_some_iff.mp hI
  simp only [Prod.mk.injEq] at hs5
  obtain ⟨rfl, hbx, ho, hob, hp⟩ := hs5
  have hc := h.2 I args [] [] hI1 hb (by rw [hbx]; rfl) E0 W vals ⟨hv, fun j cs h => by simp at h, rfl, fun _ _ => rfl⟩ hB
  refine hc.mono fun e w' he => ?_
  obtain ⟨out, h1, h2⟩ := he
  cases e with
  | outgrown => exact h2.elim
  | panicked chain =>
    obtain ⟨vs, p, bp, a, k1, bx, E', y, -, h3, -⟩ := h2
    rw [hp] at h3
    cases h3
  | returned v =>
    obtain ⟨vs, outs, k1, bx, E', m, rfl, h3, h4, hA, hv, hO⟩ := h2
    unfold outB at h1
    split at h1
    · rename_i b hh
      cases h1
      injection hh with hh
      subst hh
      rw [ho] at h3
      obtain ⟨rfl, rfl⟩ : [AV.v (.bool r)] = outs ∧ [] = k1 := by simpa [Pt.builds, Pt.build] using h3
      match m, hO.vals with
      | [y], hy =>
        have hy : y = .bool r := hy.1
        subst hy
        have hv : v = .bool r := hv
        exact ⟨by rw [hv], ⟨hA.os, hA.tape, hA.output, hA.size, fun k hk => (hA.free k hk (.inl rfl)).2⟩⟩
    · cases h1
theorem lent_row {t : Ty} {e : Nat} {W : World} {A : Option Addr} {c : Nat} {xs : List t.den} (hd : Heap t.kd) (h : t.kd.C W A xs.length xs) (hc : xs.length ≤ c) (k : Nat) : ArgV E0 W k (.sl none e t xs) (.slice A xs.length c) :=
  ⟨A, c, rfl, hc, F_mono (C_F hd h) fun _ _ => rfl⟩
end Go.Proofs.YtbakkcdanoopgaaGreatDoor.Ev
set_option linter.unusedVariables false
set_option maxRecDepth 100000
namespace Go.Proofs.YtbakkcdanoopgaaGreatDoor.Ev.Pr
open Go Go.RowKit Go.Proofs.YtbakkcdanoopgaaGreatDoorW.PrintWords Go.Proofs.YtbakkcdanoopgaaGreatDoorW.PrintMore Kd Go.Proofs.YtbakkcdanoopgaaGreatDoor.Ev
abbrev insts' := lookA ([] : List Inst) insts
end Go.Proofs.YtbakkcdanoopgaaGreatDoor.Ev.Pr
set_option linter.unusedVariables false
set_option maxRecDepth 100000
namespace Go.Proofs.YtbakkcdanoopgaaGreatDoor.Ev.Pr
open Go Go.RowKit Go.Proofs.YtbakkcdanoopgaaGreatDoorW.PrintWords Go.Proofs.YtbakkcdanoopgaaGreatDoorW.PrintMore Kd Go.Proofs.YtbakkcdanoopgaaGreatDoor.Ev
section
variable {ρ : Type}
def lva (t : Tb ρ) : List (Ent ρ) := [en insts' 3 0 0 t.laws_FnExactFormat, en insts' 4 0 0 t.laws_FnFormats, en insts' 15 0 0 t.laws_szCellS, en insts' 15 0 6 t.laws_szCellS_s5, en insts' 16 0 0 t.spec_Format, en insts' 16 0 6 t.spec_Format_s5, en insts' 16 0 15 t.spec_Format_s14, en insts' 16 0 16 t.spec_Format_s15, en insts' 17 0 0 t.laws_toCellS, en insts' 17 0 4 t.laws_toCellS_s3, en insts' 18 0 0 t.impl_Format, en insts' 18 0 6 t.impl_Format_s5, en insts' 18 0 15 t.impl_Format_s14, en insts' 19 0 0 t.laws_eqCellS, en insts' 19 0 5 t.laws_eqCellS_s4, en insts' 20 0 0 t.spec_DrawFormat, en insts' 20 0 6 t.spec_DrawFormat_s5, en insts' 21 0 0 t.impl_Places, en insts' 22 0 0 t.impl_PlaceKinds, en insts' 22 0 5 t.impl_PlaceKinds_s4, en insts' 23 0 0 t.laws_forms, en insts' 48 0 0 t.laws_szCell, en insts' 49 0 0 t.spec_Places, en insts' 49 0 6 t.spec_Places_s5, en insts' 50 0 0 t.spec_CellOk, en insts' 51 0 0 t.spec_l9place, en insts' 51 0 9 t.spec_l9place_s8, en insts' 51 0 10 t.spec_l9place_s9, en insts' 51 0 15 t.spec_l9place_s14, en insts' 51 0 17 t.spec_l9place_s16, en insts' 52 0 0 t.spec_l9pad, en insts' 52 0 2 t.spec_l9pad_s1, en insts' 53 0 0 t.spec_ToStr, en insts' 54 0 0 t.spec_DecText, en insts' 54 0 12 t.spec_DecText_s11, en insts' 55 0 0 t.spec_DecInt, en insts' 56 0 0 t.spec_ToNum, en insts' 57 0 0 t.laws_toCell, en insts' 58 0 0 t.impl_parts, en insts' 58 0 6 t.impl_parts_s5]
def lvb (t : Tb ρ) : List (Ent ρ) := [en insts' 58 0 17 t.impl_parts_s16, en insts' 59 0 0 t.impl_CellOk, en insts' 60 0 0 t.impl_place_text, en insts' 61 0 0 t.laws_eqCell, en insts' 62 0 0 t.spec_l1New, en insts' 62 0 4 t.spec_l1New_s3, en insts' 63 0 0 t.spec_l9format, en insts' 63 0 4 t.spec_l9format_s3, en insts' 64 0 0 t.spec_l1Below, en insts' 65 0 0 t.spec_l7draw, en insts' 66 0 0 t.spec_l1Once, en insts' 67 0 0 t.spec_l7bent, en insts' 67 0 10 t.spec_l7bent_s9, en insts' 69 0 0 t.spec_l1bend, en insts' 70 0 0 t.spec_l1text, en insts' 90 0 0 t.impl_between, en insts' 104 0 0 t.spec_DecOk, en insts' 105 0 0 t.spec_ReadDec, en insts' 105 0 7 t.spec_ReadDec_s6, en insts' 105 0 9 t.spec_ReadDec_s8, en insts' 105 0 16 t.spec_ReadDec_s15, en insts' 105 0 18 t.spec_ReadDec_s17, en insts' 105 0 23 t.spec_ReadDec_s22, en insts' 105 0 27 t.spec_ReadDec_s26, en insts' 105 0 29 t.spec_ReadDec_s28, en insts' 106 0 0 t.spec_LooksNum, en insts' 107 0 0 t.spec_l1digit, en insts' 108 0 0 t.spec_l1dec, en insts' 109 0 0 t.spec_l1abs, en insts' 110 0 0 t.impl_run, en insts' 110 0 3 t.impl_run_s2, en insts' 110 1 0 t.impl_run_1, en insts' 110 1 3 t.impl_run_1_s2, en insts' 111 0 0 t.impl_isDigit, en insts' 112 0 0 t.strconv_Atoi, en insts' 113 0 0 t.impl_DecOk, en insts' 114 0 0 t.impl_ReadDec, en insts' 114 0 7 t.impl_ReadDec_s6, en insts' 114 0 16 t.impl_ReadDec_s15, en insts' 114 0 18 t.impl_ReadDec_s17]
def lvc (t : Tb ρ) : List (Ent ρ) := [en insts' 114 0 20 t.impl_ReadDec_s19, en insts' 115 0 0 t.impl_LooksNum, en insts' 116 0 0 t.impl_Cell_str, en insts' 117 0 0 t.impl_DecText, en insts' 117 0 10 t.impl_DecText_s9, en insts' 118 0 0 t.impl_DecInt, en insts' 119 0 0 t.impl_Cell_num, en insts' 120 0 0 t.strings_Repeat, en insts' 121 0 0 t.spec_l1of, en insts' 121 0 4 t.spec_l1of_s3, en insts' 122 0 0 t.spec_l1Byte, en insts' 123 0 0 t.spec_FieldCell, en insts' 124 0 0 t.spec_l1num, en insts' 163 0 0 t.spec_l1skip, en insts' 163 0 2 t.spec_l1skip_s1, en insts' 166 0 0 t.impl_isSpace, en insts' 167 0 0 t.strconv_Itoa, en insts' 168 0 0 t.strings_TrimRight, en insts' 174 0 0 t.spec_l1PickInt, en insts' 202 0 0 t.spec_l1white]
noncomputable def lv (k : Nat) : List (Ent ρ) := lva (tb k) ++ (lvb (tb k) ++ (lvc (tb k)))
end
end Go.Proofs.YtbakkcdanoopgaaGreatDoor.Ev.Pr
set_option linter.unusedVariables false
set_option maxRecDepth 100000
namespace Go.Proofs.YtbakkcdanoopgaaGreatDoor.Ev.Pr
open Go Go.RowKit Go.Proofs.YtbakkcdanoopgaaGreatDoorW.PrintWords Go.Proofs.YtbakkcdanoopgaaGreatDoorW.PrintMore Kd Go.Proofs.YtbakkcdanoopgaaGreatDoor.Ev
section
variable {ρ : Type} [Bgs] [BgF]
theorem ea (k : Nat) : AllP (EntOK Tryz.prog C F (some (semOf (lv (ρ := ρ) k)))) (lva (tb (k + 1))) := ⟨en_ok fun _ _ _ => by kernel_rfl,
 en_ok fun _ _ => by kernel_rfl,
 en_ok fun _ _ _ => by kernel_rfl,
 en_ok fun _ _ _ _ => by kernel_rfl,
 en_ok fun _ _ _ => by kernel_rfl,
 en_ok fun _ _ _ _ _ => by kernel_rfl,
 en_ok fun _ _ _ _ _ _ => by kernel_rfl,
 en_ok fun _ _ _ _ _ _ => by kernel_rfl,
 en_ok fun _ _ => by kernel_rfl,
 en_ok fun _ _ _ _ => by kernel_rfl,
 en_ok fun _ _ _ => by kernel_rfl,
 en_ok fun _ _ _ _ _ _ _ => by kernel_rfl,
 en_ok fun _ _ _ _ _ _ _ => by kernel_rfl,
 en_ok fun _ _ _ => by kernel_rfl,
 en_ok fun _ _ _ _ => by kernel_rfl,
 en_ok fun _ _ => by kernel_rfl,
 en_ok fun _ _ _ _ _ _ _ => by kernel_rfl,
 en_ok fun _ _ => by kernel_rfl,
 en_ok fun _ _ => by kernel_rfl,
 en_ok fun _ _ _ _ _ => by kernel_rfl,
 en_ok fun _ => by kernel_rfl,
 en_ok fun _ _ _ _ _ => by kernel_rfl,
 en_ok fun _ _ => by kernel_rfl,
 en_ok fun _ _ _ _ => by kernel_rfl,
 en_ok fun _ _ _ _ => by kernel_rfl,
 en_ok fun _ _ _ => by kernel_rfl,
 en_ok fun _ _ _ _ _ _ _ _ _ _ _ => by kernel_rfl,
 en_ok fun _ _ _ _ _ _ _ _ _ _ _ _ => by kernel_rfl,
 en_ok fun _ _ _ _ _ _ _ _ _ _ _ => by kernel_rfl,
 en_ok fun _ _ _ _ _ _ _ _ _ => by kernel_rfl,
 en_ok fun _ _ _ _ _ _ => by kernel_rfl,
 en_ok fun _ _ _ _ _ _ => by kernel_rfl,
 en_ok fun _ _ _ _ => by kernel_rfl,
 en_ok fun _ _ => by kernel_rfl,
 en_ok fun _ _ _ _ => by kernel_rfl,
 en_ok fun _ _ => by kernel_rfl,
 en_ok fun _ _ _ _ => by kernel_rfl,
 en_ok fun _ _ _ _ => by kernel_rfl,
 en_ok fun _ _ => by kernel_rfl,
 en_ok fun _ _ _ _ _ _ => by kernel_rfl, trivial⟩
theorem za : AllP (EntOK Tryz.prog C F none) (lva (tb (ρ := ρ) 0)) := ⟨en_z fun _ _ _ => rfl,
 en_z fun _ _ => rfl,
 en_z fun _ _ _ => rfl,
 en_z fun _ _ _ _ => rfl,
 en_z fun _ _ _ => rfl,
 en_z fun _ _ _ _ _ => rfl,
 en_z fun _ _ _ _ _ _ => rfl,
 en_z fun _ _ _ _ _ _ => rfl,
 en_z fun _ _ => rfl,
 en_z fun _ _ _ _ => rfl,
 en_z fun _ _ _ => rfl,
 en_z fun _ _ _ _ _ _ _ => rfl,
 en_z fun _ _ _ _ _ _ _ => rfl,
 en_z fun _ _ _ => rfl,
 en_z fun _ _ _ _ => rfl,
 en_z fun _ _ => rfl,
 en_z fun _ _ _ _ _ _ _ => rfl,
 en_z fun _ _ => rfl,
 en_z fun _ _ => rfl,
 en_z fun _ _ _ _ _ => rfl,
 en_z fun _ => rfl,
 en_z fun _ _ _ _ _ => rfl,
 en_z fun _ _ => rfl,
 en_z fun _ _ _ _ => rfl,
 en_z fun _ _ _ _ => rfl,
 en_z fun _ _ _ => rfl,
 en_z fun _ _ _ _ _ _ _ _ _ _ _ => rfl,
 en_z fun _ _ _ _ _ _ _ _ _ _ _ _ => rfl,
 en_z fun _ _ _ _ _ _ _ _ _ _ _ => rfl,
 en_z fun _ _ _ _ _ _ _ _ _ => rfl,
 en_z fun _ _ _ _ _ _ => rfl,
 en_z fun _ _ _ _ _ _ => rfl,
 en_z fun _ _ _ _ => rfl,
 en_z fun _ _ => rfl,
 en_z fun _ _ _ _ => rfl,
 en_z fun _ _ => rfl,
 en_z fun _ _ _ _ => rfl,
 en_z fun _ _ _ _ => rfl,
 en_z fun _ _ => rfl,
 en_z fun _ _ _ _ _ _ => rfl, trivial⟩
theorem eb (k : Nat) : AllP (EntOK Tryz.prog C F (some (semOf (lv (ρ := ρ) k)))) (lvb (tb (k + 1))) := ⟨en_ok fun _ _ _ _ _ _ _ _ _ => by kernel_rfl,
 en_ok fun _ _ _ _ => by kernel_rfl,
 en_ok fun _ _ _ _ _ _ _ => by kernel_rfl,
 en_ok fun _ _ _ _ _ _ _ => by kernel_rfl,
 en_ok fun _ _ => by kernel_rfl,
 en_ok fun _ _ _ _ => by kernel_rfl,
 en_ok fun _ _ _ _ => by kernel_rfl,
 en_ok fun _ _ _ _ _ _ => by kernel_rfl,
 en_ok fun _ _ _ _ _ => by kernel_rfl,
 en_ok fun _ _ _ _ => by kernel_rfl,
 en_ok fun _ _ _ _ _ => by kernel_rfl,
 en_ok fun _ _ _ _ => by kernel_rfl,
 en_ok fun _ _ _ _ _ _ _ _ _ _ => by kernel_rfl,
 en_ok fun _ _ _ _ _ => by kernel_rfl,
 en_ok fun _ _ _ _ _ => by kernel_rfl,
 en_ok fun _ _ _ _ => by kernel_rfl,
 en_ok fun _ _ => by kernel_rfl,
 en_ok fun _ _ => by kernel_rfl,
 en_ok fun _ _ _ _ => by kernel_rfl,
 en_ok fun _ _ _ _ _ _ => by kernel_rfl,
 en_ok fun _ _ _ _ _ _ => by kernel_rfl,
 en_ok fun _ _ _ _ _ _ _ => by kernel_rfl,
 en_ok fun _ _ _ _ _ => by kernel_rfl,
 en_ok fun _ _ _ _ => by kernel_rfl,
 en_ok fun _ _ _ => by kernel_rfl,
 en_ok fun _ _ => by kernel_rfl,
 en_ok fun _ _ => by kernel_rfl,
 en_ok fun _ _ => by kernel_rfl,
 en_ok fun _ _ => by kernel_rfl,
 en_ok fun _ _ _ => by kernel_rfl,
 en_ok fun _ _ _ _ => by kernel_rfl,
 en_ok fun _ _ _ => by kernel_rfl,
 en_ok fun _ _ _ _ => by kernel_rfl,
 en_ok fun _ _ => by kernel_rfl,
 en_x xo_strconv_Atoi,
 en_ok fun _ _ => by kernel_rfl,
 en_ok fun _ _ => by kernel_rfl,
 en_ok fun _ _ _ _ => by kernel_rfl,
 en_ok fun _ _ _ _ _ => by kernel_rfl,
 en_ok fun _ _ _ _ _ => by kernel_rfl, trivial⟩
theorem zb : AllP (EntOK Tryz.prog C F none) (lvb (tb (ρ := ρ) 0)) := ⟨en_z fun _ _ _ _ _ _ _ _ _ => rfl,
 en_z fun _ _ _ _ => rfl,
 en_z fun _ _ _ _ _ _ _ => rfl,
 en_z fun _ _ _ _ _ _ _ => rfl,
 en_z fun _ _ => rfl,
 en_z fun _ _ _ _ => rfl,
 en_z fun _ _ _ _ => rfl,
 en_z fun _ _ _ _ _ _ => rfl,
 en_z fun _ _ _ _ _ => rfl,
 en_z fun _ _ _ _ => rfl,
 en_z fun _ _ _ _ _ => rfl,
 en_z fun _ _ _ _ => rfl,
 en_z fun _ _ _ _ _ _ _ _ _ _ => rfl,
 en_z fun _ _ _ _ _ => rfl,
 en_z fun _ _ _ _ _ => rfl,
 en_z fun _ _ _ _ => rfl,
 en_z fun _ _ => rfl,
 en_z fun _ _ => rfl,
 en_z fun _ _ _ _ => rfl,
 en_z fun _ _ _ _ _ _ => rfl,
 en_z fun _ _ _ _ _ _ => rfl,
 en_z fun _ _ _ _ _ _ _ => rfl,
 en_z fun _ _ _ _ _ => rfl,
 en_z fun _ _ _ _ => rfl,
 en_z fun _ _ _ => rfl,
 en_z fun _ _ => rfl,
 en_z fun _ _ => rfl,
 en_z fun _ _ => rfl,
 en_z fun _ _ => rfl,
 en_z fun _ _ _ => rfl,
 en_z fun _ _ _ _ => rfl,
 en_z fun _ _ _ => rfl,
 en_z fun _ _ _ _ => rfl,
 en_z fun _ _ => rfl,
 en_x xo_strconv_Atoi,
 en_z fun _ _ => rfl,
 en_z fun _ _ => rfl,
 en_z fun _ _ _ _ => rfl,
 en_z fun _ _ _ _ _ => rfl,
 en_z fun _ _ _ _ _ => rfl, trivial⟩
theorem ec (k : Nat) : AllP (EntOK Tryz.prog C F (some (semOf (lv (ρ := ρ) k)))) (lvc (tb (k + 1))) := ⟨en_ok fun _ _ _ _ _ _ _ => by kernel_rfl,
 en_ok fun _ _ => by kernel_rfl,
 en_ok fun _ _ _ _ => by kernel_rfl,
 en_ok fun _ _ => by kernel_rfl,
 en_ok fun _ _ => by kernel_rfl,
 en_ok fun _ _ => by kernel_rfl,
 en_ok fun _ _ _ _ => by kernel_rfl,
 en_x xo_strings_Repeat,
 en_ok fun _ _ _ _ _ _ => by kernel_rfl,
 en_ok fun _ _ _ _ _ _ _ _ => by kernel_rfl,
 en_ok fun _ _ _ _ => by kernel_rfl,
 en_ok fun _ _ => by kernel_rfl,
 en_ok fun _ _ _ _ => by kernel_rfl,
 en_ok fun _ _ _ => by kernel_rfl,
 en_ok fun _ _ _ => by kernel_rfl,
 en_ok fun _ _ => by kernel_rfl,
 en_x xo_strconv_Itoa,
 en_x xo_strings_TrimRight,
 en_ok fun _ _ _ _ _ => by kernel_rfl,
 en_ok fun _ _ => by kernel_rfl, trivial⟩
theorem zc : AllP (EntOK Tryz.prog C F none) (lvc (tb (ρ := ρ) 0)) := ⟨en_z fun _ _ _ _ _ _ _ => rfl,
 en_z fun _ _ => rfl,
 en_z fun _ _ _ _ => rfl,
 en_z fun _ _ => rfl,
 en_z fun _ _ => rfl,
 en_z fun _ _ => rfl,
 en_z fun _ _ _ _ => rfl,
 en_x xo_strings_Repeat,
 en_z fun _ _ _ _ _ _ => rfl,
 en_z fun _ _ _ _ _ _ _ _ => rfl,
 en_z fun _ _ _ _ => rfl,
 en_z fun _ _ => rfl,
 en_z fun _ _ _ _ => rfl,
 en_z fun _ _ _ => rfl,
 en_z fun _ _ _ => rfl,
 en_z fun _ _ => rfl,
 en_x xo_strconv_Itoa,
 en_x xo_strings_TrimRight,
 en_z fun _ _ _ _ _ => rfl,
 en_z fun _ _ => rfl, trivial⟩
end
end Go.Proofs.YtbakkcdanoopgaaGreatDoor.Ev.Pr
set_option linter.unusedVariables false
set_option maxRecDepth 100000
namespace Go.Proofs.YtbakkcdanoopgaaGreatDoor.Ev.Pr
open Go Go.RowKit Go.Proofs.YtbakkcdanoopgaaGreatDoorW.PrintWords Go.Proofs.YtbakkcdanoopgaaGreatDoorW.PrintMore Kd Go.Proofs.YtbakkcdanoopgaaGreatDoor.Ev
instance wrf : WrFact Tryz.prog C := wr_fact (l := wrs) trivial rfl
theorem sound [Bgs] [BgF] {ρ : Type} : ∀ k, SemOK Tryz.prog F.insts (semOf (lv (ρ := ρ) k)) ∧ StopOK Tryz.prog F (semOf (lv (ρ := ρ) k)) := sem_ok (C := C) tab_right (by kernel_rfl) fns_right (AllP.app (za) (AllP.app (zb) (zc))) fun k => (AllP.app (ea k) (AllP.app (eb k) (ec k)))
end Go.Proofs.YtbakkcdanoopgaaGreatDoor.Ev.Pr
set_option linter.unusedVariables false
set_option maxRecDepth 100000
namespace Go.Proofs.YtbakkcdanoopgaaGreatDoor.Ev.Pr
open Go Go.RowKit Go.Proofs.YtbakkcdanoopgaaGreatDoorW.PrintWords Go.Proofs.YtbakkcdanoopgaaGreatDoorW.PrintMore Kd Go.Proofs.YtbakkcdanoopgaaGreatDoor.Ev
section
variable {ρ : Type}
theorem st_laws_FnFormats {x0 : List Int} {Q : Bool → Prop} (h : Tot (fun k κ => B_laws_FnFormats (tb (ρ := ρ) k) x0 (fun a0 => κ a0)) Q) : Tot (fun k κ => (tb (ρ := ρ) k).laws_FnFormats x0 (fun a0 => κ a0)) Q := Tot.step (fun _ _ => rfl) h
theorem st_spec_Format {x0 : ByteArray} {x1 : List Tt38} {Q : (ByteArray × Int) → Prop} (h : Tot (fun k κ => B_spec_Format (tb (ρ := ρ) k) x0 x1 (fun a0 a1 => κ (a0, a1))) Q) : Tot (fun k κ => (tb (ρ := ρ) k).spec_Format x0 x1 (fun a0 a1 => κ (a0, a1))) Q := Tot.step (fun _ _ => rfl) h
theorem st_spec_Format_s5 {x4 : ByteArray} {x5 : List Tt38} {x6 : Int} {x7 : Int} {Q : (ByteArray × Int) → Prop} (h : Tot (fun k κ => B_spec_Format_s5 (tb (ρ := ρ) k) x4 x5 x6 x7 (fun a0 a1 => κ (a0, a1))) Q) : Tot (fun k κ => (tb (ρ := ρ) k).spec_Format_s5 x4 x5 x6 x7 (fun a0 a1 => κ (a0, a1))) Q := Tot.step (fun _ _ => rfl) h
theorem st_spec_Format_s14 {x9 : ByteArray} {x10 : List Tt38} {x11 : ByteArray} {x12 : Int} {x13 : Int} {Q : (ByteArray × Int) → Prop} (h : Tot (fun k κ => B_spec_Format_s14 (tb (ρ := ρ) k) x9 x10 x11 x12 x13 (fun a0 a1 => κ (a0, a1))) Q) : Tot (fun k κ => (tb (ρ := ρ) k).spec_Format_s14 x9 x10 x11 x12 x13 (fun a0 a1 => κ (a0, a1))) Q := Tot.step (fun _ _ => rfl) h
theorem st_spec_Format_s15 {x24 : ByteArray} {x25 : List Tt38} {x26 : ByteArray} {x27 : Int} {x28 : Int} {Q : (ByteArray × Int) → Prop} (h : Tot (fun k κ => B_spec_Format_s15 (tb (ρ := ρ) k) x24 x25 x26 x27 x28 (fun a0 a1 => κ (a0, a1))) Q) : Tot (fun k κ => (tb (ρ := ρ) k).spec_Format_s15 x24 x25 x26 x27 x28 (fun a0 a1 => κ (a0, a1))) Q := Tot.step (fun _ _ => rfl) h
theorem st_impl_Format {x0 : ByteArray} {x1 : List Tt38} {Q : (ByteArray × Int) → Prop} (h : Tot (fun k κ => B_impl_Format (tb (ρ := ρ) k) x0 x1 (fun a0 a1 => κ (a0, a1))) Q) : Tot (fun k κ => (tb (ρ := ρ) k).impl_Format x0 x1 (fun a0 a1 => κ (a0, a1))) Q := Tot.step (fun _ _ => rfl) h
theorem st_impl_Format_s5 {x5 : List Tt38} {x6 : List Tt38} {x7 : Int} {x8 : Int} {x9 : List ByteArray} {x10 : List Tt87} {Q : (ByteArray × Int) → Prop} (h : Tot (fun k κ => B_impl_Format_s5 (tb (ρ := ρ) k) x5 x6 x7 x8 x9 x10 (fun a0 a1 => κ (a0, a1))) Q) : Tot (fun k κ => (tb (ρ := ρ) k).impl_Format_s5 x5 x6 x7 x8 x9 x10 (fun a0 a1 => κ (a0, a1))) Q := Tot.step (fun _ _ => rfl) h
theorem st_impl_Format_s14 {x12 : List Tt38} {x13 : ByteArray} {x14 : Int} {x15 : Int} {x16 : List ByteArray} {x17 : List Tt87} {Q : (ByteArray × Int) → Prop} (h : Tot (fun k κ => B_impl_Format_s14 (tb (ρ := ρ) k) x12 x13 x14 x15 x16 x17 (fun a0 a1 => κ (a0, a1))) Q) : Tot (fun k κ => (tb (ρ := ρ) k).impl_Format_s14 x12 x13 x14 x15 x16 x17 (fun a0 a1 => κ (a0, a1))) Q := Tot.step (fun _ _ => rfl) h
theorem st_spec_DrawFormat {x0 : List Int} {Q : (ByteArray × (List Tt38)) → Prop} (h : Tot (fun k κ => B_spec_DrawFormat (tb (ρ := ρ) k) x0 (fun a0 a1 => κ (a0, a1))) Q) : Tot (fun k κ => (tb (ρ := ρ) k).spec_DrawFormat x0 (fun a0 a1 => κ (a0, a1))) Q := Tot.step (fun _ _ => rfl) h
theorem st_spec_DrawFormat_s5 {x10 : ByteArray} {x11 : Int} {x12 : List Tt38} {x13 : List Int} {x14 : Int} {x15 : Int} {Q : (ByteArray × (List Tt38)) → Prop} (h : Tot (fun k κ => B_spec_DrawFormat_s5 (tb (ρ := ρ) k) x10 x11 x12 x13 x14 x15 (fun a0 a1 => κ (a0, a1))) Q) : Tot (fun k κ => (tb (ρ := ρ) k).spec_DrawFormat_s5 x10 x11 x12 x13 x14 x15 (fun a0 a1 => κ (a0, a1))) Q := Tot.step (fun _ _ => rfl) h
theorem st_impl_Places {x0 : ByteArray} {Q : (Int × Bool) → Prop} (h : Tot (fun k κ => B_impl_Places (tb (ρ := ρ) k) x0 (fun a0 a1 => κ (a0, a1))) Q) : Tot (fun k κ => (tb (ρ := ρ) k).impl_Places x0 (fun a0 a1 => κ (a0, a1))) Q := Tot.step (fun _ _ => rfl) h
theorem st_impl_PlaceKinds {x0 : ByteArray} {Q : ByteArray → Prop} (h : Tot (fun k κ => B_impl_PlaceKinds (tb (ρ := ρ) k) x0 (fun a0 => κ a0)) Q) : Tot (fun k κ => (tb (ρ := ρ) k).impl_PlaceKinds x0 (fun a0 => κ a0)) Q := Tot.step (fun _ _ => rfl) h
theorem st_impl_PlaceKinds_s4 {x4 : Int} {x5 : Int} {x6 : List Tt87} {x7 : List Int} {Q : ByteArray → Prop} (h : Tot (fun k κ => B_impl_PlaceKinds_s4 (tb (ρ := ρ) k) x4 x5 x6 x7 (fun a0 => κ a0)) Q) : Tot (fun k κ => (tb (ρ := ρ) k).impl_PlaceKinds_s4 x4 x5 x6 x7 (fun a0 => κ a0)) Q := Tot.step (fun _ _ => rfl) h
theorem st_spec_Places {x0 : ByteArray} {Q : (Int × Bool) → Prop} (h : Tot (fun k κ => B_spec_Places (tb (ρ := ρ) k) x0 (fun a0 a1 => κ (a0, a1))) Q) : Tot (fun k κ => (tb (ρ := ρ) k).spec_Places x0 (fun a0 a1 => κ (a0, a1))) Q := Tot.step (fun _ _ => rfl) h
theorem st_spec_Places_s5 {x1 : ByteArray} {x2 : Int} {x3 : Int} {Q : (Int × Bool) → Prop} (h : Tot (fun k κ => B_spec_Places_s5 (tb (ρ := ρ) k) x1 x2 x3 (fun a0 a1 => κ (a0, a1))) Q) : Tot (fun k κ => (tb (ρ := ρ) k).spec_Places_s5 x1 x2 x3 (fun a0 a1 => κ (a0, a1))) Q := Tot.step (fun _ _ => rfl) h
theorem st_spec_CellOk {x0 : Int} {x1 : Int} {x2 : ByteArray} {Q : Bool → Prop} (h : Tot (fun k κ => B_spec_CellOk (tb (ρ := ρ) k) x0 x1 x2 (fun a0 => κ a0)) Q) : Tot (fun k κ => (tb (ρ := ρ) k).spec_CellOk x0 x1 x2 (fun a0 => κ a0)) Q := Tot.step (fun _ _ => rfl) h
theorem st_spec_l9place {x0 : ByteArray} {x1 : Int} {Q : (Int × Int × Bool × Int) → Prop} (h : Tot (fun k κ => B_spec_l9place (tb (ρ := ρ) k) x0 x1 (fun a0 a1 a2 a3 => κ (a0, a1, a2, a3))) Q) : Tot (fun k κ => (tb (ρ := ρ) k).spec_l9place x0 x1 (fun a0 a1 a2 a3 => κ (a0, a1, a2, a3))) Q := Tot.step (fun _ _ => rfl) h
theorem st_spec_l9place_s8 {x2 : ByteArray} {x3 : Int} {x4 : Int} {x5 : Int} {x6 : Bool} {x7 : Int} {x8 : Int} {x9 : Int} {x10 : Bool} {x11 : Int} {Q : (Int × Int × Bool × Int) → Prop} (h : Tot (fun k κ => B_spec_l9place_s8 (tb (ρ := ρ) k) x2 x3 x4 x5 x6 x7 x8 x9 x10 x11 (fun a0 a1 a2 a3 => κ (a0, a1, a2, a3))) Q) : Tot (fun k κ => (tb (ρ := ρ) k).spec_l9place_s8 x2 x3 x4 x5 x6 x7 x8 x9 x10 x11 (fun a0 a1 a2 a3 => κ (a0, a1, a2, a3))) Q := Tot.step (fun _ _ => rfl) h
theorem st_spec_l9place_s9 {x12 : ByteArray} {x13 : Int} {x14 : Int} {x15 : Int} {x16 : Int} {x17 : Bool} {x18 : Int} {x19 : Int} {x20 : Int} {x21 : Bool} {x22 : Int} {Q : (Int × Int × Bool × Int) → Prop} (h : Tot (fun k κ => B_spec_l9place_s9 (tb (ρ := ρ) k) x12 x13 x14 x15 x16 x17 x18 x19 x20 x21 x22 (fun a0 a1 a2 a3 => κ (a0, a1, a2, a3))) Q) : Tot (fun k κ => (tb (ρ := ρ) k).spec_l9place_s9 x12 x13 x14 x15 x16 x17 x18 x19 x20 x21 x22 (fun a0 a1 a2 a3 => κ (a0, a1, a2, a3))) Q := Tot.step (fun _ _ => rfl) h
theorem st_spec_l9place_s14 {x24 : ByteArray} {x25 : Int} {x26 : Int} {x27 : Int} {x28 : Bool} {x29 : Int} {x30 : Int} {x31 : Int} {x32 : Bool} {x33 : Int} {Q : (Int × Int × Bool × Int) → Prop} (h : Tot (fun k κ => B_spec_l9place_s14 (tb (ρ := ρ) k) x24 x25 x26 x27 x28 x29 x30 x31 x32 x33 (fun a0 a1 a2 a3 => κ (a0, a1, a2, a3))) Q) : Tot (fun k κ => (tb (ρ := ρ) k).spec_l9place_s14 x24 x25 x26 x27 x28 x29 x30 x31 x32 x33 (fun a0 a1 a2 a3 => κ (a0, a1, a2, a3))) Q := Tot.step (fun _ _ => rfl) h
theorem st_spec_l9place_s16 {x34 : Int} {x35 : Int} {x36 : Bool} {x37 : Int} {x38 : Int} {x39 : Int} {x40 : Bool} {x41 : Int} {Q : (Int × Int × Bool × Int) → Prop} (h : Tot (fun k κ => B_spec_l9place_s16 (tb (ρ := ρ) k) x34 x35 x36 x37 x38 x39 x40 x41 (fun a0 a1 a2 a3 => κ (a0, a1, a2, a3))) Q) : Tot (fun k κ => (tb (ρ := ρ) k).spec_l9place_s16 x34 x35 x36 x37 x38 x39 x40 x41 (fun a0 a1 a2 a3 => κ (a0, a1, a2, a3))) Q := Tot.step (fun _ _ => rfl) h
theorem st_spec_l9pad {x0 : ByteArray} {x1 : Int} {x2 : Int} {x3 : Bool} {x4 : Int} {Q : ByteArray → Prop} (h : Tot (fun k κ => B_spec_l9pad (tb (ρ := ρ) k) x0 x1 x2 x3 x4 (fun a0 => κ a0)) Q) : Tot (fun k κ => (tb (ρ := ρ) k).spec_l9pad x0 x1 x2 x3 x4 (fun a0 => κ a0)) Q := Tot.step (fun _ _ => rfl) h
theorem st_spec_l9pad_s1 {x5 : ByteArray} {x6 : Int} {x7 : Int} {x8 : Bool} {x9 : Int} {Q : ByteArray → Prop} (h : Tot (fun k κ => B_spec_l9pad_s1 (tb (ρ := ρ) k) x5 x6 x7 x8 x9 (fun a0 => κ a0)) Q) : Tot (fun k κ => (tb (ρ := ρ) k).spec_l9pad_s1 x5 x6 x7 x8 x9 (fun a0 => κ a0)) Q := Tot.step (fun _ _ => rfl) h
theorem st_spec_ToStr {x0 : Int} {x1 : Int} {x2 : ByteArray} {Q : ByteArray → Prop} (h : Tot (fun k κ => B_spec_ToStr (tb (ρ := ρ) k) x0 x1 x2 (fun a0 => κ a0)) Q) : Tot (fun k κ => (tb (ρ := ρ) k).spec_ToStr x0 x1 x2 (fun a0 => κ a0)) Q := Tot.step (fun _ _ => rfl) h
theorem st_spec_DecText {x0 : Int} {Q : ByteArray → Prop} (h : Tot (fun k κ => B_spec_DecText (tb (ρ := ρ) k) x0 (fun a0 => κ a0)) Q) : Tot (fun k κ => (tb (ρ := ρ) k).spec_DecText x0 (fun a0 => κ a0)) Q := Tot.step (fun _ _ => rfl) h
theorem st_spec_DecText_s11 {x6 : ByteArray} {x7 : Int} {x8 : Int} {Q : ByteArray → Prop} (h : Tot (fun k κ => B_spec_DecText_s11 (tb (ρ := ρ) k) x6 x7 x8 (fun a0 => κ a0)) Q) : Tot (fun k κ => (tb (ρ := ρ) k).spec_DecText_s11 x6 x7 x8 (fun a0 => κ a0)) Q := Tot.step (fun _ _ => rfl) h
theorem st_spec_DecInt {x0 : Int} {Q : Int → Prop} (h : Tot (fun k κ => B_spec_DecInt (tb (ρ := ρ) k) x0 (fun a0 => κ a0)) Q) : Tot (fun k κ => (tb (ρ := ρ) k).spec_DecInt x0 (fun a0 => κ a0)) Q := Tot.step (fun _ _ => rfl) h
theorem st_spec_ToNum {x0 : Int} {x1 : Int} {x2 : ByteArray} {Q : Int → Prop} (h : Tot (fun k κ => B_spec_ToNum (tb (ρ := ρ) k) x0 x1 x2 (fun a0 => κ a0)) Q) : Tot (fun k κ => (tb (ρ := ρ) k).spec_ToNum x0 x1 x2 (fun a0 => κ a0)) Q := Tot.step (fun _ _ => rfl) h
theorem st_impl_parts {x0 : ByteArray} {Q : ((List ByteArray) × (List Tt87) × Bool) → Prop} (h : Tot (fun k κ => B_impl_parts (tb (ρ := ρ) k) x0 (fun a0 a1 a2 => κ (a0, a1, a2))) Q) : Tot (fun k κ => (tb (ρ := ρ) k).impl_parts x0 (fun a0 a1 a2 => κ (a0, a1, a2))) Q := Tot.step (fun _ _ => rfl) h
theorem st_impl_parts_s5 {x1 : ByteArray} {x2 : Int} {x3 : List ByteArray} {x4 : List Tt87} {x5 : List Int} {Q : ((List ByteArray) × (List Tt87) × Bool) → Prop} (h : Tot (fun k κ => B_impl_parts_s5 (tb (ρ := ρ) k) x1 x2 x3 x4 x5 (fun a0 a1 a2 => κ (a0, a1, a2))) Q) : Tot (fun k κ => (tb (ρ := ρ) k).impl_parts_s5 x1 x2 x3 x4 x5 (fun a0 a1 a2 => κ (a0, a1, a2))) Q := Tot.step (fun _ _ => rfl) h
theorem st_impl_parts_s16 {x6 : ByteArray} {x7 : Int} {x8 : List ByteArray} {x9 : List Tt87} {x10 : List Int} {x11 : Int} {x12 : Bool} {x13 : Int} {Q : ((List ByteArray) × (List Tt87) × Bool) → Prop} (h : Tot (fun k κ => B_impl_parts_s16 (tb (ρ := ρ) k) x6 x7 x8 x9 x10 x11 x12 x13 (fun a0 a1 a2 => κ (a0, a1, a2))) Q) : Tot (fun k κ => (tb (ρ := ρ) k).impl_parts_s16 x6 x7 x8 x9 x10 x11 x12 x13 (fun a0 a1 a2 => κ (a0, a1, a2))) Q := Tot.step (fun _ _ => rfl) h
theorem st_impl_CellOk {x0 : Int} {x1 : Int} {x2 : ByteArray} {Q : Bool → Prop} (h : Tot (fun k κ => B_impl_CellOk (tb (ρ := ρ) k) x0 x1 x2 (fun a0 => κ a0)) Q) : Tot (fun k κ => (tb (ρ := ρ) k).impl_CellOk x0 x1 x2 (fun a0 => κ a0)) Q := Tot.step (fun _ _ => rfl) h
theorem st_impl_place_text {x0 : Int} {x1 : Bool} {x2 : Int} {x3 : Int} {x4 : Int} {x5 : ByteArray} {Q : ByteArray → Prop} (h : Tot (fun k κ => B_impl_place_text (tb (ρ := ρ) k) x0 x1 x2 x3 x4 x5 (fun a0 => κ a0)) Q) : Tot (fun k κ => (tb (ρ := ρ) k).impl_place_text x0 x1 x2 x3 x4 x5 (fun a0 => κ a0)) Q := Tot.step (fun _ _ => rfl) h
theorem st_spec_l1New {x0 : List Int} {Q : ((List Int) × Int × Int) → Prop} (h : Tot (fun k κ => B_spec_l1New (tb (ρ := ρ) k) x0 (fun a0 a1 a2 => κ (a0, a1, a2))) Q) : Tot (fun k κ => (tb (ρ := ρ) k).spec_l1New x0 (fun a0 a1 a2 => κ (a0, a1, a2))) Q := Tot.step (fun _ _ => rfl) h
theorem st_spec_l1New_s3 {x1 : List Int} {x2 : Int} {x3 : Int} {Q : ((List Int) × Int × Int) → Prop} (h : Tot (fun k κ => B_spec_l1New_s3 (tb (ρ := ρ) k) x1 x2 x3 (fun a0 a1 a2 => κ (a0, a1, a2))) Q) : Tot (fun k κ => (tb (ρ := ρ) k).spec_l1New_s3 x1 x2 x3 (fun a0 a1 a2 => κ (a0, a1, a2))) Q := Tot.step (fun _ _ => rfl) h
theorem st_spec_l9format {x0 : List Int} {x1 : Int} {x2 : Int} {Q : (ByteArray × Int × Int) → Prop} (h : Tot (fun k κ => B_spec_l9format (tb (ρ := ρ) k) x0 x1 x2 (fun a0 a1 a2 => κ (a0, a1, a2))) Q) : Tot (fun k κ => (tb (ρ := ρ) k).spec_l9format x0 x1 x2 (fun a0 a1 a2 => κ (a0, a1, a2))) Q := Tot.step (fun _ _ => rfl) h
theorem st_spec_l9format_s3 {x6 : ByteArray} {x7 : Int} {x8 : List Int} {x9 : Int} {x10 : Int} {Q : (ByteArray × Int × Int) → Prop} (h : Tot (fun k κ => B_spec_l9format_s3 (tb (ρ := ρ) k) x6 x7 x8 x9 x10 (fun a0 a1 a2 => κ (a0, a1, a2))) Q) : Tot (fun k κ => (tb (ρ := ρ) k).spec_l9format_s3 x6 x7 x8 x9 x10 (fun a0 a1 a2 => κ (a0, a1, a2))) Q := Tot.step (fun _ _ => rfl) h
theorem st_spec_l1Below {x0 : Int} {x1 : List Int} {x2 : Int} {x3 : Int} {Q : (Int × Int × Int) → Prop} (h : Tot (fun k κ => B_spec_l1Below (tb (ρ := ρ) k) x0 x1 x2 x3 (fun a0 a1 a2 => κ (a0, a1, a2))) Q) : Tot (fun k κ => (tb (ρ := ρ) k).spec_l1Below x0 x1 x2 x3 (fun a0 a1 a2 => κ (a0, a1, a2))) Q := Tot.step (fun _ _ => rfl) h
theorem st_spec_l7draw {x0 : List Int} {x1 : Int} {x2 : Int} {Q : (Int × Int × ByteArray × Int × Int) → Prop} (h : Tot (fun k κ => B_spec_l7draw (tb (ρ := ρ) k) x0 x1 x2 (fun a0 a1 a2 a3 a4 => κ (a0, a1, a2, a3, a4))) Q) : Tot (fun k κ => (tb (ρ := ρ) k).spec_l7draw x0 x1 x2 (fun a0 a1 a2 a3 a4 => κ (a0, a1, a2, a3, a4))) Q := Tot.step (fun _ _ => rfl) h
theorem st_spec_l1Once {x0 : Int} {x1 : List Int} {x2 : Int} {x3 : Int} {Q : (Bool × Int × Int) → Prop} (h : Tot (fun k κ => B_spec_l1Once (tb (ρ := ρ) k) x0 x1 x2 x3 (fun a0 a1 a2 => κ (a0, a1, a2))) Q) : Tot (fun k κ => (tb (ρ := ρ) k).spec_l1Once x0 x1 x2 x3 (fun a0 a1 a2 => κ (a0, a1, a2))) Q := Tot.step (fun _ _ => rfl) h
theorem st_spec_l7bent {x0 : List Int} {x1 : Int} {x2 : Int} {Q : (Int × Int × ByteArray × Int × Int) → Prop} (h : Tot (fun k κ => B_spec_l7bent (tb (ρ := ρ) k) x0 x1 x2 (fun a0 a1 a2 a3 a4 => κ (a0, a1, a2, a3, a4))) Q) : Tot (fun k κ => (tb (ρ := ρ) k).spec_l7bent x0 x1 x2 (fun a0 a1 a2 a3 a4 => κ (a0, a1, a2, a3, a4))) Q := Tot.step (fun _ _ => rfl) h
theorem st_spec_l7bent_s9 {x23 : List Int} {x24 : Int} {x25 : Int} {x26 : Int} {x27 : Int} {x28 : ByteArray} {x29 : Int} {x30 : Int} {x31 : ByteArray} {Q : (Int × Int × ByteArray × Int × Int) → Prop} (h : Tot (fun k κ => B_spec_l7bent_s9 (tb (ρ := ρ) k) x23 x24 x25 x26 x27 x28 x29 x30 x31 (fun a0 a1 a2 a3 a4 => κ (a0, a1, a2, a3, a4))) Q) : Tot (fun k κ => (tb (ρ := ρ) k).spec_l7bent_s9 x23 x24 x25 x26 x27 x28 x29 x30 x31 (fun a0 a1 a2 a3 a4 => κ (a0, a1, a2, a3, a4))) Q := Tot.step (fun _ _ => rfl) h
theorem st_spec_l1bend {x0 : ByteArray} {x1 : List Int} {x2 : Int} {x3 : Int} {Q : (ByteArray × Int × Int) → Prop} (h : Tot (fun k κ => B_spec_l1bend (tb (ρ := ρ) k) x0 x1 x2 x3 (fun a0 a1 a2 => κ (a0, a1, a2))) Q) : Tot (fun k κ => (tb (ρ := ρ) k).spec_l1bend x0 x1 x2 x3 (fun a0 a1 a2 => κ (a0, a1, a2))) Q := Tot.step (fun _ _ => rfl) h
theorem st_spec_l1text {x0 : List ByteArray} {x1 : List Int} {x2 : Int} {x3 : Int} {Q : (ByteArray × Int × Int) → Prop} (h : Tot (fun k κ => B_spec_l1text (tb (ρ := ρ) k) x0 x1 x2 x3 (fun a0 a1 a2 => κ (a0, a1, a2))) Q) : Tot (fun k κ => (tb (ρ := ρ) k).spec_l1text x0 x1 x2 x3 (fun a0 a1 a2 => κ (a0, a1, a2))) Q := Tot.step (fun _ _ => rfl) h
theorem st_impl_between {x0 : Int} {x1 : Int} {x2 : Int} {Q : Bool → Prop} (h : Tot (fun k κ => B_impl_between (tb (ρ := ρ) k) x0 x1 x2 (fun a0 => κ a0)) Q) : Tot (fun k κ => (tb (ρ := ρ) k).impl_between x0 x1 x2 (fun a0 => κ a0)) Q := Tot.step (fun _ _ => rfl) h
theorem st_spec_DecOk {x0 : Int} {Q : Bool → Prop} (h : Tot (fun k κ => B_spec_DecOk (tb (ρ := ρ) k) x0 (fun a0 => κ a0)) Q) : Tot (fun k κ => (tb (ρ := ρ) k).spec_DecOk x0 (fun a0 => κ a0)) Q := Tot.step (fun _ _ => rfl) h
theorem st_spec_ReadDec {x0 : ByteArray} {Q : (Int × Int) → Prop} (h : Tot (fun k κ => B_spec_ReadDec (tb (ρ := ρ) k) x0 (fun a0 a1 => κ (a0, a1))) Q) : Tot (fun k κ => (tb (ρ := ρ) k).spec_ReadDec x0 (fun a0 a1 => κ (a0, a1))) Q := Tot.step (fun _ _ => rfl) h
theorem st_spec_ReadDec_s6 {x2 : ByteArray} {x3 : Int} {x4 : Bool} {Q : (Int × Int) → Prop} (h : Tot (fun k κ => B_spec_ReadDec_s6 (tb (ρ := ρ) k) x2 x3 x4 (fun a0 a1 => κ (a0, a1))) Q) : Tot (fun k κ => (tb (ρ := ρ) k).spec_ReadDec_s6 x2 x3 x4 (fun a0 a1 => κ (a0, a1))) Q := Tot.step (fun _ _ => rfl) h
theorem st_spec_ReadDec_s8 {x5 : ByteArray} {x6 : Int} {x7 : Bool} {x8 : Int} {x9 : Int} {Q : (Int × Int) → Prop} (h : Tot (fun k κ => B_spec_ReadDec_s8 (tb (ρ := ρ) k) x5 x6 x7 x8 x9 (fun a0 a1 => κ (a0, a1))) Q) : Tot (fun k κ => (tb (ρ := ρ) k).spec_ReadDec_s8 x5 x6 x7 x8 x9 (fun a0 a1 => κ (a0, a1))) Q := Tot.step (fun _ _ => rfl) h
theorem st_spec_ReadDec_s15 {x13 : ByteArray} {x14 : Int} {x15 : Bool} {x16 : Int} {x17 : Int} {Q : (Int × Int) → Prop} (h : Tot (fun k κ => B_spec_ReadDec_s15 (tb (ρ := ρ) k) x13 x14 x15 x16 x17 (fun a0 a1 => κ (a0, a1))) Q) : Tot (fun k κ => (tb (ρ := ρ) k).spec_ReadDec_s15 x13 x14 x15 x16 x17 (fun a0 a1 => κ (a0, a1))) Q := Tot.step (fun _ _ => rfl) h
theorem st_spec_ReadDec_s17 {x22 : ByteArray} {x23 : Int} {x24 : Bool} {x25 : Int} {x26 : Int} {x27 : Int} {Q : (Int × Int) → Prop} (h : Tot (fun k κ => B_spec_ReadDec_s17 (tb (ρ := ρ) k) x22 x23 x24 x25 x26 x27 (fun a0 a1 => κ (a0, a1))) Q) : Tot (fun k κ => (tb (ρ := ρ) k).spec_ReadDec_s17 x22 x23 x24 x25 x26 x27 (fun a0 a1 => κ (a0, a1))) Q := Tot.step (fun _ _ => rfl) h
theorem st_spec_ReadDec_s22 {x18 : Int} {x19 : Bool} {x20 : Int} {x21 : Int} {Q : (Int × Int) → Prop} (h : Tot (fun k κ => B_spec_ReadDec_s22 (tb (ρ := ρ) k) x18 x19 x20 x21 (fun a0 a1 => κ (a0, a1))) Q) : Tot (fun k κ => (tb (ρ := ρ) k).spec_ReadDec_s22 x18 x19 x20 x21 (fun a0 a1 => κ (a0, a1))) Q := Tot.step (fun _ _ => rfl) h
theorem st_spec_ReadDec_s26 {x29 : Int} {x30 : Bool} {x31 : Int} {Q : (Int × Int) → Prop} (h : Tot (fun k κ => B_spec_ReadDec_s26 (tb (ρ := ρ) k) x29 x30 x31 (fun a0 a1 => κ (a0, a1))) Q) : Tot (fun k κ => (tb (ρ := ρ) k).spec_ReadDec_s26 x29 x30 x31 (fun a0 a1 => κ (a0, a1))) Q := Tot.step (fun _ _ => rfl) h
theorem st_spec_ReadDec_s28 {x32 : Int} {x33 : Int} {Q : (Int × Int) → Prop} (h : Tot (fun k κ => B_spec_ReadDec_s28 (tb (ρ := ρ) k) x32 x33 (fun a0 a1 => κ (a0, a1))) Q) : Tot (fun k κ => (tb (ρ := ρ) k).spec_ReadDec_s28 x32 x33 (fun a0 a1 => κ (a0, a1))) Q := Tot.step (fun _ _ => rfl) h
theorem st_spec_LooksNum {x0 : ByteArray} {Q : Bool → Prop} (h : Tot (fun k κ => B_spec_LooksNum (tb (ρ := ρ) k) x0 (fun a0 => κ a0)) Q) : Tot (fun k κ => (tb (ρ := ρ) k).spec_LooksNum x0 (fun a0 => κ a0)) Q := Tot.step (fun _ _ => rfl) h
theorem st_spec_l1digit {x0 : Int} {Q : Bool → Prop} (h : Tot (fun k κ => B_spec_l1digit (tb (ρ := ρ) k) x0 (fun a0 => κ a0)) Q) : Tot (fun k κ => (tb (ρ := ρ) k).spec_l1digit x0 (fun a0 => κ a0)) Q := Tot.step (fun _ _ => rfl) h
theorem st_spec_l1dec {x0 : Int} {Q : ByteArray → Prop} (h : Tot (fun k κ => B_spec_l1dec (tb (ρ := ρ) k) x0 (fun a0 => κ a0)) Q) : Tot (fun k κ => (tb (ρ := ρ) k).spec_l1dec x0 (fun a0 => κ a0)) Q := Tot.step (fun _ _ => rfl) h
theorem st_spec_l1abs {x0 : Int} {Q : Int → Prop} (h : Tot (fun k κ => B_spec_l1abs (tb (ρ := ρ) k) x0 (fun a0 => κ a0)) Q) : Tot (fun k κ => (tb (ρ := ρ) k).spec_l1abs x0 (fun a0 => κ a0)) Q := Tot.step (fun _ _ => rfl) h
theorem st_impl_run {x0 : ByteArray} {x1 : Int} {Q : Int → Prop} (h : Tot (fun k κ => B_impl_run (tb (ρ := ρ) k) x0 x1 (fun a0 => κ a0)) Q) : Tot (fun k κ => (tb (ρ := ρ) k).impl_run x0 x1 (fun a0 => κ a0)) Q := Tot.step (fun _ _ => rfl) h
theorem st_impl_run_s2 {x2 : ByteArray} {x3 : Int} {x4 : Int} {Q : Int → Prop} (h : Tot (fun k κ => B_impl_run_s2 (tb (ρ := ρ) k) x2 x3 x4 (fun a0 => κ a0)) Q) : Tot (fun k κ => (tb (ρ := ρ) k).impl_run_s2 x2 x3 x4 (fun a0 => κ a0)) Q := Tot.step (fun _ _ => rfl) h
theorem st_impl_run_1 {x0 : ByteArray} {x1 : Int} {Q : Int → Prop} (h : Tot (fun k κ => B_impl_run_1 (tb (ρ := ρ) k) x0 x1 (fun a0 => κ a0)) Q) : Tot (fun k κ => (tb (ρ := ρ) k).impl_run_1 x0 x1 (fun a0 => κ a0)) Q := Tot.step (fun _ _ => rfl) h
theorem st_impl_run_1_s2 {x2 : ByteArray} {x3 : Int} {x4 : Int} {Q : Int → Prop} (h : Tot (fun k κ => B_impl_run_1_s2 (tb (ρ := ρ) k) x2 x3 x4 (fun a0 => κ a0)) Q) : Tot (fun k κ => (tb (ρ := ρ) k).impl_run_1_s2 x2 x3 x4 (fun a0 => κ a0)) Q := Tot.step (fun _ _ => rfl) h
theorem st_impl_isDigit {x0 : Int} {Q : Bool → Prop} (h : Tot (fun k κ => B_impl_isDigit (tb (ρ := ρ) k) x0 (fun a0 => κ a0)) Q) : Tot (fun k κ => (tb (ρ := ρ) k).impl_isDigit x0 (fun a0 => κ a0)) Q := Tot.step (fun _ _ => rfl) h
theorem st_impl_DecOk {x0 : Int} {Q : Bool → Prop} (h : Tot (fun k κ => B_impl_DecOk (tb (ρ := ρ) k) x0 (fun a0 => κ a0)) Q) : Tot (fun k κ => (tb (ρ := ρ) k).impl_DecOk x0 (fun a0 => κ a0)) Q := Tot.step (fun _ _ => rfl) h
theorem st_impl_ReadDec {x0 : ByteArray} {Q : (Int × Int) → Prop} (h : Tot (fun k κ => B_impl_ReadDec (tb (ρ := ρ) k) x0 (fun a0 a1 => κ (a0, a1))) Q) : Tot (fun k κ => (tb (ρ := ρ) k).impl_ReadDec x0 (fun a0 a1 => κ (a0, a1))) Q := Tot.step (fun _ _ => rfl) h
theorem st_impl_ReadDec_s6 {x2 : ByteArray} {x3 : Int} {x4 : Bool} {Q : (Int × Int) → Prop} (h : Tot (fun k κ => B_impl_ReadDec_s6 (tb (ρ := ρ) k) x2 x3 x4 (fun a0 a1 => κ (a0, a1))) Q) : Tot (fun k κ => (tb (ρ := ρ) k).impl_ReadDec_s6 x2 x3 x4 (fun a0 a1 => κ (a0, a1))) Q := Tot.step (fun _ _ => rfl) h
theorem st_impl_ReadDec_s15 {x7 : Int} {x8 : Bool} {x9 : ByteArray} {x10 : ByteArray} {Q : (Int × Int) → Prop} (h : Tot (fun k κ => B_impl_ReadDec_s15 (tb (ρ := ρ) k) x7 x8 x9 x10 (fun a0 a1 => κ (a0, a1))) Q) : Tot (fun k κ => (tb (ρ := ρ) k).impl_ReadDec_s15 x7 x8 x9 x10 (fun a0 a1 => κ (a0, a1))) Q := Tot.step (fun _ _ => rfl) h
theorem st_impl_ReadDec_s17 {x11 : Int} {x12 : Bool} {x13 : ByteArray} {x14 : ByteArray} {Q : (Int × Int) → Prop} (h : Tot (fun k κ => B_impl_ReadDec_s17 (tb (ρ := ρ) k) x11 x12 x13 x14 (fun a0 a1 => κ (a0, a1))) Q) : Tot (fun k κ => (tb (ρ := ρ) k).impl_ReadDec_s17 x11 x12 x13 x14 (fun a0 a1 => κ (a0, a1))) Q := Tot.step (fun _ _ => rfl) h
theorem st_impl_ReadDec_s19 {x15 : Int} {x16 : Bool} {x17 : Int} {x18 : List Int} {x19 : Int} {x20 : Int} {Q : (Int × Int) → Prop} (h : Tot (fun k κ => B_impl_ReadDec_s19 (tb (ρ := ρ) k) x15 x16 x17 x18 x19 x20 (fun a0 a1 => κ (a0, a1))) Q) : Tot (fun k κ => (tb (ρ := ρ) k).impl_ReadDec_s19 x15 x16 x17 x18 x19 x20 (fun a0 a1 => κ (a0, a1))) Q := Tot.step (fun _ _ => rfl) h
theorem st_impl_LooksNum {x0 : ByteArray} {Q : Bool → Prop} (h : Tot (fun k κ => B_impl_LooksNum (tb (ρ := ρ) k) x0 (fun a0 => κ a0)) Q) : Tot (fun k κ => (tb (ρ := ρ) k).impl_LooksNum x0 (fun a0 => κ a0)) Q := Tot.step (fun _ _ => rfl) h
theorem st_impl_Cell_str {x0 : Int} {x1 : Int} {x2 : ByteArray} {Q : ByteArray → Prop} (h : Tot (fun k κ => B_impl_Cell_str (tb (ρ := ρ) k) x0 x1 x2 (fun a0 => κ a0)) Q) : Tot (fun k κ => (tb (ρ := ρ) k).impl_Cell_str x0 x1 x2 (fun a0 => κ a0)) Q := Tot.step (fun _ _ => rfl) h
theorem st_impl_DecText {x0 : Int} {Q : ByteArray → Prop} (h : Tot (fun k κ => B_impl_DecText (tb (ρ := ρ) k) x0 (fun a0 => κ a0)) Q) : Tot (fun k κ => (tb (ρ := ρ) k).impl_DecText x0 (fun a0 => κ a0)) Q := Tot.step (fun _ _ => rfl) h
theorem st_impl_DecText_s9 {x8 : ByteArray} {Q : ByteArray → Prop} (h : Tot (fun k κ => B_impl_DecText_s9 (tb (ρ := ρ) k) x8 (fun a0 => κ a0)) Q) : Tot (fun k κ => (tb (ρ := ρ) k).impl_DecText_s9 x8 (fun a0 => κ a0)) Q := Tot.step (fun _ _ => rfl) h
theorem st_impl_DecInt {x0 : Int} {Q : Int → Prop} (h : Tot (fun k κ => B_impl_DecInt (tb (ρ := ρ) k) x0 (fun a0 => κ a0)) Q) : Tot (fun k κ => (tb (ρ := ρ) k).impl_DecInt x0 (fun a0 => κ a0)) Q := Tot.step (fun _ _ => rfl) h
theorem st_impl_Cell_num {x0 : Int} {x1 : Int} {x2 : ByteArray} {Q : Int → Prop} (h : Tot (fun k κ => B_impl_Cell_num (tb (ρ := ρ) k) x0 x1 x2 (fun a0 => κ a0)) Q) : Tot (fun k κ => (tb (ρ := ρ) k).impl_Cell_num x0 x1 x2 (fun a0 => κ a0)) Q := Tot.step (fun _ _ => rfl) h
theorem st_spec_l1of {x0 : Int} {x1 : ByteArray} {x2 : List Int} {x3 : Int} {x4 : Int} {Q : (ByteArray × Int × Int) → Prop} (h : Tot (fun k κ => B_spec_l1of (tb (ρ := ρ) k) x0 x1 x2 x3 x4 (fun a0 a1 a2 => κ (a0, a1, a2))) Q) : Tot (fun k κ => (tb (ρ := ρ) k).spec_l1of x0 x1 x2 x3 x4 (fun a0 a1 a2 => κ (a0, a1, a2))) Q := Tot.step (fun _ _ => rfl) h
theorem st_spec_l1of_s3 {x5 : Int} {x6 : ByteArray} {x7 : Int} {x8 : List Int} {x9 : List Int} {x10 : Int} {x11 : Int} {Q : (ByteArray × Int × Int) → Prop} (h : Tot (fun k κ => B_spec_l1of_s3 (tb (ρ := ρ) k) x5 x6 x7 x8 x9 x10 x11 (fun a0 a1 a2 => κ (a0, a1, a2))) Q) : Tot (fun k κ => (tb (ρ := ρ) k).spec_l1of_s3 x5 x6 x7 x8 x9 x10 x11 (fun a0 a1 a2 => κ (a0, a1, a2))) Q := Tot.step (fun _ _ => rfl) h
theorem st_spec_l1Byte {x0 : List Int} {x1 : Int} {x2 : Int} {Q : (Int × Int × Int) → Prop} (h : Tot (fun k κ => B_spec_l1Byte (tb (ρ := ρ) k) x0 x1 x2 (fun a0 a1 a2 => κ (a0, a1, a2))) Q) : Tot (fun k κ => (tb (ρ := ρ) k).spec_l1Byte x0 x1 x2 (fun a0 a1 a2 => κ (a0, a1, a2))) Q := Tot.step (fun _ _ => rfl) h
theorem st_spec_FieldCell {x0 : ByteArray} {Q : (Int × Int × ByteArray) → Prop} (h : Tot (fun k κ => B_spec_FieldCell (tb (ρ := ρ) k) x0 (fun a0 a1 a2 => κ (a0, a1, a2))) Q) : Tot (fun k κ => (tb (ρ := ρ) k).spec_FieldCell x0 (fun a0 a1 a2 => κ (a0, a1, a2))) Q := Tot.step (fun _ _ => rfl) h
theorem st_spec_l1num {x0 : List Int} {x1 : Int} {x2 : Int} {Q : (Int × Int × Int) → Prop} (h : Tot (fun k κ => B_spec_l1num (tb (ρ := ρ) k) x0 x1 x2 (fun a0 a1 a2 => κ (a0, a1, a2))) Q) : Tot (fun k κ => (tb (ρ := ρ) k).spec_l1num x0 x1 x2 (fun a0 a1 a2 => κ (a0, a1, a2))) Q := Tot.step (fun _ _ => rfl) h
theorem st_spec_l1skip {x0 : ByteArray} {x1 : Int} {Q : Int → Prop} (h : Tot (fun k κ => B_spec_l1skip (tb (ρ := ρ) k) x0 x1 (fun a0 => κ a0)) Q) : Tot (fun k κ => (tb (ρ := ρ) k).spec_l1skip x0 x1 (fun a0 => κ a0)) Q := Tot.step (fun _ _ => rfl) h
theorem st_spec_l1skip_s1 {x2 : ByteArray} {x3 : Int} {Q : Int → Prop} (h : Tot (fun k κ => B_spec_l1skip_s1 (tb (ρ := ρ) k) x2 x3 (fun a0 => κ a0)) Q) : Tot (fun k κ => (tb (ρ := ρ) k).spec_l1skip_s1 x2 x3 (fun a0 => κ a0)) Q := Tot.step (fun _ _ => rfl) h
theorem st_impl_isSpace {x0 : Int} {Q : Bool → Prop} (h : Tot (fun k κ => B_impl_isSpace (tb (ρ := ρ) k) x0 (fun a0 => κ a0)) Q) : Tot (fun k κ => (tb (ρ := ρ) k).impl_isSpace x0 (fun a0 => κ a0)) Q := Tot.step (fun _ _ => rfl) h
theorem st_spec_l1PickInt {x0 : List Int} {x1 : List Int} {x2 : Int} {x3 : Int} {Q : (Int × Int × Int) → Prop} (h : Tot (fun k κ => B_spec_l1PickInt (tb (ρ := ρ) k) x0 x1 x2 x3 (fun a0 a1 a2 => κ (a0, a1, a2))) Q) : Tot (fun k κ => (tb (ρ := ρ) k).spec_l1PickInt x0 x1 x2 x3 (fun a0 a1 a2 => κ (a0, a1, a2))) Q := Tot.step (fun _ _ => rfl) h
theorem st_spec_l1white {x0 : Int} {Q : Bool → Prop} (h : Tot (fun k κ => B_spec_l1white (tb (ρ := ρ) k) x0 (fun a0 => κ a0)) Q) : Tot (fun k κ => (tb (ρ := ρ) k).spec_l1white x0 (fun a0 => κ a0)) Q := Tot.step (fun _ _ => rfl) h
end
end Go.Proofs.YtbakkcdanoopgaaGreatDoor.Ev.Pr
set_option linter.unusedVariables false
namespace Go.Proofs.YtbakkcdanoopgaaGreatDoor.Q
open Go Go.RowKit Go.Proofs.YtbakkcdanoopgaaGreatDoorW.PrintWords Go.Proofs.YtbakkcdanoopgaaGreatDoorW.PrintMore
theorem bt_nat {s : ByteArray} {j : Nat} (h : j < s.size) : bt s (j : Int) = (s[j].toNat : Int) := by
  unfold bt
  rw [dif_pos (by simpa using h)]
  simp
def runN (p : Int → Bool) (s : ByteArray) (i : Nat) : Nat := if i < s.size then (if p (bt s i) then runN p s (i + 1) + 1 else 0) else 0
termination_by s.size - i
theorem runN_le (p : Int → Bool) (s : ByteArray) (i : Nat) : i ≤ s.size → i + runN p s i ≤ s.size := by
  fun_induction runN p s i with
  | case1 i h1 h2 ih => intro h; have := ih (by omega); omega
  | case2 i h1 h2 => intro h; omega
  | case3 i h1 => intro h; omega
def isSp (c : Int) : Bool := c == 32 || (c == 9 || c == 10)
def isDg (c : Int) : Bool := decide (48 ≤ c) && decide (c ≤ 57)
def sgnB (s : ByteArray) (i : Nat) : Bool := decide (i < s.size) && (bt s i == 43 || bt s i == 45)
def atD (s : ByteArray) : Nat := if sgnB s (runN isSp s 0) = true then runN isSp s 0 + 1 else runN isSp s 0
def negB (s : ByteArray) : Bool := if sgnB s (runN isSp s 0) = true then bt s (runN isSp s 0) == 45 else false
def dotB (s : ByteArray) (i : Nat) : Bool := decide (i < s.size) && (bt s i == 46)
def wholeN (s : ByteArray) : Nat := runN isDg s (atD s)
def at2 (s : ByteArray) : Nat := atD s + wholeN s
def moreN (s : ByteArray) : Nat := if dotB s (at2 s) = true then runN isDg s (at2 s + 1) else 0
def tkB (s : ByteArray) : Bool := dotB s (at2 s) && decide (0 < wholeN s + moreN s)
def digS (s : ByteArray) : ByteArray := s.extract (atD s) (at2 s)
def partS (s : ByteArray) : ByteArray := if tkB s = true then s.extract (at2 s + 1) (at2 s + 1 + moreN s) else ⟨#[]⟩
def at3 (s : ByteArray) : Nat := if tkB s = true then at2 s + 1 + moreN s else at2 s
def numStep (n : Int) (c : Int) : Int := mn (n * 10 + (c - 48) % 256) 9000000000001
def allS (s : ByteArray) : ByteArray := digS s ++ (partS s ++ ⟨#[48, 48, 48, 48, 48, 48]⟩).extract 0 6
def numOf (s : ByteArray) : Int := mn ((allS s).data.toList.foldl (fun n c => numStep n (c.toNat : Int)) 0) 9000000000000
def readV (s : ByteArray) : Int × Int := if ((digS s).toList.isEmpty && (partS s).toList.isEmpty) = true then (0, 0) else (if negB s = true then - numOf s else numOf s, (at3 s : Int))
theorem atD_le (s : ByteArray) : atD s ≤ s.size := by
  have h := runN_le isSp s 0 (by omega)
  unfold atD sgnB
  split
  · rename_i h2
    simp at h2; omega
  · omega
theorem runN_hit {p : Int → Bool} {s : ByteArray} {i : Nat} (h : i < s.size) (hp : p (bt s i) = true) : runN p s i = runN p s (i + 1) + 1 := by
  rw [runN, if_pos h, if_pos hp]
theorem runN_miss {p : Int → Bool} {s : ByteArray} {i : Nat} (h : i < s.size) (hp : p (bt s i) = false) : runN p s i = 0 := by
  rw [runN, if_pos h, if_neg (by rw [hp]; simp)]
theorem runN_end {p : Int → Bool} {s : ByteArray} {i : Nat} (h : ¬ i < s.size) : runN p s i = 0 := by
  rw [runN, if_neg h]
end Go.Proofs.YtbakkcdanoopgaaGreatDoor.Q
set_option linter.unusedVariables false
namespace Go.Proofs.YtbakkcdanoopgaaGreatDoor.Pure
open Go Go.RowKit Go.Proofs.YtbakkcdanoopgaaGreatDoor.Q Go.Proofs.YtbakkcdanoopgaaGreatDoorW.PrintWords Go.Proofs.YtbakkcdanoopgaaGreatDoorW.PrintMore
def valFrom (n : Int) (l : List Int) : Int := l.foldl (fun n c => n * 10 + (c - 48) % 256) n
theorem valFrom_nonneg (l : List Int) : ∀ n : Int, 0 ≤ n → 0 ≤ valFrom n l := by
  induction l with
  | nil => intro n h; exact h
  | cons c l ih => intro n h; exact ih _ (show 0 ≤ n * 10 + (c - 48) % 256 by omega)
theorem numFold (l : List Int) : ∀ n : Int, 0 ≤ n → l.foldl numStep (mn n 9000000000001) = mn (valFrom n l) 9000000000001 := by
  induction l with
  | nil => intro n _; rfl
  | cons c l ih =>
    intro n h
    have e : numStep (mn n 9000000000001) c = mn (n * 10 + (c - 48) % 256) 9000000000001 := by
      unfold numStep mn; omega
    show l.foldl numStep (numStep (mn n 9000000000001) c) = _
    rw [e]
    exact ih _ (by omega)
def wholeStep (n : Int) (c : Int) : Int := if n * 10 + (c - 48) % 256 * 1000000 > 9000000000000 then 9000000000001 else n * 10 + (c - 48) % 256 * 1000000
theorem wholeFold (l : List Int) : ∀ n : Int, 0 ≤ n → l.foldl wholeStep (mn (n * 1000000) 9000000000001) = mn (valFrom n l * 1000000) 9000000000001 := by
  induction l with
  | nil => intro n _; rfl
  | cons c l ih =>
    intro n h
    have e : wholeStep (mn (n * 1000000) 9000000000001) c = mn ((n * 10 + (c - 48) % 256) * 1000000) 9000000000001 := by
      unfold wholeStep mn; omega
    show l.foldl wholeStep (wholeStep (mn (n * 1000000) 9000000000001) c) = _
    rw [e]
    exact ih _ (by omega)
def partSum : Int → List Int → Int
  | _, [] => 0
  | u, c :: l => (c - 48) % 256 * u + partSum (u / 10) l
theorem partSum_zero (l : List Int) : partSum 0 l = 0 := by
  induction l with
  | nil => rfl
  | cons c l ih => show (c - 48) % 256 * 0 + partSum (0 / 10) l = 0; rw [show (0 : Int) / 10 = 0 from rfl, ih]; omega
theorem partSum_six (l : List Int) : partSum 100000 l = valFrom 0 ((l ++ [48, 48, 48, 48, 48, 48]).take 6) := by
  match l with
  | [] => decide
  | [a] => simp [partSum, valFrom]; omega
  | [a, b] => simp [partSum, valFrom]; omega
  | [a, b, c] => simp [partSum, valFrom]; omega
  | [a, b, c, d] => simp [partSum, valFrom]; omega
  | [a, b, c, d, e] => simp [partSum, valFrom]; omega
  | a :: b :: c :: d :: e :: f :: l =>
    have z := partSum_zero l
    simp [partSum, valFrom, z]; omega
theorem valFrom_append (n : Int) (l m : List Int) : valFrom n (l ++ m) = valFrom (valFrom n l) m := List.foldl_append ..
theorem valFrom_shift (m : List Int) : ∀ n : Int, valFrom n m = n * 10 ^ m.length + valFrom 0 m := by
  induction m with
  | nil => intro n; simp [valFrom]
  | cons c m ih =>
    intro n
    show valFrom (n * 10 + (c - 48) % 256) m = n * 10 ^ (m.length + 1) + valFrom (0 * 10 + (c - 48) % 256) m
    rw [ih, ih (0 * 10 + (c - 48) % 256)]
    rw [show (10 : Int) ^ (m.length + 1) = 10 ^ m.length * 10 from Int.pow_succ ..]
    grind
theorem both_ways (w p : List Int) : mn (mn (valFrom 0 w * 1000000) 9000000000001 + partSum 100000 p) 9000000000000 = mn (mn (valFrom 0 (w ++ (p ++ [48, 48, 48, 48, 48, 48]).take 6)) 9000000000001) 9000000000000 := by
  have hl : ((p ++ [48, 48, 48, 48, 48, 48]).take 6).length = 6 := by simp
  have e1 := valFrom_shift (List.take 6 (p ++ [48, 48, 48, 48, 48, 48])) (valFrom 0 w)
  rw [valFrom_append, e1, hl, ← partSum_six]
  have h0 : 0 ≤ partSum 100000 p := by rw [partSum_six]; exact valFrom_nonneg _ 0 (by omega)
  have e6 : (10 : Int) ^ 6 = 1000000 := by decide
  rw [e6]
  generalize valFrom 0 w * 1000000 = x
  unfold mn; omega
def seg (s : ByteArray) (i : Nat) : Nat → List Int
  | 0 => []
  | m + 1 => bt s (i : Int) :: seg s (i + 1) m
theorem seg_length (s : ByteArray) (m : Nat) : ∀ i, (seg s i m).length = m := by
  induction m with
  | zero => intro i; rfl
  | succ m ih => intro i; simp [seg, ih]
theorem seg_snoc (s : ByteArray) (m : Nat) : ∀ i, seg s i (m + 1) = seg s i m ++ [bt s ((i + m : Nat) : Int)] := by
  induction m with
  | zero => intro i; rfl
  | succ m ih =>
    intro i
    rw [seg, ih (i + 1)]
    show _ = (bt s (i : Int) :: seg s (i + 1) m) ++ _
    rw [List.cons_append, show i + 1 + m = i + (m + 1) by omega]
theorem bytes_extract (s : ByteArray) (i m : Nat) (h : i + m ≤ s.size) : (s.extract i (i + m)).data.toList.map (fun b => (b.toNat : Int)) = seg s i m := by
  apply List.ext_getElem
  · rw [seg_length, List.length_map, Array.length_toList]
    have : (s.extract i (i + m)).size = m := by rw [ByteArray.size_extract]; omega
    exact this
  · intro j h1 h2
    rw [seg_length] at h2
    have e : ∀ (m i j : Nat) (h : j < (seg s i m).length), (seg s i m)[j] = bt s ((i + j : Nat) : Int) := by
      intro m
      induction m with
      | zero => intro i j h; simp [seg] at h
      | succ m ih =>
        intro i j h
        cases j with
        | zero => simp [seg]
        | succ j =>
          have h' : j < (seg s (i + 1) m).length := by simpa [seg] using h
          simp only [seg, List.getElem_cons_succ]
          rw [ih (i + 1) j h']
          congr 2; omega
    rw [e m i j (by rw [seg_length]; exact h2), bt_nat (by omega)]
    simp [ByteArray.data_extract]
    rfl
theorem digB (c : Int) (h : isDg c = true) : 48 ≤ c ∧ c ≤ 57 := by
  unfold isDg at h
  simpa using h
theorem mn_range {x : Int} (h : 0 ≤ x) : 0 ≤ mn x 9000000000001 ∧ mn x 9000000000001 ≤ 9000000000001 := by unfold mn; omega
theorem wholeStep_range (n c : Int) (h0 : 0 ≤ n) : 0 ≤ wholeStep n c ∧ wholeStep n c ≤ 9000000000001 := by unfold wholeStep; split <;> omega
theorem bytesOf_append (a b : ByteArray) : bytesOf (a ++ b) = bytesOf a ++ bytesOf b := by
  unfold bytesOf
  rw [ByteArray.data_append, Array.toList_append, List.map_append]
theorem bytesOf_extract (a : ByteArray) (i j : Nat) : bytesOf (a.extract i j) = ((bytesOf a).drop i).take (j - i) := by
  unfold bytesOf
  rw [ByteArray.data_extract, Array.toList_extract]
  simp [List.map_take, List.map_drop]
theorem bytesOf_zeros : bytesOf ⟨#[48, 48, 48, 48, 48, 48]⟩ = [48, 48, 48, 48, 48, 48] := by decide
theorem bytes_seg (s : ByteArray) (i m : Nat) (h : i + m ≤ s.size) : bytesOf (s.extract i (i + m)) = seg s i m := bytes_extract s i m h
theorem at2_le (s : ByteArray) : at2 s ≤ s.size := by
  unfold at2 wholeN
  exact runN_le isDg s (atD s) (atD_le s)
theorem more_le (s : ByteArray) (h : tkB s = true) : at2 s + 1 + moreN s ≤ s.size := by
  unfold tkB at h
  rw [Bool.and_eq_true] at h
  have h1 := h.1
  unfold dotB at h1
  rw [Bool.and_eq_true, decide_eq_true_eq] at h1
  unfold moreN
  rw [if_pos h.1]
  exact runN_le isDg s (at2 s + 1) (by omega)
theorem dig_bytes (s : ByteArray) : bytesOf (digS s) = seg s (atD s) (wholeN s) := by
  unfold digS
  have := at2_le s
  exact bytes_seg s (atD s) (wholeN s) this
def partL (s : ByteArray) : List Int := if tkB s = true then seg s (at2 s + 1) (moreN s) else []
theorem part_bytes (s : ByteArray) : bytesOf (partS s) = partL s := by
  unfold partS partL
  by_cases h : tkB s = true
  · rw [if_pos h, if_pos h]
    exact bytes_seg s (at2 s + 1) (moreN s) (more_le s h)
  · rw [if_neg h, if_neg h]; rfl
theorem all_bytes (s : ByteArray) : bytesOf (allS s) = seg s (atD s) (wholeN s) ++ (partL s ++ [48, 48, 48, 48, 48, 48]).take 6 := by
  unfold allS
  rw [bytesOf_append, bytesOf_extract, bytesOf_append, dig_bytes, part_bytes, bytesOf_zeros]
  rfl
theorem foldl_bytes (s : ByteArray) : s.data.toList.foldl (fun n c => numStep n (c.toNat : Int)) 0 = (bytesOf s).foldl numStep 0 := by
  unfold bytesOf
  rw [List.foldl_map]
theorem mn_start : mn 0 9000000000001 = 0 := by decide
theorem mn_start2 : mn (0 * 1000000) 9000000000001 = 0 := by decide
theorem whole_val (l : List Int) : l.foldl wholeStep 0 = mn (valFrom 0 l * 1000000) 9000000000001 := by
  have := wholeFold l 0 (by omega)
  rw [mn_start2] at this
  exact this
theorem numOf_eq (s : ByteArray) : numOf s = mn ((seg s (atD s) (wholeN s)).foldl wholeStep 0 + partSum 100000 (partL s)) 9000000000000 := by
  unfold numOf
  rw [foldl_bytes, all_bytes, whole_val]
  have h := numFold (seg s (atD s) (wholeN s) ++ (partL s ++ [48, 48, 48, 48, 48, 48]).take 6) 0 (by omega)
  rw [mn_start] at h
  rw [h]
  exact (both_ways _ _).symm
theorem seg_digits (s : ByteArray) (m : Nat) : ∀ i, m ≤ Q.runN isDg s i → ∀ c ∈ seg s i m, 48 ≤ c ∧ c ≤ 57 := by
  induction m with
  | zero => intro i _ c hc; simp [seg] at hc
  | succ m ih =>
    intro i hm c hc
    rw [Q.runN] at hm
    by_cases h1 : i < s.size
    · rw [if_pos h1] at hm
      by_cases h2 : isDg (bt s i) = true
      · rw [if_pos h2] at hm
        simp only [seg, List.mem_cons] at hc
        rcases hc with rfl | hc
        · exact digB _ h2
        · exact ih (i + 1) (by omega) c hc
      · rw [if_neg h2] at hm; omega
    · rw [if_neg h1] at hm; omega
theorem isEmpty_size (s : ByteArray) : s.toList.isEmpty = decide (s.size = 0) := by
  have h : s.toList.length = s.size := by simp [ByteArray.toList_eq, Array.length_toList]
  cases hl : s.toList with
  | nil => rw [hl] at h; simp at h; simp [← h]
  | cons a l => rw [hl] at h; simp at h; simp [← h]
theorem digS_size (s : ByteArray) : (digS s).size = wholeN s := by
  have h := congrArg List.length (dig_bytes s)
  rw [bytesOf_length, seg_length] at h
  exact h
theorem partS_size (s : ByteArray) : (partS s).size = if tkB s = true then moreN s else 0 := by
  have h := congrArg List.length (part_bytes s)
  rw [bytesOf_length] at h
  rw [h]
  unfold partL
  split
  · exact seg_length s _ _
  · rfl
theorem readV_eq (s : ByteArray) : readV s = if wholeN s + (if tkB s = true then moreN s else 0) = 0 then (0, 0) else (if negB s = true then - numOf s else numOf s, (at3 s : Int)) := by
  unfold readV
  rw [isEmpty_size, isEmpty_size, digS_size, partS_size]
  by_cases h : wholeN s + (if tkB s = true then moreN s else 0) = 0
  · rw [if_pos h, if_pos]
    simp only [Bool.and_eq_true, decide_eq_true_eq]
    omega
  · rw [if_neg h, if_neg]
    simp only [Bool.and_eq_true, decide_eq_true_eq]
    omega
theorem runN_pos (p : Int → Bool) (s : ByteArray) (i : Nat) : 0 < Q.runN p s i ↔ i < s.size ∧ p (bt s i) = true := by
  rw [Q.runN]
  by_cases h1 : i < s.size
  · rw [if_pos h1]
    by_cases h2 : p (bt s i) = true
    · rw [if_pos h2]; exact ⟨fun _ => ⟨h1, h2⟩, fun _ => by omega⟩
    · rw [if_neg h2]; exact ⟨fun h => by omega, fun h => absurd h.2 h2⟩
  · rw [if_neg h1]; exact ⟨fun h => by omega, fun h => absurd h.1 h1⟩
theorem tk_true (s : ByteArray) (h1 : at2 s < s.size) (h2 : bt s (at2 s) = 46) : tkB s = decide (0 < wholeN s + Q.runN isDg s (at2 s + 1)) := by
  have hd : dotB s (at2 s) = true := by simp [dotB, h1, h2]
  unfold tkB moreN
  rw [if_pos hd, hd, Bool.true_and]
theorem tk_false (s : ByteArray) (h : ¬ (at2 s < s.size ∧ bt s (at2 s) = 46)) : tkB s = false := by
  have hd : dotB s (at2 s) = false := by
    unfold dotB
    by_cases h1 : at2 s < s.size
    · by_cases h2 : bt s (at2 s) = 46
      · exact absurd ⟨h1, h2⟩ h
      · simp [h2]
    · simp [h1]
  unfold tkB
  rw [hd, Bool.false_and]
theorem at3_le (s : ByteArray) : at3 s ≤ s.size := by
  unfold at3
  split
  · rename_i h; exact more_le s h
  · exact at2_le s
theorem readV_at (s : ByteArray) : ∃ n : Nat, (readV s).2 = (n : Int) ∧ n ≤ s.size := by
  rw [readV_eq]
  by_cases c : wholeN s + (if tkB s = true then moreN s else 0) = 0
  · rw [if_pos c]; exact ⟨0, rfl, by omega⟩
  · rw [if_neg c]; exact ⟨at3 s, rfl, at3_le s⟩
def looksV (s : ByteArray) : Bool := decide (0 < (readV s).2) && decide ((readV s).2.toNat + Q.runN isSp s (readV s).2.toNat = s.size)
end Go.Proofs.YtbakkcdanoopgaaGreatDoor.Pure
set_option linter.unusedVariables false
namespace Go.Proofs.YtbakkcdanoopgaaGreatDoor.Ev.Pr
open Go Go.RowKit Go.Proofs.YtbakkcdanoopgaaGreatDoorW.PrintWords Go.Proofs.YtbakkcdanoopgaaGreatDoorW.PrintMore Kd Go.Proofs.YtbakkcdanoopgaaGreatDoor.Ev Go.Proofs.YtbakkcdanoopgaaGreatDoor.Pure Go.Proofs.YtbakkcdanoopgaaGreatDoor.Q
section
variable {ρ : Type} {s : ByteArray}
theorem isDigit_tot (c : Int) : Tot (fun k κ => (tb (ρ := ρ) k).impl_isDigit c (fun a => κ a)) fun r => r = isDg c := by
  refine st_impl_isDigit ?_
  unfold B_impl_isDigit isDg
  exact Tot.bif (fun h => Tot.ret _ (fun _ _ => rfl) (by rw [show decide (48 ≤ c) = true from h, Bool.true_and])) (fun h => Tot.ret _ (fun _ _ => rfl) (by rw [show decide (48 ≤ c) = false from h, Bool.false_and]))
theorem l1digit_tot (c : Int) : Tot (fun k κ => (tb (ρ := ρ) k).spec_l1digit c (fun a => κ a)) fun r => r = isDg c := by
  refine st_spec_l1digit ?_
  unfold B_spec_l1digit isDg
  exact Tot.bif (fun h => Tot.ret _ (fun _ _ => rfl) (by rw [show decide (48 ≤ c) = true from h, Bool.true_and])) (fun h => Tot.ret _ (fun _ _ => rfl) (by rw [show decide (48 ≤ c) = false from h, Bool.false_and]))
theorem isSpace_tot (c : Int) : Tot (fun k κ => (tb (ρ := ρ) k).impl_isSpace c (fun a => κ a)) fun r => r = isSp c := by
  refine st_impl_isSpace ?_
  unfold B_impl_isSpace isSp
  exact Tot.bif (fun h => Tot.ret _ (fun _ _ => rfl) (by rw [h]; rfl)) (fun h => Tot.bif (fun h2 => Tot.ret _ (fun _ _ => rfl) (by rw [h, h2]; rfl)) (fun h2 => Tot.ret _ (fun _ _ => rfl) (by rw [h, h2]; rfl)))
theorem l1white_tot (c : Int) : Tot (fun k κ => (tb (ρ := ρ) k).spec_l1white c (fun a => κ a)) fun r => r = isSp c := by
  refine st_spec_l1white ?_
  unfold B_spec_l1white isSp
  exact Tot.bif (fun h => Tot.ret _ (fun _ _ => rfl) (by rw [h]; rfl)) (fun h => Tot.bif (fun h2 => Tot.ret _ (fun _ _ => rfl) (by rw [h, h2]; rfl)) (fun h2 => Tot.ret _ (fun _ _ => rfl) (by rw [h, h2]; rfl)))
theorem run_s2_tot (hs : s.size ≤ 140737488355328) (a : Nat) : ∀ (d n : Nat), a + n + d = s.size → Tot (fun k κ => (tb (ρ := ρ) k).impl_run_s2 s (a : Int) (n : Int) (fun r => κ r)) fun r => r = ((n + Q.runN isDg s (a + n) : Nat) : Int)
  | d, n, hd => by
    refine st_impl_run_s2 ?_
    unfold B_impl_run_s2
    have e1 : w ((a : Int) + (n : Int)) = ((a + n : Nat) : Int) := by rw [w_in (by omega)]; omega
    rw [e1]
    refine Tot.bif (fun h => ?_) (fun h => ?_)
    · have h := of_decide_eq_true h
      have hlt : a + n < s.size := by omega
      refine Tot.iteT (by omega) (Tot.iteT h (Tot.bind1 (isDigit_tot _) fun b hb => ?_))
      have hb : b = _ := hb
      refine Tot.bif (fun h1 => ?_) (fun h1 => ?_)
      · rw [hb] at h1
        cases d with
        | zero => omega
        | succ d =>
          rw [show w ((n : Int) + 1) = ((n + 1 : Nat) : Int) by rw [w_in (by omega)]; omega]
          refine (run_s2_tot hs a d (n + 1) (by omega)).imp fun r hr => ?_
          rw [hr, runN_hit hlt h1]
          congr 1
          rw [show a + (n + 1) = a + n + 1 by omega]
          omega
      · rw [hb] at h1
        exact Tot.ret _ (fun _ _ => rfl) (by rw [runN_miss hlt h1]; omega)
    · have h := of_decide_eq_false h
      exact Tot.ret _ (fun _ _ => rfl) (by rw [runN_end (by omega)]; omega)
theorem run_tot (hs : s.size ≤ 140737488355328) {a : Nat} (ha : a ≤ s.size) : Tot (fun k κ => (tb (ρ := ρ) k).impl_run s (a : Int) (fun r => κ r)) fun r => r = ((Q.runN isDg s a : Nat) : Int) := by
  refine st_impl_run ?_
  unfold B_impl_run
  exact (run_s2_tot hs a (s.size - a) 0 (by omega)).imp fun r hr => by rw [hr]; simp
theorem run1_s2_tot (hs : s.size ≤ 140737488355328) (a : Nat) : ∀ (d n : Nat), a + n + d = s.size → Tot (fun k κ => (tb (ρ := ρ) k).impl_run_1_s2 s (a : Int) (n : Int) (fun r => κ r)) fun r => r = ((n + Q.runN isSp s (a + n) : Nat) : Int)
  | d, n, hd => by
    refine st_impl_run_1_s2 ?_
    unfold B_impl_run_1_s2
    have e1 : w ((a : Int) + (n : Int)) = ((a + n : Nat) : Int) := by rw [w_in (by omega)]; omega
    rw [e1]
    refine Tot.bif (fun h => ?_) (fun h => ?_)
    · have h := of_decide_eq_true h
      have hlt : a + n < s.size := by omega
      refine Tot.iteT (by omega) (Tot.iteT h (Tot.bind1 (isSpace_tot _) fun b hb => ?_))
      have hb : b = _ := hb
      refine Tot.bif (fun h1 => ?_) (fun h1 => ?_)
      · rw [hb] at h1
        cases d with
        | zero => omega
        | succ d =>
          rw [show w ((n : Int) + 1) = ((n + 1 : Nat) : Int) by rw [w_in (by omega)]; omega]
          refine (run1_s2_tot hs a d (n + 1) (by omega)).imp fun r hr => ?_
          rw [hr, runN_hit hlt h1]
          congr 1
          rw [show a + (n + 1) = a + n + 1 by omega]
          omega
      · rw [hb] at h1
        exact Tot.ret _ (fun _ _ => rfl) (by rw [runN_miss hlt h1]; omega)
    · have h := of_decide_eq_false h
      exact Tot.ret _ (fun _ _ => rfl) (by rw [runN_end (by omega)]; omega)
theorem run1_tot (hs : s.size ≤ 140737488355328) {a : Nat} (ha : a ≤ s.size) : Tot (fun k κ => (tb (ρ := ρ) k).impl_run_1 s (a : Int) (fun r => κ r)) fun r => r = ((Q.runN isSp s a : Nat) : Int) := by
  refine st_impl_run_1 ?_
  unfold B_impl_run_1
  exact (run1_s2_tot hs a (s.size - a) 0 (by omega)).imp fun r hr => by rw [hr]; simp
theorem skip_s1_tot (hs : s.size ≤ 140737488355328) : ∀ (d a : Nat), a + d = s.size → Tot (fun k κ => (tb (ρ := ρ) k).spec_l1skip_s1 s (a : Int) (fun r => κ r)) fun r => r = ((a + Q.runN isSp s a : Nat) : Int)
  | d, a, hd => by
    refine st_spec_l1skip_s1 ?_
    unfold B_spec_l1skip_s1
    refine Tot.bif (fun h => ?_) (fun h => ?_)
    · have h := of_decide_eq_true h
      have hlt : a < s.size := by omega
      refine Tot.iteT (by omega) (Tot.iteT h (Tot.bind1 (l1white_tot _) fun b hb => ?_))
      have hb : b = _ := hb
      refine Tot.bif (fun h1 => ?_) (fun h1 => ?_)
      · rw [hb] at h1
        cases d with
        | zero => omega
        | succ d =>
          rw [show w ((a : Int) + 1) = ((a + 1 : Nat) : Int) by rw [w_in (by omega)]; omega]
          refine (skip_s1_tot hs d (a + 1) (by omega)).imp fun r hr => ?_
          rw [hr, runN_hit hlt h1]
          omega
      · rw [hb] at h1
        exact Tot.ret _ (fun _ _ => rfl) (by rw [runN_miss hlt h1]; omega)
    · have h := of_decide_eq_false h
      exact Tot.ret _ (fun _ _ => rfl) (by rw [runN_end (by omega)]; omega)
theorem skip_tot (hs : s.size ≤ 140737488355328) {a : Nat} (ha : a ≤ s.size) : Tot (fun k κ => (tb (ρ := ρ) k).spec_l1skip s (a : Int) (fun r => κ r)) fun r => r = ((a + Q.runN isSp s a : Nat) : Int) := by
  refine st_spec_l1skip ?_
  unfold B_spec_l1skip
  exact skip_s1_tot hs (s.size - a) a (by omega)
theorem take_foldl_snoc {l : List Int} {f : Int → Int → Int} {n : Int} {i : Nat} (h : i < l.length) : (l.take (i + 1)).foldl f n = f ((l.take i).foldl f n) l[i] := by
  rw [List.take_add_one, List.getElem?_eq_getElem h, List.foldl_append]; rfl
theorem elI_get {k : IntKind} {l : List Int} {i : Nat} (h : i < l.length) : elI k l (i : Int) = l[i] := by
  show l.getD (i : Int).toNat _ = _
  rw [Int.toNat_natCast, List.getD_eq_getElem?_getD, List.getElem?_eq_getElem h]; rfl
theorem u8w (n : Int) : IntKind.wrap .u8 n = n % 256 := by simp [IntKind.wrap, IntKind.signed, IntKind.bits]
theorem fold_range (l : List Int) : ∀ n : Int, 0 ≤ n ∧ n ≤ 9000000000001 → 0 ≤ l.foldl numStep n ∧ l.foldl numStep n ≤ 9000000000001 := by
  induction l with
  | nil => exact fun n h => h
  | cons c l ih => exact fun n h => ih _ (by unfold numStep mn; omega)
theorem s19_tot {at_ : Int} {neg : Bool} {l : List Int} (hl : l.length ≤ 140737488355350) : ∀ (d i : Nat), i + d = l.length → Tot (fun k κ => (tb (ρ := ρ) k).impl_ReadDec_s19 at_ neg ((l.take i).foldl numStep 0) l (l.length : Int) (i : Int) (fun a b => κ (a, b))) fun r => r = (if neg = true then - mn (l.foldl numStep 0) 9000000000000 else mn (l.foldl numStep 0) 9000000000000, at_)
  | d, i, hd => by
    refine st_impl_ReadDec_s19 ?_
    unfold B_impl_ReadDec_s19
    have hr := fold_range (l.take i) 0 (by decide)
    refine Tot.bif (fun h => ?_) (fun h => ?_)
    · have h := of_decide_eq_true h
      have hlt : i < l.length := by omega
      refine Tot.iteT (by omega) (Tot.iteT h ?_)
      cases d with
      | zero => omega
      | succ d =>
        rw [elI_get hlt, u8w, show w ((i : Int) + 1) = ((i + 1 : Nat) : Int) by rw [w_in (by omega)]; omega, w_in (n := (l.take i).foldl numStep 0 * 10) (by omega), w_in (n := (l[i] - 48) % 256) (by omega), w_in (n := (l.take i).foldl numStep 0 * 10 + (l[i] - 48) % 256) (by omega)]
        have e : mn ((l.take i).foldl numStep 0 * 10 + (l[i] - 48) % 256) 9000000000001 = (l.take (i + 1)).foldl numStep 0 := (take_foldl_snoc (f := numStep) (n := 0) hlt).symm
        rw [e]
        exact s19_tot hl d (i + 1) (by omega)
    · have h := of_decide_eq_false h
      rw [List.take_of_length_le (by omega)] at hr ⊢
      have hm : 0 ≤ mn (l.foldl numStep 0) 9000000000000 ∧ mn (l.foldl numStep 0) 9000000000000 ≤ 9000000000000 := by unfold mn; omega
      refine Tot.bif (fun h1 => ?_) (fun h1 => ?_)
      · refine Tot.ret _ (fun _ _ => rfl) ?_
        rw [w_in (by omega), h1, if_pos rfl, Int.zero_sub]
      · refine Tot.ret _ (fun _ _ => rfl) ?_
        rw [h1, if_neg (by simp)]
theorem size_bytes (x : ByteArray) : (bytesOf x).length = x.size := bytesOf_length x
theorem listEmpty (x : ByteArray) : (x.toList == (bs []).toList) = decide (x.size = 0) := by
  have h1 : (bs []).toList = [] := List.eq_nil_of_length_eq_zero (by rw [ByteArray.toList_eq, Array.length_toList]; rfl)
  rw [h1]
  have h := isEmpty_size x
  cases hx : x.toList with
  | nil => rw [hx] at h; rw [← h]; rfl
  | cons a l => rw [hx] at h; rw [← h]; rfl
def outV (at_ : Int) (neg : Bool) (d p : ByteArray) : Int × Int := if d.size = 0 ∧ p.size = 0 then (0, 0) else (if neg = true then - mn ((bytesOf (d ++ (p ++ ⟨#[48, 48, 48, 48, 48, 48]⟩).extract 0 6)).foldl numStep 0) 9000000000000 else mn ((bytesOf (d ++ (p ++ ⟨#[48, 48, 48, 48, 48, 48]⟩).extract 0 6)).foldl numStep 0) 9000000000000, at_)
theorem s17_tot {at_ : Int} {neg : Bool} {d p : ByteArray} (hd : d.size ≤ 140737488355328) (hp : p.size ≤ 140737488355328) (hne : ¬ (d.size = 0 ∧ p.size = 0)) : Tot (fun k κ => (tb (ρ := ρ) k).impl_ReadDec_s17 at_ neg d p (fun a b => κ (a, b))) fun r => r = outV at_ neg d p := by
  refine st_impl_ReadDec_s17 ?_
  unfold B_impl_ReadDec_s17
  have e6 : (p ++ bs [48, 48, 48, 48, 48, 48]).size = p.size + 6 := by rw [ByteArray.size_append]; rfl
  have e7 : ((p ++ bs [48, 48, 48, 48, 48, 48]).extract 0 6).size = 6 := by rw [ByteArray.size_extract, e6]; omega
  have e8 : (d ++ (p ++ bs [48, 48, 48, 48, 48, 48]).extract 0 6).size = d.size + 6 := by rw [ByteArray.size_append, e7]
  refine Tot.iteT (by omega) (Tot.iteT (by rw [e6]; omega) (Tot.iteT (by rw [e7]; omega) (Tot.iteT (by rw [e8]; omega) ?_)))
  refine (s19_tot (by rw [size_bytes, e8]; omega) _ 0 (Nat.zero_add _)).imp fun r hr => ?_
  unfold outV
  rw [if_neg hne]
  exact hr
theorem s15_tot {at_ : Int} {neg : Bool} {d p : ByteArray} (hd : d.size ≤ 140737488355328) (hp : p.size ≤ 140737488355328) : Tot (fun k κ => (tb (ρ := ρ) k).impl_ReadDec_s15 at_ neg d p (fun a b => κ (a, b))) fun r => r = outV at_ neg d p := by
  refine st_impl_ReadDec_s15 ?_
  unfold B_impl_ReadDec_s15
  rw [listEmpty, listEmpty]
  refine Tot.bif (fun h => Tot.bif (fun h2 => ?_) (fun h2 => ?_)) (fun h => ?_)
  · have h := of_decide_eq_true h
    have h2 := of_decide_eq_true h2
    exact Tot.ret _ (fun _ _ => rfl) (by unfold outV; rw [if_pos ⟨h, h2⟩])
  · have h2 := of_decide_eq_false h2
    exact s17_tot hd hp (fun h => h2 h.2)
  · have h := of_decide_eq_false h
    exact s17_tot hd hp (fun h2 => h h2.1)
theorem outV_eq (s : ByteArray) : outV (at3 s : Int) (negB s) (digS s) (partS s) = readV s := by
  unfold outV readV
  rw [isEmpty_size, isEmpty_size]
  by_cases h : (digS s).size = 0 ∧ (partS s).size = 0
  · rw [if_pos h, if_pos (by rw [decide_eq_true h.1, decide_eq_true h.2]; rfl)]
  · have hc : ¬ (decide ((digS s).size = 0) && decide ((partS s).size = 0)) = true := fun h2 => by
      rw [Bool.and_eq_true] at h2
      exact h ⟨of_decide_eq_true h2.1, of_decide_eq_true h2.2⟩
    have e : numOf s = mn ((bytesOf (digS s ++ (partS s ++ ⟨#[48, 48, 48, 48, 48, 48]⟩).extract 0 6)).foldl numStep 0) 9000000000000 := by
      unfold numOf
      rw [foldl_bytes]
      rfl
    rw [if_neg h, if_neg hc, e]
end
end Go.Proofs.YtbakkcdanoopgaaGreatDoor.Ev.Pr
