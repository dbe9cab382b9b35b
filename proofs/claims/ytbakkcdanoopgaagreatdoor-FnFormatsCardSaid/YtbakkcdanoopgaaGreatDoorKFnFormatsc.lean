/- What the row of FnFormats rests on, and the row: for every input that can be read the call returns true and the input reads as it did; condition: what the row lists of the library reads as the program lays it. -/
import Derived.Test.YtbakkcdanoopgaaGreatDoorKFnFormatsb
import Derived.Test.YtbakkcdanoopgaaGreatDoorRows
set_option linter.unusedVariables false
set_option linter.unusedSimpArgs false
set_option linter.unusedSectionVars false
set_option linter.unusedVariables false
set_option linter.unusedSimpArgs false
namespace Go.Proofs.YtbakkcdanoopgaaGreatDoor.Ev
open Go Go.RowKit Go.Proofs.YtbakkcdanoopgaaGreatDoorW.PrintWords Go.Proofs.YtbakkcdanoopgaaGreatDoorW.PrintMore Kd
section
variable {P : Program} {o : Oper} {E E' : Env} {s s' : St} {act : Act} {W W' : World} {ρ : Type} {C : Ctx} {r : ρ}
theorem append_core (hT : TabOK P C.D) {E0 : Env} {s0 : St} {Pp : Nat → Bool → Prop} (hR : Rep E s act W) (hP : Pass Pp E0 E) {t e : Nat} {a x : Operand} {d : Nat} {ty : Ty} {xs ys : List ty.den} {A : Option Addr} {m c : Nat} {okp : Nat → Prop} (ho : o.op = .call { callee := .builtin .append, args := #[a, x], argTypes := #[t, t] })
    (he : C.elem t = some e) (hty : C.ty e = some ty) (hd : d < 500000) (hj : s.toks d = .junk) (hx : act.eval x = .slice A m c) (hC : ReadsRow (ty.kd.M W 0 okp) ty.kd.sz W A m ys) (hokp : ∀ k, okp k → Hand 0 (E.own k))
    (hv : ty.kd.R e W 0 (fun k => E.own k = .hand 1 true) (act.eval a) xs) (hl : (xs.length + ys.length) * C.bytes e ≤ 140737488355328) :
    SimA P o E0 s0 act W (.rt (.tok d)) { s with toks := tokSet s.toks d (.own e ty (xs ++ ys)) } := by
  obtain ⟨z, hinfo, hz, hzl, hb0, hsz⟩ := info_of W hT hty
  have hym : ys.length = m := hC.1
  intro K Q h
  have hgone : ∀ k, (act.eval a).ownBlock = some k → E.own k = .hand 1 true := hv.1
  have step := R_append_rows_step (P := P) (ops := #[]) (o := { o with guard := none }) (a := act) (Q := Q) (Kc := K) ty.kd (w0 := W) 0 (by simp [Region.wanted]) a x t e z (C.bytes e) ho (elem_some hT he) hinfo hz (by rw [kd_sz]; exact size_pos ty) hb0
    (act.eval a) xs ys A m c (fun k => E.own k = .hand 1 true ∨ Hand 0 (E.own k) ∨ W.heap.size ≤ k) okp rfl hx (R_mono hv fun k hk => .inl hk) hC (fun _ _ hh => hh)
    (fun k hk => ⟨.inr (.inl (hokp k hk)), fun hh => by
      obtain ⟨b, hb⟩ := hokp k hk
      rw [hgone k hh.symm] at hb
      cases hb⟩) (fun k hk => .inr (.inr hk)) (Below.refl 0 W) (Nat.zero_le _) (by rw [← hym]; exact hl) (fun v1 w1 hR1 _ hg _ => ?_)
  · have hw : Region.wanted { o with guard := none } (yielded (#[] : Array Oper) act.tmps) = true := by simp [Region.wanted]
    rw [if_pos hw] at step
    exact step
  · have hO := toRoot_only (.tok d)
    have hO2 : ∀ x, (∀ p b, x ≠ .hand p b) → toRoot (.tok d) x = x := hO
    have hsame : ∀ k, k < W.heap.size → (¬ ∃ p b, E.own k = .hand p b) → w1.heap[k]? = W.heap[k]? := fun k hk hn => hg.block k hk fun hh => hn ⟨1, true, hgone k hh.symm⟩
    have hm : Move (fun x => ∃ p b, x = .hand p b) E W ((E.ren (toRoot (.tok d))).newTok W.heap.size w1.heap.size d v1) w1 :=
      ⟨fun k hk hn => ⟨(if_neg (by omega)).trans (hO2 _ fun p b h => hn ⟨p, b, h⟩), hsame k hk hn⟩, ⟨[], by simp [Env.newTok, Env.ren]⟩, rfl⟩
    have hrv : ((E.ren (toRoot (.tok d))).newTok W.heap.size w1.heap.size d v1).rv d = v1 := if_pos rfl
    obtain ⟨h1, h2⟩ := fresh_rep hR (a := .own e ty (xs ++ ys)) hj (by simp) hm (by simp) (fun q ⟨p, b, h⟩ => hand_ne p b q h.symm) (by simp) (fun n hn => if_neg hn) rfl (by
      show ty.kd.R e w1 0 (fun k => (if W.heap.size ≤ k ∧ k < w1.heap.size then Owner.tok d else toRoot (.tok d) (E.own k)) = .tok d) _ _
      rw [hrv]
      refine R_mono (R_bound hR1) fun k hk => ?_
      by_cases hlt : W.heap.size ≤ k
      · exact if_pos ⟨hlt, hk.2.2.1⟩
      · rw [if_neg (fun hh => hlt hh.1)]
        rcases hk.1 with hh | ⟨b, hh⟩ | hh
        · rw [hh]; rfl
        · rw [hh]; rfl
        · exact absurd hh hlt) (fun k hk => (if_neg (by omega)).trans (by
          show toRoot (.tok d) (E.own k) = _
          rw [hR.new k (Nat.le_trans hg.size hk)]
          rfl))
    rw [hrv] at h2
    refine h _ _ _ h1 h2 ?_ fun k j hk hkj => hsame k hk fun ⟨p, b, hh⟩ => ?_
    case refine_2 =>
      have h3 := hP.keep (o := .box j) hkj fun q => owner_ne_box q j
      rw [h3] at hh
      cases hh
    refine ⟨hg.os, hg.tape, hg.output, hg.size, fun k hk hfr => ?_, ⟨[], by show E.adr = _; rw [hP.adr, List.append_nil]⟩, fun n hn => ?_, hP.kv⟩
    · have h3 := hP.keep (o := E0.own k) rfl (still_ne hfr)
      refine ⟨(if_neg (by omega)).trans ?_, hsame k hk fun ⟨p, b, hh⟩ => ?_⟩
      · show toRoot (.tok d) (E.own k) = _
        rw [h3]
        exact hO2 _ (still_hand hfr)
      · rw [h3] at hh; exact still_hand hfr p b hh
    · show (if n = d then v1 else E.rv n) = _
      rw [if_neg (by omega), hP.rv]
theorem sim_append (hT : TabOK P C.D) (hR : Rep E s act W) {t u : Nat} {a x : Operand} {d : Nat} {κ : AV → St → Option ρ} (ho : o.op = .call { callee := .builtin .append, args := #[a, x], argTypes := #[t, u] }) (h : evAppend C s t u (s.ev a) (s.ev x) d κ = some r) : ∃ a' s', κ a' s' = some r ∧ SimA P o E s act W a' s' := by
  unfold evAppend at h
  split at h
  · rename_i e he
    split at h
    · rename_i ty hty
      split at h
      · rename_i htu
        have htu := Nat.eq_of_beq_eq_true htu
        subst htu
        split at h
        · rename_i ys s1 hrows
          obtain ⟨E1, A, m, c, okp, R1, P1, hx, hC, hokp⟩ := rows_rep hR (rep_ev hR x) hrows
          split at h
          · rename_i q ha
            have hav := rep_ev hR a
            rw [ha] at hav
            split at h
            · rename_i e' t' xs hq
              split at h
              · rename_i hee
                subst hee
                split at h
                · rename_i htt
                  subst htt
                  split at h
                  · rename_i hl
                    obtain ⟨hd, hj, h2⟩ := fresh_some h
                    have hown := hdr_own R1 (hdr_later P1 hav hq) hq
                    have hg := give_pass (P := fun _ _ => True) E1 q 1 true trivial
                    refine ⟨_, _, h2, append_core hT (gone_rep R1 q (.hand 1 true)) ((P1.mono fun _ _ _ => trivial).trans hg) ho he hty hd hj hx hC (fun k hk => ?_) (R_mono hown fun k hk => if_pos hk) hl⟩
                    obtain ⟨b, hb⟩ := hokp k hk
                    exact ⟨b, hg.keep hb (hand_ne 0 b)⟩
                  · cases h
                · cases h
              · cases h
            · cases h
          · rename_i ha
            split at h
            · rename_i hl
              obtain ⟨hd, hj, h2⟩ := fresh_some h
              have hav : act.eval a = .slice none 0 0 := ev_v hR ha
              refine ⟨_, _, h2, ?_⟩
              have := append_core (xs := []) (o := o) (s0 := s) hT R1 P1 ho he hty hd hj hx hC hokp (by rw [hav]; exact R_nil _ _ _ _ _) (by simpa using hl)
              simpa using this
            · cases h
          · cases h
        · cases h
      · cases h
    · cases h
  · cases h
theorem land_tok {E0 : Env} {Pp : Nat → Bool → Prop} (hR : Rep E s act W) (hP : Pass Pp E0 E) {d e : Nat} {ty : Ty} {xs : List ty.den} {v : Value} (hd : d < 500000) (hj : s.toks d = .junk)
    (hv : ty.kd.R e W 0 (fun k => Hand 0 (E.own k)) v xs) : ∃ E', Rep E' { s with toks := tokSet s.toks d (.own e ty xs) } act W ∧ RepV E' { s with toks := tokSet s.toks d (.own e ty xs) } W (.rt (.tok d)) v ∧ After E0 W E' W := by
  have hO := toRoot_only (.tok d)
  have hm : Move (fun x => ∃ p b, x = .hand p b) E W { (E.ren (toRoot (.tok d))) with rv := fun n => if n = d then v else E.rv n } W :=
    ⟨fun k _ hn => ⟨hO _ fun p b h => hn ⟨p, b, h⟩, rfl⟩, ⟨[], by simp [Env.ren]⟩, rfl⟩
  obtain ⟨h1, h2⟩ := fresh_rep (E' := { (E.ren (toRoot (.tok d))) with rv := fun n => if n = d then v else E.rv n }) hR (a := .own e ty xs) hj (by simp) hm (by simp) (fun q ⟨p, b, h⟩ => hand_ne p b q h.symm) (by simp) (fun n hn => if_neg hn) rfl (by
    show ty.kd.R e W 0 (fun k => toRoot (.tok d) (E.own k) = .tok d) (if d = d then v else _) xs
    rw [if_pos rfl]
    refine R_mono hv fun k ⟨b, hk⟩ => ?_
    rw [hk]
    rfl) (fun k hk => by
    show toRoot (.tok d) (E.own k) = _
    rw [hR.new k hk]
    rfl)
  have hrv : ({ (E.ren (toRoot (.tok d))) with rv := fun n => if n = d then v else E.rv n } : Env).rv d = v := if_pos rfl
  rw [hrv] at h2
  refine ⟨_, h1, h2, rfl, rfl, rfl, Nat.le_refl _, fun k hk hfr => ⟨?_, rfl⟩, ⟨[], by show E.adr = _; rw [hP.adr, List.append_nil]⟩, fun n hn => ?_, hP.kv⟩
  · show toRoot (.tok d) (E.own k) = _
    rw [hP.keep (o := E0.own k) rfl (still_ne hfr)]
    exact hO _ (still_hand hfr)
  · show (if n = d then v else E.rv n) = _
    rw [if_neg (by omega), hP.rv]
theorem rename_rep (hR : Rep E s act W) {n d e : Nat} {ty : Ty} {xs : List ty.den} (hnd : n ≠ d) (hj : s.toks d = .junk) (hn : s.toks n = .own e ty xs) :
    Rep ⟨fun k => if E.own k = .tok n then .tok d else E.own k, E.adr, fun m => if m = d then E.rv n else E.rv m, E.kv⟩ (({ s with toks := tokSet (tokSet s.toks n .junk) d (.own e ty xs) } : St).mapS (AV.ren1 n d)) act W := by
  have hm : Move (fun x => x = .tok n) E W ⟨fun k => if E.own k = .tok n then .tok d else E.own k, E.adr, fun m => if m = d then E.rv n else E.rv m, E.kv⟩ W :=
    ⟨fun k _ hk => ⟨if_neg hk, rfl⟩, ⟨[], by simp⟩, rfl⟩
  have hmon : ∀ (q : Root) k, E.own k = q.owner → (if E.own k = .tok n then Owner.tok d else E.own k) = (q.ren n d).owner := fun q k hk => by
    cases q with
    | cell j c => rw [hk, if_neg (by simp [Root.owner])]; rfl
    | tok m =>
      by_cases hmn : m = n
      · subst hmn
        rw [hk]
        show (if Owner.tok m = .tok m then Owner.tok d else _) = Root.owner (match Nat.beq m m with | true => Root.tok d | false => Root.tok m)
        rw [if_pos rfl, show Nat.beq m m = true from Nat.beq_refl m]
        rfl
      · rw [hk]
        show (if Owner.tok m = .tok n then Owner.tok d else Owner.tok m) = Root.owner (match Nat.beq m n with | true => Root.tok d | false => Root.tok m)
        rw [if_neg (fun h => hmn (by injection h)), beq_false hmn]
        rfl
  have htk : ∀ m, (({ s with toks := tokSet (tokSet s.toks n .junk) d (.own e ty xs) } : St).mapS (AV.ren1 n d)).toks m = if m = d then .own e ty xs else if m = n then .junk else (s.toks m).inLit (AV.ren1 n d) := fun m => by
    show (tokSet (tokSet s.toks n .junk) d (.own e ty xs) m).inLit _ = _
    by_cases h1 : m = d
    · subst h1; rw [tokSet_self, if_pos rfl]; rfl
    · rw [tokSet_ne _ _ h1, if_neg h1]
      by_cases h2 : m = n
      · subst h2; rw [tokSet_self, if_pos rfl]; rfl
      · rw [tokSet_ne _ _ h2, if_neg h2]
  have hhdr : ∀ (q : Root) y, Hdr E s W q y → Hdr ⟨fun k => if E.own k = .tok n then .tok d else E.own k, E.adr, fun m => if m = d then E.rv n else E.rv m, E.kv⟩ (({ s with toks := tokSet (tokSet s.toks n .junk) d (.own e ty xs) } : St).mapS (AV.ren1 n d)) W (q.ren n d) y ∧
      ∀ e1 t1 xs1, s.root q = .own e1 t1 xs1 → (({ s with toks := tokSet (tokSet s.toks n .junk) d (.own e ty xs) } : St).mapS (AV.ren1 n d)).root (q.ren n d) = .own e1 t1 xs1 := fun q y hy => by
    cases q with
    | cell j c => exact ⟨hy, fun _ _ _ h => h⟩
    | tok m =>
      have hmd : m ≠ d := fun h => hy.2 (by rw [h]; exact hj)
      by_cases hmn : m = n
      · subst hmn
        have e0 : (Root.tok m).ren m d = .tok d := by
          show (match Nat.beq m m with | true => Root.tok d | false => Root.tok m) = _
          rw [show Nat.beq m m = true from Nat.beq_refl m]
        rw [e0]
        refine ⟨⟨hy.1.trans (if_pos rfl).symm, ?_⟩, fun e1 t1 xs1 h => ?_⟩
        · rw [htk, if_pos rfl]; simp
        · have h' : s.toks m = .own e1 t1 xs1 := h
          rw [hn] at h'
          exact (htk d).trans ((if_pos rfl).trans h')
      · have e0 : (Root.tok m).ren n d = .tok m := by
          show (match Nat.beq m n with | true => Root.tok d | false => Root.tok m) = _
          rw [beq_false hmn]
        rw [e0]
        refine ⟨⟨hy.1.trans (if_neg hmd).symm, fun h => hy.2 (inLit_junk (φ := AV.ren1 n d) ?_)⟩, fun e1 t1 xs1 h => ?_⟩
        · rw [htk, if_neg hmd, if_neg hmn] at h
          exact h
        · refine (htk m).trans ?_
          rw [if_neg hmd, if_neg hmn]
          exact inLit_own h
  have hfoot : ∀ {α : Type} {k : Kd α} {q : Root} {A : Option Addr} {m : Nat} {zs : List α}, F k W (fun k => E.own k = q.owner) A m zs → F k W (fun k => (if E.own k = .tok n then Owner.tok d else E.own k) = (q.ren n d).owner) A m zs := fun h => F_mono h (hmon _)
  have h1 : ∀ a y, Rep1 E s W a y → Rep1 ⟨fun k => if E.own k = .tok n then .tok d else E.own k, E.adr, fun m => if m = d then E.rv n else E.rv m, E.kv⟩ (({ s with toks := tokSet (tokSet s.toks n .junk) d (.own e ty xs) } : St).mapS (AV.ren1 n d)) W (AV.ren1 n d a) y := fun a y hr => by
    cases a with
    | rt q => exact (hhdr q y hr).1
    | sl m e1 t1 xs1 =>
      cases m with
      | none => exact hm.rep1 (by simp) (a := .sl none e1 t1 xs1) (fun q h => h.elim) hr
      | some q => obtain ⟨A, c, g1, g2, g3⟩ := hr; exact ⟨A, c, g1, g2, hfoot g3⟩
    | fp m t1 x off =>
      cases m with
      | none => exact hm.rep1 (by simp) (a := .fp none t1 x off) (fun q h => h.elim) hr
      | some q => obtain ⟨ad, g1, g2⟩ := hr; exact ⟨ad, g1, hfoot g2⟩
    | ep q i off =>
      obtain ⟨b, n1, c, e1, t1, xs1, g1, g2, g3⟩ := hr
      obtain ⟨k1, k2⟩ := hhdr q _ g1
      exact ⟨b, n1, c, e1, t1, xs1, k1, k2 _ _ _ g2, g3⟩
    | junk => exact trivial
    | dead => exact hr
    | deadp => exact hr
    | v x => exact hr
    | ptr j off => exact hm.rep1 (by simp) (a := .ptr j off) (fun q h => h.elim) hr
    | fn f l m => exact hm.rep1 (by simp) (a := .fn f l m) (fun q h => h.elim) hr
    | _ => exact hr.elim
  refine hR.go (φ := AV.ren1 n d) hm (by simp) h1 rfl (fun m => ?_) (fun j cs h => .inl ⟨h, by simp, by simp⟩) hR.ln (fun k hk => by
    show (if E.own k = .tok n then Owner.tok d else E.own k) = _
    rw [hR.new k hk, if_neg (by simp)])
  by_cases h2 : m = d
  · subst h2
    refine .inr ?_
    rw [htk, if_pos rfl]
    show ty.kd.R e W 0 (fun k => (if E.own k = .tok n then Owner.tok m else E.own k) = .tok m) (if m = m then E.rv n else E.rv m) xs
    rw [if_pos rfl]
    have h3 := hR.tk n
    rw [hn] at h3
    exact R_mono h3 fun k hk => if_pos hk
  · by_cases h3 : m = n
    · subst h3
      refine .inr ?_
      rw [htk, if_neg h2, if_pos rfl]
      trivial
    · refine .inl ⟨by rw [htk, if_neg h2, if_neg h3], fun h => h3 (by injection h), if_neg h2⟩
theorem sim_assign_all (hT : TabOK P C.D) (hR : Rep E s act W) {x : Operand} {t d : Nat} {κ : AV → St → Option ρ} (ho : o.op = .assign x) (h : evAssign C s t d (s.ev x) κ = some r) : ∃ a' s', κ a' s' = some r ∧ Sim P o E s act W a' s' := by
  have hrun : (execOp act.eval o).run P W = .ok (.value (act.eval x)) W := by simp [execOp, ho]
  have hxv := rep_ev hR x
  unfold evAssign at h
  split at h
  · rename_i n hx
    rw [hx] at hxv
    split at h
    · exact ⟨_, _, h, (sim_assign (C := C) hR ho).sim hR⟩
    · rename_i hnd
      have hnd : n ≠ d := fun he => by rw [he, show Nat.beq d d = true from Nat.beq_refl d] at hnd; cases hnd
      split at h
      · rename_i hd
        have hd := Nat.blt_eq.mp hd
        split at h
        · rename_i e ty xs hn
          refine ⟨_, _, h, ?_⟩
          have R1 := gone_rep hR (.tok d) (.hand 0 false)
          have hj : (s.drop d).toks d = .junk := by
            show (tokSet s.toks d .junk d).inLit _ = _
            rw [tokSet_self]
            rfl
          have hn1 : (s.drop d).toks n = .own e ty xs := by
            show (tokSet s.toks d .junk n).inLit _ = _
            rw [tokSet_ne _ _ hnd, hn]
            rfl
          have R2 := rename_rep R1 hnd hj hn1
          refine Sim.step hrun R2 ⟨?_, ?_⟩ ⟨rfl, rfl, rfl, Nat.le_refl _, fun k hk hfr => ⟨?_, rfl⟩, ⟨[], by show E.adr = _; rw [List.append_nil]⟩, fun m hm => ?_, rfl⟩
          · rw [hxv.1]
            exact (if_pos rfl).symm
          · show (tokSet (tokSet (s.drop d).toks n .junk) d (.own e ty xs) d).inLit _ ≠ .junk
            rw [tokSet_self]
            simp [AV.inLit]
          · show (if (if E.own k = .tok d then Owner.hand 0 false else E.own k) = .tok n then Owner.tok d else (if E.own k = .tok d then Owner.hand 0 false else E.own k)) = E.own k
            rcases hfr with hfr | hfr <;> rw [hfr, if_neg (by simp), if_neg (by simp)]
          · show (if m = d then _ else E.rv m) = _
            rw [if_neg (by omega)]
        · rename_i e ty rows hn
          split at h
          · rename_i xs s1 hsol
            obtain ⟨hd', hj, h2⟩ := fresh_some h
            refine ⟨_, _, h2, ?_⟩
            have ht := hR.tk n
            rw [hn] at ht
            obtain ⟨g, cells, t1, t2, t3, t4, t5, t6⟩ := ht
            have g1 := give_pass (P := fun _ _ => True) E (.tok n) 0 true trivial
            have g2 := give_pass (P := fun _ _ => True) (E.give (Root.owner (.tok n)) (.hand 0 true)) (.tok d) 1 false trivial
            obtain ⟨E2, k1, k2, k3, k4⟩ := solid_rep 0 false ty rows E s (gone_rep (gone_rep hR (.tok n) (.hand 0 true)) (.tok d) (.hand 1 false)) (g1.trans g2).later t4 hsol
            have hg2 : E2.own g = .hand 0 true := k2.keep (g2.keep (if_pos t2) (hand_ne 0 true)) (hand_ne 0 true)
            have hyv : act.eval x = .slice (some ⟨g, 0, none⟩) rows.length rows.length := hxv.1.trans t1
            have hv : ty.kd.R e W 0 (fun k => Hand 0 (E2.own k)) (act.eval x) xs := by
              rw [hyv]
              refine ⟨fun k hk => ?_, cells.toList, ?_, ?_⟩
              · have : g = k := by simpa [Value.ownBlock] using hk
                subst this
                exact ⟨_, hg2⟩
              · have hcs : cells.toList.length = xs.length * ty.kd.sz := by rw [k4.1, kd_sz]
                have h2 : W.ownsRow 0 e ty.kd.sz (.slice (some ⟨g, 0, none⟩) rows.length rows.length) xs.length cells.toList := by
                  refine ⟨hcs, .inr ⟨g, rows.length, cells, by rw [k3], Nat.zero_le _, t3, by omega, by simp only [maxLen]; omega, by rw [← Array.length_toList, hcs, k3], ?_⟩⟩
                  rw [← hcs, List.take_length]
                exact h2
              · rw [kd_sz]
                refine k4.imp_ fun z c hz => ty.kd.M_mono (fun k hk => ⟨⟨_, hk⟩, fun he => ?_⟩) hz
                have : k = g := by simpa [Value.ownBlock] using he
                rw [this, hg2] at hk
                cases hk
            obtain ⟨E3, h3, h4, h5⟩ := land_tok k1 ((g1.trans g2).trans (k2.mono fun _ _ _ => trivial)) hd hj hv
            exact Sim.step hrun h3 h4 h5
          · cases h
        · cases h
      · cases h
  · rename_i hx
    rw [hx] at hxv
    split at h
    · rename_i e _
      split at h
      · rename_i ty _
        obtain ⟨hd, hj, h2⟩ := fresh_some h
        refine ⟨_, _, h2, ?_⟩
        have hyv : act.eval x = .slice none 0 0 := hxv
        obtain ⟨E3, h3, h4, h5⟩ := land_tok (gone_rep hR (.tok d) (.hand 0 false)) (give_pass (P := fun _ _ => True) E (.tok d) 0 false trivial) hd hj (e := e) (ty := ty) (v := act.eval x) (by rw [hyv]; exact R_nil _ _ _ _ _)
        exact Sim.step hrun h3 h4 h5
      · cases h
    · cases h
  · exact ⟨_, _, h, (sim_assign (C := C) hR ho).sim hR⟩
end
end Go.Proofs.YtbakkcdanoopgaaGreatDoor.Ev
set_option linter.unusedVariables false
set_option linter.unusedSimpArgs false
namespace Go.Proofs.YtbakkcdanoopgaaGreatDoor.Ev
open Go Go.RowKit Go.Proofs.YtbakkcdanoopgaaGreatDoorW.PrintWords Go.Proofs.YtbakkcdanoopgaaGreatDoorW.PrintMore Kd
mutual
/-- Less is told. -/
inductive Cut : AV → AV → Prop
  | junk (a : AV) : Cut a .junk
  | same (a : AV) : Cut a a
  | fn (f : Fn) {l l' m m' : List AV} : Cuts l l' → Cuts m m' → Cut (.fn f l m) (.fn f l' m')
  | agg {l l' : List AV} : Cuts l l' → Cut (.agg l) (.agg l')
  | tup {l l' : List AV} : Cuts l l' → Cut (.tup l) (.tup l')
  | still {a a' : AV} : Cut a a' → Cut (.same a) (.same a')
inductive Cuts : List AV → List AV → Prop
  | nil : Cuts [] []
  | cons {a a' : AV} {l l' : List AV} : Cut a a' → Cuts l l' → Cuts (a :: l) (a' :: l')
end
mutual
theorem parse_build : ∀ (p : Pt) (a : AV) (h : List HV), p.parse a = some h → ∃ a', (∀ r, p.build (h ++ r) = some (a', r)) ∧ Cut a a'
  | .junk, a, h, hp => by
    obtain rfl : [] = h := by simpa [Pt.parse] using hp
    exact ⟨.junk, fun r => rfl, .junk a⟩
  | .cst x, a, h, hp => by
    cases a <;> try (simp [Pt.parse] at hp; done)
    rename_i y
    simp only [Pt.parse] at hp
    split at hp <;> first | cases hp; done | (obtain rfl : [] = h := by simpa using hp
                                              exact ⟨_, fun r => rfl, .same _⟩)
  | .sc t, a, h, hp => by
    cases a <;> try (cases t <;> simp [Pt.parse] at hp; done)
    rename_i y
    cases t <;> cases y <;> try (simp [Pt.parse] at hp; done)
    · simp only [Pt.parse] at hp
      split at hp
      · rename_i hk
        subst hk
        obtain rfl := Option.some.inj hp
        exact ⟨_, fun r => by simp only [List.cons_append, List.nil_append, Pt.build, if_true], .same _⟩
      · cases hp
    · simp only [Pt.parse] at hp
      obtain rfl := Option.some.inj hp
      exact ⟨_, fun r => rfl, .same _⟩
    · simp only [Pt.parse] at hp
      obtain rfl := Option.some.inj hp
      exact ⟨_, fun r => rfl, .same _⟩
  | .sl e t, a, h, hp => by
    cases a <;> try (simp [Pt.parse] at hp; done)
    rename_i m e' t' xs
    cases m <;> try (simp [Pt.parse] at hp; done)
    simp only [Pt.parse] at hp
    split at hp
    · rename_i he
      subst he
      split at hp
      · rename_i ht
        subst ht
        obtain rfl := Option.some.inj hp
        exact ⟨_, fun r => by simp only [List.cons_append, List.nil_append, Pt.build, if_true], .same _⟩
      · cases hp
    · cases hp
  | .own e t, a, h, hp => by
    cases a <;> try (simp [Pt.parse] at hp; done)
    rename_i e' t' xs
    simp only [Pt.parse] at hp
    split at hp
    · rename_i he
      subst he
      split at hp
      · rename_i ht
        subst ht
        obtain rfl := Option.some.inj hp
        exact ⟨_, fun r => by simp only [List.cons_append, List.nil_append, Pt.build, if_true], .same _⟩
      · cases hp
    · cases hp
  | .tok n, a, h, hp => by
    cases a <;> try (simp [Pt.parse] at hp; done)
    rename_i q
    cases q <;> simp only [Pt.parse] at hp <;> try (cases hp; done)
    split at hp
    · rename_i hn
      subst hn
      obtain rfl := Option.some.inj hp
      exact ⟨_, fun r => rfl, .same _⟩
    · cases hp
  | .ptr j off, a, h, hp => by
    cases a <;> try (simp [Pt.parse] at hp; done)
    simp only [Pt.parse] at hp
    split at hp
    · rename_i hj
      subst hj
      split at hp
      · rename_i ho
        subst ho
        obtain rfl := Option.some.inj hp
        exact ⟨_, fun r => rfl, .same _⟩
      · cases hp
    · cases hp
  | .fn f ps qs, a, h, hp => by
    cases a <;> try (simp [Pt.parse] at hp; done)
    rename_i g l m
    simp only [Pt.parse] at hp
    split at hp
    · rename_i hf
      subst hf
      split at hp
      · rename_i x hx
        split at hp
        · rename_i y hy
          obtain rfl := Option.some.inj hp
          obtain ⟨l', h1, h2⟩ := parses_builds ps l x hx
          obtain ⟨m', h3, h4⟩ := parses_builds qs m y hy
          exact ⟨_, fun r => by simp only [Pt.build, List.append_assoc, h1, h3], .fn _ h2 h4⟩
        · cases hp
      · cases hp
    · cases hp
  | .agg ps, a, h, hp => by
    cases a <;> try (simp [Pt.parse] at hp; done)
    rename_i l
    simp only [Pt.parse] at hp
    obtain ⟨l', h1, h2⟩ := parses_builds ps l h hp
    exact ⟨_, fun r => by simp only [Pt.build, h1 r], .agg h2⟩
  | .tup ps, a, h, hp => by
    cases a <;> try (simp [Pt.parse] at hp; done)
    rename_i l
    simp only [Pt.parse] at hp
    obtain ⟨l', h1, h2⟩ := parses_builds ps l h hp
    exact ⟨_, fun r => by simp only [Pt.build, h1 r], .tup h2⟩
  | .same p, a, h, hp => by
    cases a <;> try (simp [Pt.parse] at hp; done)
    rename_i b
    simp only [Pt.parse] at hp
    obtain ⟨b', h1, h2⟩ := parse_build p b h hp
    exact ⟨_, fun r => by simp only [Pt.build, h1 r], .still h2⟩
theorem parses_builds : ∀ (ps : List Pt) (l : List AV) (h : List HV), Pt.parses ps l = some h → ∃ l', (∀ r, Pt.builds ps (h ++ r) = some (l', r)) ∧ Cuts l l'
  | [], [], h, hp => by
    obtain rfl : [] = h := by simpa [Pt.parses] using hp
    exact ⟨[], fun r => rfl, .nil⟩
  | [], a :: l, h, hp => by simp [Pt.parses] at hp
  | p :: ps, [], h, hp => by simp [Pt.parses] at hp
  | p :: ps, a :: l, h, hp => by
    simp only [Pt.parses] at hp
    cases h1 : p.parse a with
    | none => rw [h1] at hp; cases hp
    | some x =>
      rw [h1] at hp
      dsimp only at hp
      cases h2 : Pt.parses ps l with
      | none => rw [h2] at hp; cases hp
      | some y =>
        rw [h2] at hp
        obtain rfl := Option.some.inj hp
        obtain ⟨a', g1, g2⟩ := parse_build p a x h1
        obtain ⟨l', k1, k2⟩ := parses_builds ps l y h2
        exact ⟨a' :: l', fun r => by simp only [Pt.builds, List.append_assoc, g1, k1], .cons g2 k2⟩
end
theorem parseB_build : ∀ (ps : List (List Pt)) (bs : List (List AV)) (h : List HV), Pt.parseB ps bs = some h → ∃ bs', (∀ r, Pt.buildB ps (h ++ r) = some (bs', r)) ∧ bs'.length = ps.length ∧ ps.length ≤ bs.length ∧ ∀ (j : Nat) (c' : List AV), bs'[j]? = some c' → ∃ c, bs[j]? = some c ∧ Cuts c c'
  | [], bs, h, hp => by
    obtain rfl : [] = h := by simpa [Pt.parseB] using hp
    exact ⟨[], fun r => rfl, rfl, Nat.zero_le _, fun j c' hj => by simp at hj⟩
  | p :: ps, [], h, hp => by simp [Pt.parseB] at hp
  | p :: ps, b :: bs, h, hp => by
    simp only [Pt.parseB] at hp
    cases h1 : Pt.parses p b with
    | none => rw [h1] at hp; cases hp
    | some x =>
      rw [h1] at hp
      dsimp only at hp
      cases h2 : Pt.parseB ps bs with
      | none => rw [h2] at hp; cases hp
      | some y =>
        rw [h2] at hp
        obtain rfl := Option.some.inj hp
        obtain ⟨l', g1, g2⟩ := parses_builds p b x h1
        obtain ⟨bs', k1, k2, k3, k4⟩ := parseB_build ps bs y h2
        refine ⟨l' :: bs', fun r => by simp only [Pt.buildB, List.append_assoc, g1, k1], by simp [k2], by simpa using k3, fun j c' hj => ?_⟩
        cases j with
        | zero =>
          obtain rfl : l' = c' := by simpa using hj
          exact ⟨b, rfl, g2⟩
        | succ j => exact k4 j c' (by simpa using hj)
mutual
/-- Forms that holes yield; pointers lead to boxes that are told, tokens are told. -/
def form (n : Nat) (tk : Nat → Bool) : AV → Prop
  | .junk => True
  | .v _ => True
  | .sl none _ _ _ => True
  | .own _ _ _ => True
  | .rt (.tok d) => tk d = true
  | .ptr j _ => j < n
  | .fn _ first l => forms n tk first ∧ forms n tk l
  | .agg l => forms n tk l
  | .tup l => forms n tk l
  | .same a => form n tk a
  | _ => False
def forms (n : Nat) (tk : Nat → Bool) : List AV → Prop
  | [] => True
  | a :: l => form n tk a ∧ forms n tk l
end
mutual
theorem build_form (n : Nat) (tk : Nat → Bool) : ∀ (p : Pt) (h : List HV) (a : AV) (r : List HV), Pt.okP n tk p = true → p.build h = some (a, r) → form n tk a
  | .junk, h, a, r, ok, hb => by
    obtain ⟨rfl, -⟩ : AV.junk = a ∧ h = r := by simpa [Pt.build] using hb
    trivial
  | .cst x, h, a, r, ok, hb => by
    obtain ⟨rfl, -⟩ : AV.v x = a ∧ h = r := by simpa [Pt.build] using hb
    trivial
  | .sc t, h, a, r, ok, hb => by
    unfold Pt.build at hb
    split at hb <;> try (cases hb; done)
    all_goals first
      | (obtain ⟨rfl, -⟩ : _ = a ∧ _ := by simpa using hb
         trivial)
      | (split at hb
         · obtain ⟨rfl, -⟩ : _ = a ∧ _ := by simpa using hb
           trivial
         · cases hb)
      | (rename_i h1 h2; cases h1; done)
      | (rename_i h1; cases h1; done)
      | skip
  | .sl e t, h, a, r, ok, hb => by
    unfold Pt.build at hb
    split at hb <;> try (cases hb; done)
    all_goals first
      | (rename_i h1 h2; cases h1; done)
      | (rename_i h1; cases h1; done)
      | (split at hb
         · split at hb
           · obtain ⟨rfl, -⟩ : _ = a ∧ _ := by simpa using hb
             trivial
           · cases hb
         · cases hb)
      | (split at hb
         · split at hb
           · obtain ⟨rfl, -⟩ := Prod.mk.inj (Option.some.inj hb)
             trivial
           · cases hb
         · cases hb)
      | skip
  | .own e t, h, a, r, ok, hb => by
    unfold Pt.build at hb
    split at hb <;> try (cases hb; done)
    all_goals first
      | (rename_i h1 h2; cases h1; done)
      | (rename_i h1; cases h1; done)
      | (split at hb
         · split at hb
           · obtain ⟨rfl, -⟩ : _ = a ∧ _ := by simpa using hb
             trivial
           · cases hb
         · cases hb)
      | (split at hb
         · split at hb
           · obtain ⟨rfl, -⟩ := Prod.mk.inj (Option.some.inj hb)
             trivial
           · cases hb
         · cases hb)
      | skip
  | .tok d, h, a, r, ok, hb => by
    obtain ⟨rfl, -⟩ : AV.rt (.tok d) = a ∧ h = r := by simpa [Pt.build] using hb
    exact ok
  | .ptr j off, h, a, r, ok, hb => by
    obtain ⟨rfl, -⟩ : AV.ptr j off = a ∧ h = r := by simpa [Pt.build] using hb
    exact Nat.blt_eq.mp ok
  | .fn f ps qs, h, a, r, ok, hb => by
    simp only [Pt.build] at hb
    unfold Pt.okP at ok
    simp only [Bool.and_eq_true] at ok
    split at hb
    · rename_i l k1 hl
      split at hb
      · rename_i m k2 hm
        obtain ⟨rfl, -⟩ : AV.fn f l m = a ∧ k2 = r := by simpa using hb
        exact ⟨builds_form n tk ps h l k1 ok.1 hl, builds_form n tk qs k1 m k2 ok.2 hm⟩
      · cases hb
    · cases hb
  | .agg ps, h, a, r, ok, hb => by
    simp only [Pt.build] at hb
    cases h1 : Pt.builds ps h with
    | none => rw [h1] at hb; cases hb
    | some x =>
      rw [h1] at hb
      obtain ⟨rfl, -⟩ : AV.agg x.1 = a ∧ x.2 = r := by simpa using hb
      exact builds_form n tk ps h x.1 x.2 ok h1
  | .tup ps, h, a, r, ok, hb => by
    simp only [Pt.build] at hb
    cases h1 : Pt.builds ps h with
    | none => rw [h1] at hb; cases hb
    | some x =>
      rw [h1] at hb
      obtain ⟨rfl, -⟩ : AV.tup x.1 = a ∧ x.2 = r := by simpa using hb
      exact builds_form n tk ps h x.1 x.2 ok h1
  | .same p, h, a, r, ok, hb => by
    simp only [Pt.build] at hb
    cases h1 : p.build h with
    | none => rw [h1] at hb; cases hb
    | some x =>
      rw [h1] at hb
      obtain ⟨rfl, -⟩ : AV.same x.1 = a ∧ x.2 = r := by simpa using hb
      exact build_form n tk p h x.1 x.2 ok h1
theorem builds_form (n : Nat) (tk : Nat → Bool) : ∀ (ps : List Pt) (h : List HV) (l : List AV) (r : List HV), Pt.okPs n tk ps = true → Pt.builds ps h = some (l, r) → forms n tk l
  | [], h, l, r, ok, hb => by
    obtain ⟨rfl, -⟩ : [] = l ∧ h = r := by simpa [Pt.builds] using hb
    trivial
  | p :: ps, h, l, r, ok, hb => by
    simp only [Pt.okPs, Bool.and_eq_true] at ok
    simp only [Pt.builds] at hb
    cases h1 : p.build h with
    | none => rw [h1] at hb; cases hb
    | some x =>
      rw [h1] at hb
      dsimp only at hb
      cases h2 : Pt.builds ps x.2 with
      | none => rw [h2] at hb; cases hb
      | some y =>
        rw [h2] at hb
        obtain ⟨rfl, -⟩ : x.1 :: y.1 = l ∧ y.2 = r := by simpa using hb
        exact ⟨build_form n tk p h x.1 x.2 ok.1 h1, builds_form n tk ps x.2 y.1 y.2 ok.2 h2⟩
end
structure Aft (E : Env) (W : World) (E' : Env) (W' : World) : Prop where
  os : W'.os = W.os
  tape : W'.tape = W.tape
  output : W'.output = W.output
  size : W.heap.size ≤ W'.heap.size
  free : ∀ k, k < W.heap.size → (E.own k = .free ∨ E.own k = .hid) → E'.own k = E.own k ∧ W'.heap[k]? = W.heap[k]?
  adr : ∃ l, E'.adr = E.adr ++ l
  kv : E'.kv = E.kv
theorem After.aft {E E' : Env} {W W' : World} (h : After E W E' W') : Aft E W E' W' := ⟨h.os, h.tape, h.output, h.size, h.free, h.adr, h.kv⟩
theorem Aft.refl (E : Env) (W : World) : Aft E W E W := (After.refl E W).aft
theorem Aft.trans {E E1 E2 : Env} {W W1 W2 : World} (h : Aft E W E1 W1) (h' : Aft E1 W1 E2 W2) : Aft E W E2 W2 :=
  ⟨h'.os.trans h.os, h'.tape.trans h.tape, h'.output.trans h.output, Nat.le_trans h.size h'.size, fun k hk hf => by
    obtain ⟨h1, h2⟩ := h.free k hk hf
    obtain ⟨h3, h4⟩ := h'.free k (Nat.lt_of_lt_of_le hk h.size) (by rw [h1]; exact hf)
    exact ⟨h3.trans h1, h4.trans h2⟩, by
    obtain ⟨l, hl⟩ := h.adr
    obtain ⟨l', hl'⟩ := h'.adr
    exact ⟨l ++ l', by rw [hl', hl, List.append_assoc]⟩, h'.kv.trans h.kv⟩
def AllQ (R : Nat → AV → Value → Prop) : Nat → List AV → List Value → Prop
  | _, [], [] => True
  | p, a :: l, y :: m => R p a y ∧ AllQ R (p + 1) l m
  | _, _, _ => False
def ArgT (E : Env) (W : World) (O : Owner → Prop) : AV → Value → Prop
  | .junk, _ => True
  | .own e t xs, y => t.kd.R e W 0 (fun k => O (E.own k)) y xs
  | .v x, y => y = x
  | .sl none e t xs, y => RepS E W (.sl none e t xs) y
  | .ptr j off, y => RepS E W (.ptr j off) y
  | .fn f first caps, y => ∃ fs cs : Array Value, y = .func f fs cs ∧ All2 (RepS E W) first fs.toList ∧ All2 (RepS E W) caps cs.toList
  | _, _ => False
def ArgV (E : Env) (W : World) (k : Nat) : AV → Value → Prop
  | .agg cs, y => ∃ vs : Array Value, y = .agg vs ∧ AllQ (fun c => ArgT E W (fun x => x = .way k c)) 0 cs vs.toList
  | a, y => ArgT E W (fun x => x = .way k 0) a y
end Go.Proofs.YtbakkcdanoopgaaGreatDoor.Ev
set_option linter.unusedVariables false
set_option linter.unusedSimpArgs false
namespace Go.Proofs.YtbakkcdanoopgaaGreatDoor.Ev
open Go Go.RowKit Go.Proofs.YtbakkcdanoopgaaGreatDoorW.PrintWords Go.Proofs.YtbakkcdanoopgaaGreatDoorW.PrintMore Kd
section
variable {E E' : Env} {s s' : St} {act : Act} {W W' : World}
theorem cuts_all2 {R R' : AV → Value → Prop} : ∀ {l l' : List AV} {m : List Value}, (∀ a a' y, Cut a a' → R a y → R' a' y) → Cuts l l' → All2 R l m → All2 R' l' m
  | [], _, [], _, .nil, _ => trivial
  | a :: l, _, y :: m, h, .cons h1 h2, hr => ⟨h _ _ _ h1 hr.1, cuts_all2 h h2 hr.2⟩
theorem cuts_allQ {R R' : Nat → AV → Value → Prop} : ∀ {l l' : List AV} {m : List Value} {p : Nat}, (∀ p a a' y, Cut a a' → R p a y → R' p a' y) → Cuts l l' → AllQ R p l m → AllQ R' p l' m
  | [], _, [], _, _, .nil, _ => trivial
  | a :: l, _, y :: m, p, h, .cons h1 h2, hr => ⟨h _ _ _ _ h1 hr.1, cuts_allQ h h2 hr.2⟩
theorem repS_cut {a a' : AV} {y : Value} (h : Cut a a') (hr : RepS E W a y) : RepS E W a' y := by
  cases h <;> first | trivial | exact hr | exact hr.elim
theorem repC_cut {o : Owner} {a a' : AV} {y : Value} (h : Cut a a') (hr : RepC E W o a y) : RepC E W o a' y := by
  cases h with
  | still h => exact ⟨repS_cut h hr.1, hr.2⟩
  | same => exact hr
  | _ => first | trivial | exact hr.elim
theorem rep1_cut {a a' : AV} {y : Value} (h : Cut a a') (hr : Rep1 E s W a y) : Rep1 E s W a' y := by
  cases h with
  | junk => trivial
  | same => exact hr
  | fn f hl hm =>
    obtain ⟨fs, cs, h1, h2, h3⟩ := hr
    exact ⟨fs, cs, h1, cuts_all2 (fun _ _ _ => repS_cut) hl h2, cuts_all2 (fun _ _ _ => repS_cut) hm h3⟩
  | agg _ => exact hr.elim
  | tup _ => exact hr.elim
  | still _ => exact hr.elim
theorem rep2_cut {a a' : AV} {y : Value} (h : Cut a a') (hr : Rep2 E s W a y) : Rep2 E s W a' y := by
  cases h with
  | junk => trivial
  | same => exact hr
  | fn f hl hm => exact rep1_cut (s := s) (.fn f hl hm) hr
  | agg hl =>
    obtain ⟨vs, h1, h2⟩ := hr
    exact ⟨vs, h1, cuts_all2 (fun _ _ _ => rep1_cut) hl h2⟩
  | tup _ => exact hr.elim
  | still _ => exact hr.elim
theorem repV_cut {a a' : AV} {y : Value} (h : Cut a a') (hr : RepV E s W a y) : RepV E s W a' y := by
  cases h with
  | junk => trivial
  | same => exact hr
  | fn f hl hm => exact rep1_cut (s := s) (.fn f hl hm) hr
  | agg hl => exact rep2_cut (.agg hl) hr
  | tup hl =>
    obtain ⟨vs, h1, h2⟩ := hr
    exact ⟨vs, h1, cuts_all2 (fun _ _ _ => rep2_cut) hl h2⟩
  | still _ => exact hr.elim
theorem cuts_get : ∀ {l l' : List AV}, Cuts l l' → l'.length = l.length ∧ ∀ (i : Nat) (a' : AV), l'[i]? = some a' → ∃ a, l[i]? = some a ∧ Cut a a'
  | _, _, .nil => ⟨rfl, fun i a' h => by simp at h⟩
  | _, _, .cons h1 h2 => by
    obtain ⟨k1, k2⟩ := cuts_get h2
    refine ⟨by simp [k1], fun i a' h => ?_⟩
    cases i with
    | zero =>
      simp only [List.getElem?_cons_zero, Option.some.injEq] at h
      subst h
      exact ⟨_, rfl, h1⟩
    | succ i => exact k2 i a' (by simpa using h)
theorem box_cut {j : Nat} {cs cs' : List AV} (h : Cuts cs cs') (hb : Box E W j cs) : Box E W j cs' := by
  obtain ⟨g, ty, cells, h1, h2, h3, h4, h5⟩ := hb
  obtain ⟨k1, k2⟩ := cuts_get h
  refine ⟨g, ty, cells, h1, h2, h3, by rw [k1]; exact h4, fun c a' y ha hy => ?_⟩
  obtain ⟨a, g1, g2⟩ := k2 c a' ha
  exact repC_cut g2 (h5 c a y g1 hy)
def isSl : Pt → Bool
  | .sl _ _ => true
  | _ => false
def Env.frz (E : Env) (pb : List (List Pt)) (pw : Nat → Nat → Bool) : Env := E.ren fun
  | .cell j c => if isSl ((pb.getD j []).getD c .junk) then .free else .cell j c
  | .way k c => if pw k c then .free else .way k c
  | o => o
theorem frz_free {pb : List (List Pt)} {pw : Nat → Nat → Bool} {k : Nat} (h : E.own k = .free) : (E.frz pb pw).own k = .free := by
  unfold Env.frz Env.ren
  simp only [h]
theorem frz_repS {pb : List (List Pt)} {pw : Nat → Nat → Bool} {a : AV} {y : Value} (h : RepS E W a y) : RepS (E.frz pb pw) W a y := by
  cases a with
  | sl m e t xs =>
    cases m with
    | none => obtain ⟨A, c, h1, h2, h3⟩ := h; exact ⟨A, c, h1, h2, F_mono h3 fun k hk => frz_free hk⟩
    | some q => exact h.elim
  | _ => exact h
theorem read_own {o : Owner → Prop} {t : Ty} {e : Nat} {xs : List t.den} {y : Value} (h : t.kd.R e W 0 (fun k => o (E.own k)) y xs) (hf : ∀ k, o (E.own k) → E'.own k = .free) : RepS E' W (.sl none e t xs) y := by
  obtain ⟨A, c, h1, h2, _⟩ := R_reads h
  subst h1
  exact ⟨A, c, rfl, h2, F_mono (R_F h) hf⟩
theorem frz_repC {pb : List (List Pt)} {pw : Nat → Nat → Bool} {j c : Nat} {p : Pt} (hp : (pb.getD j []).getD c .junk = p) {a : AV} {y : Value} (h : RepC E W (.cell j c) a y) : RepC (E.frz pb pw) W (.cell j c) (p.frz1 a) y := by
  cases a with
  | own e t xs =>
    have key : ∀ k, E.own k = .cell j c → (E.frz pb pw).own k = if isSl p then .free else .cell j c := fun k hk => by
      unfold Env.frz Env.ren
      simp only [hk, hp]
    by_cases hs : isSl p = true
    · have e0 : p.frz1 (.own e t xs) = .sl none e t xs := by cases p <;> first | rfl | cases hs
      rw [e0]
      exact read_own (o := fun x => x = .cell j c) h fun k hk => by rw [key k hk, if_pos hs]
    · have e0 : p.frz1 (.own e t xs) = .own e t xs := by cases p <;> first | rfl | exact absurd rfl hs
      rw [e0]
      exact R_mono h fun k hk => by rw [key k hk, if_neg hs]
  | junk => have e0 : p.frz1 .junk = .junk := by cases p <;> rfl
            rw [e0]; trivial
  | v x => have e0 : p.frz1 (.v x) = .v x := by cases p <;> rfl
           rw [e0]; exact h
  | sl m e t xs => have e0 : p.frz1 (.sl m e t xs) = .sl m e t xs := by cases p <;> rfl
                   rw [e0]; exact frz_repS (a := .sl m e t xs) h
  | ptr j' off => have e0 : p.frz1 (.ptr j' off) = .ptr j' off := by cases p <;> rfl
                  rw [e0]; exact frz_repS (W := W) (a := .ptr j' off) h
  | same a => have e0 : p.frz1 (.same a) = .same a := by cases p <;> rfl
              rw [e0]; exact ⟨frz_repS h.1, h.2⟩
  | _ => exact h.elim
theorem frzL_get : ∀ (ps : List Pt) (l : List AV), (Pt.frzL ps l).length = l.length ∧ ∀ (i : Nat) (a : AV), (Pt.frzL ps l)[i]? = some a → ∃ b, l[i]? = some b ∧ a = (ps.getD i .junk).frz1 b
  | [], l => ⟨by simp [Pt.frzL], fun i a h => ⟨a, by simpa [Pt.frzL] using h, by cases i <;> rfl⟩⟩
  | p :: ps, [] => ⟨by simp [Pt.frzL], fun i a h => by simp [Pt.frzL] at h⟩
  | p :: ps, x :: l => by
    obtain ⟨h1, h2⟩ := frzL_get ps l
    refine ⟨by simp [Pt.frzL, h1], fun i a h => ?_⟩
    cases i with
    | zero =>
      obtain rfl : p.frz1 x = a := by simpa [Pt.frzL] using h
      exact ⟨x, rfl, rfl⟩
    | succ i => exact h2 i a (by simpa [Pt.frzL] using h)
theorem frzB_get : ∀ (ps : List (List Pt)) (l : List (List AV)), (Pt.frzB ps l).length = l.length ∧ ∀ (i : Nat) (a : List AV), (Pt.frzB ps l)[i]? = some a → ∃ b, l[i]? = some b ∧ a = Pt.frzL (ps.getD i []) b
  | [], l => ⟨by simp [Pt.frzB], fun i a h => ⟨a, by simpa [Pt.frzB] using h, by cases i <;> simp [Pt.frzL]⟩⟩
  | p :: ps, [] => ⟨by simp [Pt.frzB], fun i a h => by simp [Pt.frzB] at h⟩
  | p :: ps, x :: l => by
    obtain ⟨h1, h2⟩ := frzB_get ps l
    refine ⟨by simp [Pt.frzB, h1], fun i a h => ?_⟩
    cases i with
    | zero =>
      obtain rfl : Pt.frzL p x = a := by simpa [Pt.frzB] using h
      exact ⟨x, rfl, rfl⟩
    | succ i => exact h2 i a (by simpa [Pt.frzB] using h)
theorem frz_box {pb : List (List Pt)} {pw : Nat → Nat → Bool} {j : Nat} {cs : List AV} (h : Box E W j cs) : Box (E.frz pb pw) W j (Pt.frzL (pb.getD j []) cs) := by
  obtain ⟨g, ty, cells, h1, h2, h3, h4, h5⟩ := h
  obtain ⟨k1, k2⟩ := frzL_get (pb.getD j []) cs
  refine ⟨g, ty, cells, h1, ?_, h3, by rw [k1]; exact h4, fun c a y ha hy => ?_⟩
  · unfold Env.frz Env.ren
    simp only [h2]
  · obtain ⟨b, g1, rfl⟩ := k2 c a ha
    exact frz_repC rfl (h5 c b y g1 hy)
theorem frz_aft (E : Env) (W : World) (pb : List (List Pt)) (pw : Nat → Nat → Bool) : Aft E W (E.frz pb pw) W :=
  ⟨rfl, rfl, rfl, Nat.le_refl _, fun k _ hf => ⟨by rcases hf with hf | hf <;> (unfold Env.frz Env.ren; simp only [hf]), rfl⟩, ⟨[], by simp [Env.frz, Env.ren]⟩, rfl⟩
end
end Go.Proofs.YtbakkcdanoopgaaGreatDoor.Ev
set_option linter.unusedVariables false
set_option linter.unusedSimpArgs false
namespace Go.Proofs.YtbakkcdanoopgaaGreatDoor.Ev
open Go Go.RowKit Go.Proofs.YtbakkcdanoopgaaGreatDoorW.PrintWords Go.Proofs.YtbakkcdanoopgaaGreatDoorW.PrintMore Kd
def wayP (ps : List Pt) (l : List AV) (k c : Nat) : Bool :=
  match l.getD k .junk, ps.getD k .junk with
  | .agg _, .agg qs => isSl (qs.getD c .junk)
  | .agg _, _ => false
  | _, p => Nat.beq c 0 && isSl p
end Go.Proofs.YtbakkcdanoopgaaGreatDoor.Ev
set_option linter.unusedVariables false
set_option linter.unusedSimpArgs false
namespace Go.Proofs.YtbakkcdanoopgaaGreatDoor.Ev
open Go Go.RowKit Go.Proofs.YtbakkcdanoopgaaGreatDoorW.PrintWords Go.Proofs.YtbakkcdanoopgaaGreatDoorW.PrintMore Kd
section
variable {E E' : Env} {s s' : St} {act : Act} {W W' : World} {pb : List (List Pt)} {pw : Nat → Nat → Bool}
theorem frz_argT {k c : Nat} {p : Pt} (hp : pw k c = isSl p) {a : AV} {y : Value} (h : ArgT E W (fun x => x = .way k c) a y) : ArgT (E.frz pb pw) W (fun x => x = .way k c) (p.frz1 a) y := by
  cases a with
  | own e t xs =>
    have key : ∀ b, E.own b = .way k c → (E.frz pb pw).own b = if isSl p then .free else .way k c := fun b hb => by
      unfold Env.frz Env.ren
      simp only [hb, hp]
    by_cases hs : isSl p = true
    · have e0 : p.frz1 (.own e t xs) = .sl none e t xs := by cases p <;> first | rfl | cases hs
      rw [e0]
      exact read_own (o := fun x => x = .way k c) h fun b hb => by rw [key b hb, if_pos hs]
    · have e0 : p.frz1 (.own e t xs) = .own e t xs := by cases p <;> first | rfl | exact absurd rfl hs
      rw [e0]
      exact R_mono h fun b hb => by rw [key b hb, if_neg hs]
  | junk => have e0 : p.frz1 .junk = .junk := by cases p <;> rfl
            rw [e0]; trivial
  | v x => have e0 : p.frz1 (.v x) = .v x := by cases p <;> rfl
           rw [e0]; exact h
  | sl m e t xs =>
    have e0 : p.frz1 (.sl m e t xs) = .sl m e t xs := by cases p <;> rfl
    rw [e0]
    cases m with
    | none => exact frz_repS (a := .sl none e t xs) h
    | some q => exact h.elim
  | ptr j' off => have e0 : p.frz1 (.ptr j' off) = .ptr j' off := by cases p <;> rfl
                  rw [e0]; exact frz_repS (W := W) (a := .ptr j' off) h
  | fn f l m =>
    have e0 : p.frz1 (.fn f l m) = .fn f l m := by cases p <;> rfl
    rw [e0]
    obtain ⟨fs, cs, h1, h2, h3⟩ := h
    exact ⟨fs, cs, h1, h2.imp fun _ _ _ => frz_repS, h3.imp fun _ _ _ => frz_repS⟩
  | _ => exact h.elim
theorem frz_cells {k : Nat} : ∀ (ps : List Pt) (l : List AV) (m : List Value) (c : Nat), (∀ i, pw k (c + i) = isSl (ps.getD i .junk)) → AllQ (fun c => ArgT E W (fun x => x = .way k c)) c l m → AllQ (fun c => ArgT (E.frz pb pw) W (fun x => x = .way k c)) c (Pt.frzL ps l) m
  | ps, [], [], c, hp, h => by cases ps <;> trivial
  | [], a :: l, y :: m, c, hp, h => by
    refine ⟨?_, ?_⟩
    · have h1 := frz_argT (pb := pb) (p := .junk) (hp 0) h.1
      exact h1
    · have h2 := frz_cells [] l m (c + 1) (fun i => by rw [show c + 1 + i = c + (i + 1) by omega, hp]; rfl) h.2
      simpa [Pt.frzL] using h2
  | p :: ps, a :: l, y :: m, c, hp, h => by
    refine ⟨frz_argT (hp 0) h.1, frz_cells ps l m (c + 1) (fun i => ?_) h.2⟩
    rw [show c + 1 + i = c + (i + 1) by omega, hp]
    rfl
theorem argV_T {k : Nat} {a : AV} {y : Value} (hn : ∀ cs, a ≠ .agg cs) : ArgV E W k a y ↔ ArgT E W (fun x => x = .way k 0) a y := by
  cases a <;> first | exact Iff.rfl | exact absurd rfl (hn _)
theorem frz1_agg {p : Pt} {a : AV} (hn : ∀ cs, a ≠ .agg cs) : ∀ cs, p.frz1 a ≠ .agg cs := by
  intro cs
  cases a <;> cases p <;> simp [Pt.frz1] <;> exact fun h => hn _ rfl
theorem frz_argV {k : Nat} {p : Pt} {a : AV} {y : Value} (hp : ∀ c, pw k c = match a, p with
    | .agg _, .agg qs => isSl (qs.getD c .junk)
    | .agg _, _ => false
    | _, p => Nat.beq c 0 && isSl p) (h : ArgV E W k a y) : ArgV (E.frz pb pw) W k (p.frz a) y := by
  by_cases hc : ∃ cs, a = .agg cs
  · obtain ⟨cs, rfl⟩ := hc
    obtain ⟨vs, h1, h2⟩ := h
    by_cases hq : ∃ qs, p = .agg qs
    · obtain ⟨qs, rfl⟩ := hq
      exact ⟨vs, h1, frz_cells qs cs vs.toList 0 (fun i => by rw [Nat.zero_add, hp]) h2⟩
    · have e0 : p.frz (.agg cs) = .agg cs := by cases p <;> first | rfl | exact absurd ⟨_, rfl⟩ hq
      rw [e0]
      refine ⟨vs, h1, ?_⟩
      have h3 := frz_cells (pb := pb) (pw := pw) (k := k) [] cs vs.toList 0 (fun i => by
        rw [Nat.zero_add, hp]
        cases p <;> first | rfl | exact absurd ⟨_, rfl⟩ hq) h2
      cases cs <;> simpa [Pt.frzL] using h3
  · have hn : ∀ cs, a ≠ .agg cs := fun cs he => hc ⟨cs, he⟩
    have e0 : p.frz a = p.frz1 a := by cases p <;> cases a <;> first | rfl | exact absurd ⟨_, rfl⟩ hc
    rw [e0, argV_T (frz1_agg hn)]
    rw [argV_T hn] at h
    refine frz_argT ?_ h
    rw [hp]
    cases a <;> first | rfl | exact absurd ⟨_, rfl⟩ hc
theorem frz_args : ∀ (ps : List Pt) (l : List AV) (m : List Value) (k : Nat), (∀ i c, pw (k + i) c = wayP ps l i c) → AllQ (ArgV E W) k l m → AllQ (ArgV (E.frz pb pw) W) k (Pt.frzs ps l) m
  | ps, [], [], k, hp, h => by cases ps <;> trivial
  | [], a :: l, y :: m, k, hp, h => by
    have h1 := frz_argV (pb := pb) (pw := pw) (k := k) (p := .junk) (a := a) (fun c => by
      have h0 := hp 0 c
      rw [Nat.add_zero] at h0
      rw [h0]
      unfold wayP
      simp only [List.getD_cons_zero, List.getD_nil]) h.1
    have e0 : Pt.junk.frz a = a := by cases a <;> rfl
    rw [e0] at h1
    have h2 := frz_args [] l m (k + 1) (fun i c => by
      rw [show k + 1 + i = k + (i + 1) by omega, hp]
      unfold wayP
      simp only [List.getD_cons_succ, List.getD_nil]) h.2
    exact ⟨h1, by simpa [Pt.frzs] using h2⟩
  | p :: ps, a :: l, y :: m, k, hp, h => by
    refine ⟨frz_argV (fun c => ?_) h.1, frz_args ps l m (k + 1) (fun i c => ?_) h.2⟩
    · have h0 := hp 0 c
      rw [Nat.add_zero] at h0
      rw [h0]
      unfold wayP
      simp only [List.getD_cons_zero]
    · rw [show k + 1 + i = k + (i + 1) by omega, hp]
      unfold wayP
      simp only [List.getD_cons_succ]
end
end Go.Proofs.YtbakkcdanoopgaaGreatDoor.Ev
set_option linter.unusedVariables false
set_option linter.unusedSimpArgs false
namespace Go.Proofs.YtbakkcdanoopgaaGreatDoor.Ev
open Go Go.RowKit Go.Proofs.YtbakkcdanoopgaaGreatDoorW.PrintWords Go.Proofs.YtbakkcdanoopgaaGreatDoorW.PrintMore Kd
def toWays (k : Nat) : Owner → Owner
  | .hand p _ => .way k p
  | o => o
theorem toWays_only (k : Nat) : OnlyHands (toWays k) := fun o h => by
  cases o <;> first | rfl | exact absurd rfl (h _ _)
def Ways (E E' : Env) : Prop := ∀ b k c, E.own b = .way k c → E'.own b = .way k c
theorem way_ne (k c : Nat) (q : Root) : Owner.way k c ≠ q.owner := by cases q <;> simp [Root.owner]
end Go.Proofs.YtbakkcdanoopgaaGreatDoor.Ev
set_option linter.unusedVariables false
set_option linter.unusedSimpArgs false
namespace Go.Proofs.YtbakkcdanoopgaaGreatDoor.Ev
open Go Go.RowKit Go.Proofs.YtbakkcdanoopgaaGreatDoorW.PrintWords Go.Proofs.YtbakkcdanoopgaaGreatDoorW.PrintMore Kd
section
variable {E E' : Env} {s s' : St} {act : Act} {W W' : World}
theorem argT_of_T {O : Owner → Prop} {a : AV} {y : Value} (h : RepT E W O a y) : ArgT E W O a y := by
  cases a with
  | sl m e t xs => cases m <;> first | exact h | exact h.elim
  | _ => first | exact h | exact h.elim
theorem later_argT (h : Later E E') {O : Owner → Prop} (hO : ∀ b, O (E.own b) → O (E'.own b)) {a : AV} {y : Value} (hr : ArgT E W O a y) : ArgT E' W O a y := by
  cases a with
  | own e t xs => exact R_mono hr fun b hb => hO b hb
  | fn f l m => obtain ⟨fs, cs, h1, h2, h3⟩ := hr; exact ⟨fs, cs, h1, h2.imp fun _ _ _ => h.repS, h3.imp fun _ _ _ => h.repS⟩
  | v x => exact hr
  | sl m e t xs =>
    cases m with
    | none => exact h.repS (a := .sl none e t xs) hr
    | some q => exact hr.elim
  | ptr j off => exact h.repS (W := W) (a := .ptr j off) hr
  | junk => trivial
  | _ => exact hr.elim
theorem allQ_imp {R R' : Nat → AV → Value → Prop} (h : ∀ p a y, R p a y → R' p a y) : ∀ {l : List AV} {m : List Value} {p : Nat}, AllQ R p l m → AllQ R' p l m
  | [], [], _, _ => trivial
  | a :: l, y :: m, p, hr => ⟨h _ _ _ hr.1, allQ_imp h hr.2⟩
theorem later_argV (h : Later E E') (hw : Ways E E') {k : Nat} {a : AV} {y : Value} (hr : ArgV E W k a y) : ArgV E' W k a y := by
  by_cases hc : ∃ cs, a = .agg cs
  · obtain ⟨cs, rfl⟩ := hc
    obtain ⟨vs, h1, h2⟩ := hr
    exact ⟨vs, h1, allQ_imp (fun p a y hh => later_argT h (fun b hb => hw b k p hb) hh) h2⟩
  · have hn : ∀ cs, a ≠ .agg cs := fun cs he => hc ⟨cs, he⟩
    rw [argV_T hn] at hr ⊢
    exact later_argT h (fun b hb => hw b k 0 hb) hr
theorem allQ_of_T {k : Nat} {f : Owner → Owner} (hO : OnlyHands f) (hf : ∀ p b, f (.hand p b) = .way k p) : ∀ {l : List AV} {m : List Value} {p : Nat}, AllT E W Hand p l m → AllQ (fun c => ArgT (E.ren f) W (fun x => x = .way k c)) p l m
  | [], [], _, _ => trivial
  | a :: l, y :: m, p, h => ⟨argT_of_T (ren_repT hO (fun x ⟨b, hx⟩ => by rw [hx]; exact hf p b) h.1), allQ_of_T hO hf h.2⟩
theorem ren_later {f : Owner → Owner} (hO : OnlyHands f) (E : Env) : Later E (E.ren f) := ⟨rfl, rfl, fun k hk => by
  show f (E.own k) = .free
  rw [hk]
  exact hO _ (by simp), fun k hk => by
  show f (E.own k) = .hid
  rw [hk]
  exact hO _ (by simp), rfl⟩
theorem ren_ways {f : Owner → Owner} (hO : OnlyHands f) (E : Env) : Ways E (E.ren f) := fun b k c hb => by
  show f (E.own b) = _
  rw [hb]
  exact hO _ (by simp)
theorem pass_ways {P : Nat → Bool → Prop} (h : Pass P E E') : Ways E E' := fun b k c hb => h.keep hb (way_ne k c)
theorem Ways.trans {E1 E2 : Env} (h : Ways E E1) (h' : Ways E1 E2) : Ways E E2 := fun b k c hb => h' b k c (h b k c hb)
theorem move1_rep (hR : Rep E s act W) (k : Nat) {E0 : Env} {s0 : St} (hL : Later E0 E) {a a' : AV} {y : Value} (hr : Rep2 E0 s0 W a y) (h : s.move1 a = some (a', s')) :
    ∃ E', Rep E' s' act W ∧ Later E E' ∧ Ways E E' ∧ ArgV E' W k a' y := by
  have hO := toWays_only k
  by_cases hc : ∃ cs, a = .agg cs
  · obtain ⟨cs, rfl⟩ := hc
    obtain ⟨vs, hy, hv⟩ := hr
    simp only [St.move1] at h
    split at h
    · rename_i cs' s1 ht
      obtain ⟨rfl, rfl⟩ : AV.agg cs' = a' ∧ s1 = s' := by simpa using h
      obtain ⟨E1, R1, P1, A1⟩ := takes_rep cs 0 E0 s0 hR hL hv ht
      exact ⟨E1.ren (toWays k), ren_rep hO R1, P1.later.trans (ren_later hO E1), (pass_ways P1).trans (ren_ways hO E1), vs, hy, allQ_of_T hO (fun _ _ => rfl) A1⟩
    · cases h
  · have hn : ∀ cs, a ≠ .agg cs := fun cs he => hc ⟨cs, he⟩
    have h' : s.take1 a = some (a', s') := by cases a <;> first | exact h | exact absurd ⟨_, rfl⟩ hc
    obtain ⟨E1, R1, P1, A1⟩ := take1_rep hR 0 (later_rep hL (rep1_of_rep2 hr hn) ⟨_, h'⟩) h'
    have hT : ArgT (E1.ren (toWays k)) W (fun x => x = .way k 0) a' y := argT_of_T (ren_repT hO (fun x ⟨b, hx⟩ => by rw [hx]; rfl) A1)
    refine ⟨E1.ren (toWays k), ren_rep hO R1, P1.later.trans (ren_later hO E1), (pass_ways P1).trans (ren_ways hO E1), ?_⟩
    have hn' : ∀ cs, a' ≠ .agg cs := fun cs he => by rw [he] at A1; exact A1.elim
    rw [argV_T hn']
    exact hT
theorem moves_rep : ∀ (l : List AV) (k : Nat) {l' : List AV} {m : List Value} {E : Env} {s s' : St} (E0 : Env) (s0 : St), Rep E s act W → Later E0 E → All2 (Rep2 E0 s0 W) l m → s.moves l = some (l', s') →
    ∃ E', Rep E' s' act W ∧ Later E E' ∧ Ways E E' ∧ AllQ (ArgV E' W) k l' m
  | [], k, l', [], E, s, s', E0, s0, hR, hL, hr, h => by
    obtain ⟨rfl, rfl⟩ : [] = l' ∧ s = s' := by simpa [St.moves] using h
    exact ⟨E, hR, Later.refl _, fun _ _ _ h => h, trivial⟩
  | a :: l, k, l', y :: m, E, s, s', E0, s0, hR, hL, hr, h => by
    simp only [St.moves] at h
    split at h
    · rename_i a' s1 h1
      split at h
      · rename_i r' s2 h2
        obtain ⟨rfl, rfl⟩ : a' :: r' = l' ∧ s2 = s' := by simpa using h
        obtain ⟨E1, g1, g2, g3, g4⟩ := move1_rep hR k hL hr.1 h1
        obtain ⟨E2, k1, k2, k3, k4⟩ := moves_rep l (k + 1) E0 s0 g1 (hL.trans g2) hr.2 h2
        exact ⟨E2, k1, g2.trans k2, g3.trans k3, later_argV k2 k3 g4, k4⟩
      · cases h
    · cases h
theorem land_one (hR : Rep E s act W) {d k c e : Nat} {ty : Ty} {xs : List ty.den} {v : Value} (hj : s.toks d = .junk) (hv : ty.kd.R e W 0 (fun b => E.own b = .way k c) v xs) :
    Rep ⟨fun b => if E.own b = .way k c then .tok d else E.own b, E.adr, fun n => if n = d then v else E.rv n, E.kv⟩ { s with toks := tokSet s.toks d (.own e ty xs) } act W ∧
    Rep1 ⟨fun b => if E.own b = .way k c then .tok d else E.own b, E.adr, fun n => if n = d then v else E.rv n, E.kv⟩ { s with toks := tokSet s.toks d (.own e ty xs) } W (.rt (.tok d)) v ∧
    ∀ a y, Rep1 E s W a y → Rep1 ⟨fun b => if E.own b = .way k c then .tok d else E.own b, E.adr, fun n => if n = d then v else E.rv n, E.kv⟩ { s with toks := tokSet s.toks d (.own e ty xs) } W a y := by
  have hm : Move (fun x => x = .way k c) E W ⟨fun b => if E.own b = .way k c then .tok d else E.own b, E.adr, fun n => if n = d then v else E.rv n, E.kv⟩ W :=
    ⟨fun b _ hn => ⟨if_neg hn, rfl⟩, ⟨[], by simp⟩, rfl⟩
  obtain ⟨h1, h2⟩ := fresh_rep (E' := ⟨fun b => if E.own b = .way k c then .tok d else E.own b, E.adr, fun n => if n = d then v else E.rv n, E.kv⟩) hR (a := .own e ty xs) hj (by simp) hm (by simp) (fun q h => way_ne k c q h.symm) (by simp) (fun n hn => if_neg hn) rfl (by
    show ty.kd.R e W 0 (fun b => (if E.own b = .way k c then Owner.tok d else E.own b) = .tok d) (if d = d then v else E.rv d) xs
    rw [if_pos rfl]
    exact R_mono hv fun b hb => if_pos hb) (fun b hb => (by
    show (if E.own b = .way k c then Owner.tok d else E.own b) = .free
    rw [hR.new b hb, if_neg (by simp)]))
  have hrv : (⟨fun b => if E.own b = .way k c then .tok d else E.own b, E.adr, fun n => if n = d then v else E.rv n, E.kv⟩ : Env).rv d = v := if_pos rfl
  rw [hrv] at h2
  refine ⟨h1, h2, fun a y ha => hm.rep1 (by simp) (fun q _ => ⟨fun h => way_ne k c q h.symm, fun y hy => ?_⟩) ha⟩
  cases q with
  | tok n =>
    have hn : n ≠ d := fun h => hy.2 (by rw [h]; exact hj)
    have e0 : (⟨s.tmps, tokSet s.toks d (.own e ty xs), s.boxes⟩ : St).toks n = s.toks n := tokSet_ne _ _ hn
    refine ⟨⟨?_, by rw [e0]; exact hy.2⟩, fun _ _ _ h => e0.trans h⟩
    show y = (if n = d then v else E.rv n)
    rw [if_neg hn]
    exact hy.1
  | cell j c' => exact ⟨hy, fun _ _ _ h => h⟩
structure Landed (E E' : Env) : Prop where
  adr : E'.adr = E.adr
  kv : E'.kv = E.kv
  own : ∀ b, E'.own b = E.own b ∨ ∃ k c d, E.own b = .way k c ∧ E'.own b = .tok d
theorem Landed.refl (E : Env) : Landed E E := ⟨rfl, rfl, fun _ => .inl rfl⟩
theorem Landed.trans {E1 E2 : Env} (h : Landed E E1) (h' : Landed E1 E2) : Landed E E2 := ⟨h'.adr.trans h.adr, h'.kv.trans h.kv, fun b => by
  rcases h'.own b with h1 | ⟨k, c, d, h1, h2⟩
  · rw [h1]; exact h.own b
  · rcases h.own b with h3 | ⟨k', c', d', h3, h4⟩
    · exact .inr ⟨k, c, d, h3 ▸ h1, h2⟩
    · rw [h4] at h1; cases h1⟩
theorem Landed.repS (h : Landed E E') {a : AV} {y : Value} (hr : RepS E W a y) : RepS E' W a y := by
  cases a with
  | sl m e t xs =>
    cases m with
    | none =>
      obtain ⟨A, c, h1, h2, h3⟩ := hr
      refine ⟨A, c, h1, h2, F_mono h3 fun b hb => ?_⟩
      rcases h.own b with h4 | ⟨k, c, d, h4, _⟩
      · exact h4.trans hb
      · rw [hb] at h4; cases h4
    | some q => exact hr.elim
  | ptr j off => obtain ⟨g, h1, h2⟩ := hr; exact ⟨g, by rw [h.adr]; exact h1, h2⟩
  | _ => exact hr
theorem landed_argT (h : Landed E E') {O : Owner → Prop} (hO : ∀ b, O (E.own b) → O (E'.own b)) {a : AV} {y : Value} (hr : ArgT E W O a y) : ArgT E' W O a y := by
  cases a with
  | own e t xs => exact R_mono hr fun b hb => hO b hb
  | fn f l m => obtain ⟨fs, cs, h1, h2, h3⟩ := hr; exact ⟨fs, cs, h1, h2.imp fun _ _ _ => h.repS, h3.imp fun _ _ _ => h.repS⟩
  | v x => exact hr
  | sl m e t xs =>
    cases m with
    | none => exact h.repS (a := .sl none e t xs) hr
    | some q => exact hr.elim
  | ptr j off => exact h.repS (W := W) (a := .ptr j off) hr
  | junk => trivial
  | _ => exact hr.elim
structure LandK (k c0 : Nat) (E E' : Env) : Prop extends Landed E E' where
  keep : ∀ b k' c', (k' ≠ k ∨ c' < c0) → E.own b = .way k' c' → E'.own b = .way k' c'
theorem argT_rep1 {O : Owner → Prop} {a : AV} {y : Value} (hn : ∀ e t xs, a ≠ .own e t xs) (h : ArgT E W O a y) : Rep1 E s W a y := by
  cases a with
  | own e t xs => exact absurd rfl (hn _ _ _)
  | sl m e t xs => cases m <;> first | exact h | exact h.elim
  | _ => first | exact h | exact h.elim
theorem settleL_rep (lim k : Nat) : ∀ (l : List AV) (c d : Nat) {l' : List AV} {m : List Value} {E : Env} {s s' : St}, Rep E s act W → AllQ (fun c => ArgT E W (fun x => x = .way k c)) c l m → s.settleL lim l d = some (l', s') →
    ∃ E', Rep E' s' act W ∧ LandK k c E E' ∧ All2 (Rep1 E' s' W) l' m ∧ (∀ a y, Rep1 E s W a y → Rep1 E' s' W a y) ∧ s'.tmps = s.tmps ∧ s'.boxes = s.boxes
  | [], c, d, l', [], E, s, s', hR, hr, h => by
    obtain ⟨rfl, rfl⟩ : [] = l' ∧ s = s' := by simpa [St.settleL] using h
    exact ⟨E, hR, ⟨Landed.refl E, fun _ _ _ _ h => h⟩, trivial, fun _ _ h => h, rfl, rfl⟩
  | a :: l, c, d, l', y :: m, E, s, s', hR, hr, h => by
    by_cases ho : ∃ e t xs, a = .own e t xs
    · obtain ⟨e, t, xs, rfl⟩ := ho
      simp only [St.settleL] at h
      split at h
      · split at h
        · rename_i hj
          split at h
          · rename_i r' s1 h1
            obtain ⟨rfl, rfl⟩ : AV.rt (.tok d) :: r' = l' ∧ s1 = s' := by simpa using h
            obtain ⟨g1, g2, g3⟩ := land_one hR hj (k := k) (c := c) (v := y) hr.1
            have hland : Landed E ⟨fun b => if E.own b = .way k c then .tok d else E.own b, E.adr, fun n => if n = d then y else E.rv n, E.kv⟩ := ⟨rfl, rfl, fun b => by
              by_cases hb : E.own b = .way k c
              · exact .inr ⟨k, c, d, hb, if_pos hb⟩
              · exact .inl (if_neg hb)⟩
            have hkeep : ∀ b k' c', (k' ≠ k ∨ c' ≠ c) → E.own b = .way k' c' → (if E.own b = .way k c then Owner.tok d else E.own b) = .way k' c' := fun b k' c' hh hb => by
              rw [hb, if_neg]
              intro he
              injection he with h1 h2
              rcases hh with hh | hh
              · exact hh h1
              · exact hh h2
            have hrest : AllQ (fun c => ArgT ⟨fun b => if E.own b = .way k c then .tok d else E.own b, E.adr, fun n => if n = d then y else E.rv n, E.kv⟩ W (fun x => x = .way k c)) (c + 1) l m → True := fun _ => trivial
            have hr2 : AllQ (fun c' => ArgT ⟨fun b => if E.own b = .way k c then .tok d else E.own b, E.adr, fun n => if n = d then y else E.rv n, E.kv⟩ W (fun x => x = .way k c')) (c + 1) l m := by
              have key : ∀ (l : List AV) (m : List Value) (p : Nat), c < p → AllQ (fun c => ArgT E W (fun x => x = .way k c)) p l m → AllQ (fun c' => ArgT ⟨fun b => if E.own b = .way k c then .tok d else E.own b, E.adr, fun n => if n = d then y else E.rv n, E.kv⟩ W (fun x => x = .way k c')) p l m := by
                intro l
                induction l with
                | nil => intro m p _ h; cases m <;> exact h
                | cons a l ih =>
                  intro m p hp h
                  cases m with
                  | nil => exact h
                  | cons y m => exact ⟨landed_argT hland (fun b hb => hkeep b k p (.inr (by omega)) hb) h.1, ih m (p + 1) (by omega) h.2⟩
              exact key l m (c + 1) (by omega) hr.2
            obtain ⟨E2, k1, k2, k3, k4, k5, k6⟩ := settleL_rep lim k l (c + 1) (d + 1000) g1 hr2 h1
            exact ⟨E2, k1, ⟨hland.trans k2.toLanded, fun b k' c' hh hb => k2.keep b k' c' (hh.imp id fun h => by omega) (hkeep b k' c' (hh.imp id fun h => by omega) hb)⟩, ⟨k4 _ _ g2, k3⟩, fun a y h => k4 _ _ (g3 a y h), k5, k6⟩
          · cases h
        · cases h
      · cases h
    · have hn : ∀ e t xs, a ≠ .own e t xs := fun e t xs he => ho ⟨e, t, xs, he⟩
      have h' : (match St.settleL lim s l (d + 1000) with | some (r', s1) => some (a :: r', s1) | none => none) = some (l', s') := by
        cases a <;> first | exact h | exact absurd rfl (hn _ _ _)
      split at h'
      · rename_i r' s1 h1
        obtain ⟨rfl, rfl⟩ : a :: r' = l' ∧ s1 = s' := by simpa using h'
        obtain ⟨E2, k1, k2, k3, k4, k5, k6⟩ := settleL_rep lim k l (c + 1) (d + 1000) hR hr.2 h1
        exact ⟨E2, k1, ⟨k2.toLanded, fun b k' c' hh hb => k2.keep b k' c' (hh.imp id fun h => by omega) hb⟩, ⟨k4 _ _ (argT_rep1 hn hr.1), k3⟩, k4, k5, k6⟩
      · cases h'
theorem rep2_keep (h : ∀ a y, Rep1 E s W a y → Rep1 E' s' W a y) {a : AV} {y : Value} (hr : Rep2 E s W a y) : Rep2 E' s' W a y := by
  have := lift2_rep (φ := id) h hr
  rw [lift2_id (f := id) (fun _ => rfl)] at this
  exact this
theorem repV_keep (h : ∀ a y, Rep1 E s W a y → Rep1 E' s' W a y) {a : AV} {y : Value} (hr : RepV E s W a y) : RepV E' s' W a y := by
  have := lift_rep (φ := id) h hr
  rw [lift_id (f := id) (fun _ => rfl)] at this
  exact this
theorem rep2_of_rep1 {a : AV} {y : Value} (h : Rep1 E s W a y) : Rep2 E s W a y := by
  cases a <;> first | exact h | exact h.elim
theorem settle1_rep (lim k d : Nat) (hR : Rep E s act W) {a a' : AV} {y : Value} (hr : ArgV E W k a y) (h : s.settle1 lim d a = some (a', s')) :
    ∃ E', Rep E' s' act W ∧ LandK k 0 E E' ∧ Rep2 E' s' W a' y ∧ (∀ a y, Rep1 E s W a y → Rep1 E' s' W a y) ∧ s'.tmps = s.tmps ∧ s'.boxes = s.boxes := by
  by_cases hc : ∃ cs, a = .agg cs
  · obtain ⟨cs, rfl⟩ := hc
    obtain ⟨vs, hy, hv⟩ := hr
    simp only [St.settle1] at h
    split at h
    · rename_i cs' s1 h1
      obtain ⟨rfl, rfl⟩ : AV.agg cs' = a' ∧ s1 = s' := by simpa using h
      obtain ⟨E2, k1, k2, k3, k4, k5, k6⟩ := settleL_rep lim k cs 0 d hR hv h1
      exact ⟨E2, k1, k2, ⟨vs, hy, k3⟩, k4, k5, k6⟩
    · cases h
  · have hn : ∀ cs, a ≠ .agg cs := fun cs he => hc ⟨cs, he⟩
    rw [argV_T hn] at hr
    have h' : (match s.settleL lim [a] d with | some ([a'], s1) => some (a', s1) | _ => none) = some (a', s') := by
      cases a <;> first | exact h | exact absurd rfl (hn _)
    split at h'
    · rename_i a2 s1 h1
      obtain ⟨rfl, rfl⟩ : a2 = a' ∧ s1 = s' := by simpa using h'
      obtain ⟨E2, k1, k2, k3, k4, k5, k6⟩ := settleL_rep lim k [a] 0 d (m := [y]) hR ⟨hr, trivial⟩ h1
      exact ⟨E2, k1, k2, rep2_of_rep1 k3.1, k4, k5, k6⟩
    · cases h'
structure LandF (k0 : Nat) (E E' : Env) : Prop extends Landed E E' where
  keep : ∀ b k c, k < k0 → E.own b = .way k c → E'.own b = .way k c
theorem landed_argV (h : Landed E E') {k : Nat} (hw : ∀ b c, E.own b = .way k c → E'.own b = .way k c) {a : AV} {y : Value} (hr : ArgV E W k a y) : ArgV E' W k a y := by
  by_cases hc : ∃ cs, a = .agg cs
  · obtain ⟨cs, rfl⟩ := hc
    obtain ⟨vs, h1, h2⟩ := hr
    exact ⟨vs, h1, allQ_imp (fun p a y hh => landed_argT h (fun b hb => hw b p hb) hh) h2⟩
  · have hn : ∀ cs, a ≠ .agg cs := fun cs he => hc ⟨cs, he⟩
    rw [argV_T hn] at hr ⊢
    exact landed_argT h (fun b hb => hw b 0 hb) hr
theorem landed_all (h : Landed E E') : ∀ {l : List AV} {m : List Value} {k : Nat}, (∀ b k' c, k ≤ k' → E.own b = .way k' c → E'.own b = .way k' c) → AllQ (ArgV E W) k l m → AllQ (ArgV E' W) k l m
  | [], [], _, _, _ => trivial
  | a :: l, y :: m, k, hw, hr => ⟨landed_argV h (fun b c => hw b k c (Nat.le_refl _)) hr.1, landed_all h (fun b k' c hk => hw b k' c (by omega)) hr.2⟩
theorem settles_rep (lim : Nat) : ∀ (l : List AV) (k d : Nat) {l' : List AV} {m : List Value} {E : Env} {s s' : St}, Rep E s act W → AllQ (ArgV E W) k l m → s.settles lim d l = some (l', s') →
    ∃ E', Rep E' s' act W ∧ LandF k E E' ∧ All2 (Rep2 E' s' W) l' m ∧ (∀ a y, Rep1 E s W a y → Rep1 E' s' W a y) ∧ s'.tmps = s.tmps ∧ s'.boxes = s.boxes
  | [], k, d, l', [], E, s, s', hR, hr, h => by
    obtain ⟨rfl, rfl⟩ : [] = l' ∧ s = s' := by simpa [St.settles] using h
    exact ⟨E, hR, ⟨Landed.refl E, fun _ _ _ _ h => h⟩, trivial, fun _ _ h => h, rfl, rfl⟩
  | a :: l, k, d, l', y :: m, E, s, s', hR, hr, h => by
    simp only [St.settles] at h
    split at h
    · rename_i a' s1 h1
      split at h
      · rename_i r' s2 h2
        obtain ⟨rfl, rfl⟩ : a' :: r' = l' ∧ s2 = s' := by simpa using h
        obtain ⟨E1, g1, g2, g3, g4, g5, g6⟩ := settle1_rep lim k d hR hr.1 h1
        obtain ⟨E2, k1, k2, k3, k4, k5, k6⟩ := settles_rep lim l (k + 1) (d + 100000) g1 (landed_all g2.toLanded (fun b k' c hk hb => g2.keep b k' c (.inl (by omega)) hb) hr.2) h2
        exact ⟨E2, k1, ⟨g2.toLanded.trans k2.toLanded, fun b k' c hk hb => k2.keep b k' c (by omega) (g2.keep b k' c (.inl (by omega)) hb)⟩, ⟨rep2_keep k4 g3, k3⟩, fun a y h => k4 _ _ (g4 a y h), k5.trans g5, k6.trans g6⟩
      · cases h
    · cases h
end
end Go.Proofs.YtbakkcdanoopgaaGreatDoor.Ev
set_option linter.unusedVariables false
set_option linter.unusedSimpArgs false
namespace Go.Proofs.YtbakkcdanoopgaaGreatDoor.Ev
open Go Go.RowKit Go.Proofs.YtbakkcdanoopgaaGreatDoorW.PrintWords Go.Proofs.YtbakkcdanoopgaaGreatDoorW.PrintMore Kd
def PtrIn (js : List Nat) : AV → Prop
  | .ptr j _ => j ∈ js
  | _ => True
def PtrIn2 (js : List Nat) : AV → Prop
  | .ptr j _ => j ∈ js
  | .fn _ first caps => (∀ a, a ∈ first → PtrIn js a) ∧ ∀ a, a ∈ caps → PtrIn js a
  | _ => True
def PtrInV (js : List Nat) : AV → Prop
  | .agg cs => ∀ a, a ∈ cs → PtrIn2 js a
  | a => PtrIn2 js a
theorem addNew_mem (l : List Nat) (j : Nat) : j ∈ addNew l j ∧ ∀ i, i ∈ l → i ∈ addNew l j := by
  unfold addNew
  cases h : l.contains j with
  | true => exact ⟨by simpa using h, fun i hi => hi⟩
  | false => exact ⟨by simp, fun i hi => by simp [hi]⟩
theorem addNew_nodup {l : List Nat} (h : l.Nodup) (j : Nat) : (addNew l j).Nodup := by
  unfold addNew
  cases hc : l.contains j with
  | true => exact h
  | false =>
    have hn : j ∉ l := by simpa using hc
    exact List.nodup_append.mpr ⟨h, by simp, fun a ha b hb => by simp at hb; subst hb; exact fun he => hn (he ▸ ha)⟩
theorem PtrIn.mono {js js' : List Nat} (h : ∀ i, i ∈ js → i ∈ js') {a : AV} (ha : PtrIn js a) : PtrIn js' a := by
  cases a <;> first | exact h _ ha | trivial
theorem PtrIn2.mono {js js' : List Nat} (h : ∀ i, i ∈ js → i ∈ js') {a : AV} (ha : PtrIn2 js a) : PtrIn2 js' a := by
  cases a <;> first | exact h _ ha | exact ⟨fun x hx => (ha.1 x hx).mono h, fun x hx => (ha.2 x hx).mono h⟩ | trivial
theorem ptrInV_2 {js : List Nat} {a : AV} (hn : ∀ cs, a ≠ .agg cs) : PtrInV js a ↔ PtrIn2 js a := by
  cases a <;> first | exact Iff.rfl | exact absurd rfl (hn _)
theorem PtrInV.mono {js js' : List Nat} (h : ∀ i, i ∈ js → i ∈ js') {a : AV} (ha : PtrInV js a) : PtrInV js' a := by
  by_cases hc : ∃ cs, a = .agg cs
  · obtain ⟨cs, rfl⟩ := hc
    exact fun x hx => (ha x hx).mono h
  · rw [ptrInV_2 fun cs he => hc ⟨cs, he⟩] at ha ⊢
    exact ha.mono h
theorem ptrs1_spec : ∀ (l : List AV) (acc : List Nat), acc.Nodup → (ptrs1 l acc).Nodup ∧ (∀ i, i ∈ acc → i ∈ ptrs1 l acc) ∧ ∀ a, a ∈ l → PtrIn (ptrs1 l acc) a
  | [], acc, h => ⟨h, fun i hi => hi, fun a ha => by simp at ha⟩
  | x :: l, acc, h => by
    by_cases hp : ∃ j off, x = .ptr j off
    · obtain ⟨j, off, rfl⟩ := hp
      obtain ⟨h1, h2, h3⟩ := ptrs1_spec l (addNew acc j) (addNew_nodup h j)
      refine ⟨h1, fun i hi => h2 i ((addNew_mem acc j).2 i hi), fun a ha => ?_⟩
      rcases List.mem_cons.mp ha with rfl | ha
      · exact h2 j (addNew_mem acc j).1
      · exact h3 a ha
    · have e0 : ptrs1 (x :: l) acc = ptrs1 l acc := by cases x <;> first | rfl | exact absurd ⟨_, _, rfl⟩ hp
      rw [e0]
      obtain ⟨h1, h2, h3⟩ := ptrs1_spec l acc h
      refine ⟨h1, h2, fun a ha => ?_⟩
      rcases List.mem_cons.mp ha with rfl | ha
      · cases a <;> first | trivial | exact absurd ⟨_, _, rfl⟩ hp
      · exact h3 a ha
theorem ptrs2_spec : ∀ (l : List AV) (acc : List Nat), acc.Nodup → (ptrs2 l acc).Nodup ∧ (∀ i, i ∈ acc → i ∈ ptrs2 l acc) ∧ ∀ a, a ∈ l → PtrIn2 (ptrs2 l acc) a
  | [], acc, h => ⟨h, fun i hi => hi, fun a ha => by simp at ha⟩
  | x :: l, acc, h => by
    by_cases hp : ∃ j off, x = .ptr j off
    · obtain ⟨j, off, rfl⟩ := hp
      obtain ⟨h1, h2, h3⟩ := ptrs2_spec l (addNew acc j) (addNew_nodup h j)
      refine ⟨h1, fun i hi => h2 i ((addNew_mem acc j).2 i hi), fun a ha => ?_⟩
      rcases List.mem_cons.mp ha with rfl | ha
      · exact h2 j (addNew_mem acc j).1
      · exact h3 a ha
    · by_cases hf : ∃ f first caps, x = .fn f first caps
      · obtain ⟨f, first, caps, rfl⟩ := hf
        obtain ⟨k1, k2, k3⟩ := ptrs1_spec first acc h
        obtain ⟨m1, m2, m3⟩ := ptrs1_spec caps (ptrs1 first acc) k1
        obtain ⟨h1, h2, h3⟩ := ptrs2_spec l (ptrs1 caps (ptrs1 first acc)) m1
        refine ⟨h1, fun i hi => h2 i (m2 i (k2 i hi)), fun a ha => ?_⟩
        rcases List.mem_cons.mp ha with rfl | ha
        · exact ⟨fun b hb => (k3 b hb).mono fun i hi => h2 i (m2 i hi), fun b hb => (m3 b hb).mono h2⟩
        · exact h3 a ha
      · have e0 : ptrs2 (x :: l) acc = ptrs2 l acc := by cases x <;> first | rfl | exact absurd ⟨_, _, rfl⟩ hp | exact absurd ⟨_, _, _, rfl⟩ hf
        rw [e0]
        obtain ⟨h1, h2, h3⟩ := ptrs2_spec l acc h
        refine ⟨h1, h2, fun a ha => ?_⟩
        rcases List.mem_cons.mp ha with rfl | ha
        · cases a <;> first | trivial | exact absurd ⟨_, _, rfl⟩ hp | exact absurd ⟨_, _, _, rfl⟩ hf
        · exact h3 a ha
theorem ptrs_spec : ∀ (l : List AV) (acc : List Nat), acc.Nodup → (ptrs l acc).Nodup ∧ (∀ i, i ∈ acc → i ∈ ptrs l acc) ∧ ∀ a, a ∈ l → PtrInV (ptrs l acc) a
  | [], acc, h => ⟨h, fun i hi => hi, fun a ha => by simp at ha⟩
  | x :: l, acc, h => by
    by_cases hp : ∃ cs, x = .agg cs
    · obtain ⟨cs, rfl⟩ := hp
      obtain ⟨k1, k2, k3⟩ := ptrs2_spec cs acc h
      obtain ⟨h1, h2, h3⟩ := ptrs_spec l (ptrs2 cs acc) k1
      refine ⟨h1, fun i hi => h2 i (k2 i hi), fun a ha => ?_⟩
      rcases List.mem_cons.mp ha with rfl | ha
      · exact fun b hb => (k3 b hb).mono h2
      · exact h3 a ha
    · have e0 : ptrs (x :: l) acc = ptrs l (ptrs2 [x] acc) := by cases x <;> first | rfl | exact absurd ⟨_, rfl⟩ hp
      rw [e0]
      obtain ⟨k1, k2, k3⟩ := ptrs2_spec [x] acc h
      obtain ⟨h1, h2, h3⟩ := ptrs_spec l (ptrs2 [x] acc) k1
      refine ⟨h1, fun i hi => h2 i (k2 i hi), fun a ha => ?_⟩
      rcases List.mem_cons.mp ha with rfl | ha
      · rw [ptrInV_2 fun cs he => hp ⟨cs, he⟩]
        exact (k3 a (by simp)).mono h2
      · exact h3 a ha
theorem at_spec : ∀ (js : List Nat) (j k : Nat), j ∈ js → ∃ i, at_ js j k = k + i ∧ js[i]? = some j
  | x :: js, j, k, h => by
    unfold at_
    by_cases hx : x = j
    · subst hx
      rw [show Nat.beq x x = true from Nat.beq_refl x]
      exact ⟨0, rfl, rfl⟩
    · rw [beq_false hx]
      have hj : j ∈ js := by
        rcases List.mem_cons.mp h with h | h
        · exact absurd h.symm hx
        · exact h
      obtain ⟨i, h1, h2⟩ := at_spec js j (k + 1) hj
      exact ⟨i + 1, by show at_ js j (k + 1) = _; rw [h1]; omega, by simpa using h2⟩
  | [], j, k, h => by simp at h
structure Kp where
  sm : Nat → Nat → Bool
  kv : Nat → Nat → Value
def Env.callee (E : Env) (js : List Nat) (L : List Root) (K : Kp) : Env := ⟨fun b => match E.own b with
  | .way k c => .way k c
  | .box j => if j ∈ js then .box (at_ js j 0) else .hid
  | .cell j c => if j ∈ js then (if K.sm j c = true then .hid else .cell (at_ js j 0) c) else if Root.cell j c ∈ L then .free else .hid
  | .tok n => if Root.tok n ∈ L then .free else .hid
  | .free => .free
  | _ => .hid, js.map (fun j => E.adr.getD j 0), E.rv, K.kv⟩
end Go.Proofs.YtbakkcdanoopgaaGreatDoor.Ev
set_option linter.unusedVariables false
set_option linter.unusedSimpArgs false
namespace Go.Proofs.YtbakkcdanoopgaaGreatDoor.Ev
open Go Go.RowKit Go.Proofs.YtbakkcdanoopgaaGreatDoorW.PrintWords Go.Proofs.YtbakkcdanoopgaaGreatDoorW.PrintMore Kd
section
variable {E E' : Env} {s s' : St} {act : Act} {W W' : World} {js : List Nat} {L : List Root} {K : Kp}
theorem callee_way {b k c : Nat} (h : E.own b = .way k c) : (E.callee js L K).own b = .way k c := by simp only [Env.callee, h]
theorem callee_free {b : Nat} (h : E.own b = .free) : (E.callee js L K).own b = .free := by simp only [Env.callee, h]
theorem callee_root {b : Nat} {q : Root} (h : E.own b = q.owner) (hq : inJs js q = false) (hL : q ∈ L) : (E.callee js L K).own b = .free := by
  cases q with
  | tok n => simp only [Env.callee, h, Root.owner, if_pos hL]
  | cell j c =>
    have hn : j ∉ js := by
      intro hm
      have : js.contains j = true := by simpa using hm
      have h2 : js.contains j = false := hq
      rw [this] at h2
      cases h2
    simp only [Env.callee, h, Root.owner, if_neg hn, if_pos hL]
theorem callee_adr {j g : Nat} (hj : j ∈ js) (h : E.adr[j]? = some g) : (E.callee js L K).adr[at_ js j 0]? = some g := by
  obtain ⟨i, h1, h2⟩ := at_spec js j 0 hj
  rw [h1, Nat.zero_add]
  show (js.map _)[i]? = _
  rw [List.getElem?_map, h2, Option.map_some, List.getD_eq_getElem?_getD, h]
  rfl
theorem callee_repS {a : AV} {y : Value} (h : RepS E W a y) (hp : PtrIn js a) : RepS (E.callee js L K) W (a.mov1 fun j => at_ js j 0) y := by
  cases a with
  | sl m e t xs =>
    cases m with
    | none => obtain ⟨A, c, h1, h2, h3⟩ := h; exact ⟨A, c, h1, h2, F_mono h3 fun b hb => callee_free hb⟩
    | some q => exact h.elim
  | ptr j off => obtain ⟨g, h1, h2⟩ := h; exact ⟨g, callee_adr hp h1, h2⟩
  | junk => trivial
  | v x => exact h
  | _ => exact h.elim
theorem callee_all {l : List AV} {m : List Value} (h : All2 (RepS E W) l m) (hp : ∀ a, a ∈ l → PtrIn js a) : All2 (RepS (E.callee js L K) W) (mapL (AV.mov1 fun j => at_ js j 0) l) m := by
  induction l generalizing m with
  | nil => cases m <;> exact h
  | cons a l ih =>
    cases m with
    | nil => exact h
    | cons y m => exact ⟨callee_repS h.1 (hp a (by simp)), ih h.2 fun b hb => hp b (by simp [hb])⟩
theorem callee_argT {k c : Nat} {a : AV} {y : Value} (h : ArgT E W (fun x => x = .way k c) a y) (hp : PtrIn2 js a) : ArgT (E.callee js L K) W (fun x => x = .way k c) (a.mov2 fun j => at_ js j 0) y := by
  cases a with
  | own e t xs => exact R_mono h fun b hb => callee_way hb
  | fn f l m => obtain ⟨fs, cs, h1, h2, h3⟩ := h; exact ⟨fs, cs, h1, callee_all h2 hp.1, callee_all h3 hp.2⟩
  | v x => exact h
  | sl m e t xs =>
    cases m with
    | none => exact callee_repS (a := .sl none e t xs) h hp
    | some q => exact h.elim
  | ptr j off => exact callee_repS (W := W) (a := .ptr j off) h hp
  | junk => trivial
  | _ => exact h.elim
theorem lend1_rep (hR : Rep E s act W) {O : Owner → Prop} {a : AV} {y : Value} (h : Rep1 E s W a y) (hq : ∀ q, q ∈ roots1 a → inJs js q = false ∧ q ∈ L) (hp : PtrIn2 js (s.lend1 a)) : ArgT (E.callee js L K) W O ((s.lend1 a).mov2 fun j => at_ js j 0) y := by
  cases a with
  | rt q =>
    have e0 : s.lend1 (.rt q) = (match s.root q with | .own e t xs => .sl none e t xs | _ => .junk) := rfl
    rw [e0]
    cases hr : s.root q with
    | own e t xs =>
      exact read_own (o := fun x => x = q.owner) (hdr_own hR h hr) fun b hb => callee_root hb (hq q (by simp [roots1])).1 (hq q (by simp [roots1])).2
    | _ => trivial
  | sl m e t xs =>
    obtain ⟨A, c, h1, h2, h3⟩ := h
    refine ⟨A, c, h1, h2, F_mono h3 fun b hb => ?_⟩
    cases m with
    | none => exact callee_free hb
    | some q => exact callee_root hb (hq q (by simp [roots1])).1 (hq q (by simp [roots1])).2
  | v x => exact h
  | ptr j off => exact callee_repS (W := W) (a := .ptr j off) h hp
  | fn f l m => obtain ⟨fs, cs, h1, h2, h3⟩ := h; exact ⟨fs, cs, h1, callee_all h2 hp.1, callee_all h3 hp.2⟩
  | junk => trivial
  | dead => trivial
  | deadp => trivial
  | fp m t x off => trivial
  | ep q i off => trivial
  | _ => exact h.elim
end
end Go.Proofs.YtbakkcdanoopgaaGreatDoor.Ev
set_option linter.unusedVariables false
set_option linter.unusedSimpArgs false
namespace Go.Proofs.YtbakkcdanoopgaaGreatDoor.Ev
open Go Go.RowKit Go.Proofs.YtbakkcdanoopgaaGreatDoorW.PrintWords Go.Proofs.YtbakkcdanoopgaaGreatDoorW.PrintMore Kd
section
variable {E E' : Env} {s s' : St} {act : Act} {W W' : World} {js : List Nat} {L : List Root} {K : Kp} {C : Ctx}
theorem allQ_append {R : Nat → AV → Value → Prop} : ∀ {l l' : List AV} {m m' : List Value} {p : Nat}, AllQ R p l m → AllQ R (p + l.length) l' m' → AllQ R p (l ++ l') (m ++ m')
  | [], _, [], _, p, _, h' => by simpa using h'
  | a :: l, l', y :: m, m', p, h, h' => ⟨h.1, allQ_append h.2 (by rw [List.length_cons] at h'; rw [show p + 1 + l.length = p + (l.length + 1) by omega]; exact h')⟩
theorem allQ_len {R : Nat → AV → Value → Prop} : ∀ {l : List AV} {m : List Value} {p : Nat}, AllQ R p l m → l.length = m.length
  | [], [], _, _ => rfl
  | _ :: _, _ :: _, _, h => by rw [List.length_cons, List.length_cons, allQ_len h.2]
def MvOK (E : Env) (W : World) : Nat → List (Option AV) → List Value → Prop
  | _, [], [] => True
  | k, some a :: l, y :: m => ArgV E W k a y ∧ MvOK E W (k + 1) l m
  | k, none :: l, _ :: m => MvOK E W (k + 1) l m
  | _, _, _ => False
theorem mvOK_later (h : Later E E') (hw : Ways E E') : ∀ {l : List (Option AV)} {m : List Value} {k : Nat}, MvOK E W k l m → MvOK E' W k l m
  | [], [], _, _ => trivial
  | some a :: l, y :: m, k, hr => ⟨later_argV h hw hr.1, mvOK_later h hw hr.2⟩
  | none :: l, y :: m, k, hr => mvOK_later (l := l) (m := m) (k := k + 1) h hw hr
theorem prepMove_rep : ∀ (xs : List Operand) (ms : List Nat) (k : Nat) {mv : List (Option AV)} {E : Env} {s s' : St}, Rep E s act W → prepMove s xs ms = some (mv, s') →
    ∃ E', Rep E' s' act W ∧ Later E E' ∧ Ways E E' ∧ MvOK E' W k mv (xs.map act.eval)
  | [], ms, k, mv, E, s, s', hR, h => by
    obtain ⟨rfl, rfl⟩ : [] = mv ∧ s = s' := by simpa [prepMove] using h
    exact ⟨E, hR, Later.refl _, fun _ _ _ h => h, trivial⟩
  | x :: xs, ms, k, mv, E, s, s', hR, h => by
    unfold prepMove at h
    split at h
    · rename_i he; cases he
    · rename_i x' r ms' he
      simp only [List.cons.injEq] at he
      obtain ⟨rfl, rfl⟩ := he
      split at h
      · rename_i a' s1 h1
        split at h
        · rename_i r' s2 h2
          obtain ⟨rfl, rfl⟩ : some a' :: r' = mv ∧ s2 = s' := by simpa using h
          have hn : ∀ cs, s.ev x ≠ .tup cs := fun cs he => by rw [he] at h1; simp [St.move1, St.take1, St.take0] at h1
          obtain ⟨E1, g1, g2, g3, g4⟩ := move1_rep hR k (Later.refl E) (rep2_of_repV (rep_ev hR x) hn) h1
          obtain ⟨E2, k1, k2, k3, k4⟩ := prepMove_rep xs _ (k + 1) g1 h2
          exact ⟨E2, k1, g2.trans k2, g3.trans k3, later_argV k2 k3 g4, k4⟩
        · cases h
      · cases h
    · rename_i x' r he _
      simp only [List.cons.injEq] at he
      obtain ⟨rfl, rfl⟩ := he
      split at h
      · rename_i r' s2 h2
        obtain ⟨rfl, rfl⟩ : none :: r' = mv ∧ s2 = s' := by simpa using h
        obtain ⟨E2, k1, k2, k3, k4⟩ := prepMove_rep xs _ (k + 1) hR h2
        exact ⟨E2, k1, k2, k3, k4⟩
      · cases h
theorem callee_argV {k : Nat} {a : AV} {y : Value} (h : ArgV E W k a y) (hp : PtrInV js a) : ArgV (E.callee js L K) W k (a.mov fun j => at_ js j 0) y := by
  by_cases hc : ∃ cs, a = .agg cs
  · obtain ⟨cs, rfl⟩ := hc
    obtain ⟨vs, h1, h2⟩ := h
    refine ⟨vs, h1, ?_⟩
    have key : ∀ (l : List AV) (m : List Value) (p : Nat), (∀ a, a ∈ l → PtrIn2 js a) → AllQ (fun c => ArgT E W (fun x => x = .way k c)) p l m → AllQ (fun c => ArgT (E.callee js L K) W (fun x => x = .way k c)) p (mapL (AV.mov2 fun j => at_ js j 0) l) m := by
      intro l
      induction l with
      | nil => intro m p _ h; cases m <;> exact h
      | cons a l ih =>
        intro m p hp h
        cases m with
        | nil => exact h
        | cons y m => exact ⟨callee_argT (K := K) h.1 (hp a (by simp)), ih m (p + 1) (fun b hb => hp b (by simp [hb])) h.2⟩
    exact key cs vs.toList 0 hp h2
  · have hn : ∀ cs, a ≠ .agg cs := fun cs he => hc ⟨cs, he⟩
    rw [argV_T hn] at h
    rw [ptrInV_2 hn] at hp
    have e0 : a.mov (fun j => at_ js j 0) = a.mov2 fun j => at_ js j 0 := by cases a <;> first | rfl | exact absurd rfl (hn _)
    have hn2 : ∀ cs, a.mov2 (fun j => at_ js j 0) ≠ .agg cs := fun cs he => by
      have h3 := callee_argT (L := L) (K := K) h hp
      rw [he] at h3
      exact h3
    rw [e0, argV_T hn2]
    exact callee_argT (K := K) h hp
theorem lendA_rep (hR : Rep E s act W) {k : Nat} {a : AV} {y : Value} (h : RepV E s W a y) (hq : ∀ q, q ∈ rootsA a → inJs js q = false ∧ q ∈ L) (hp : PtrInV js (s.lendA a)) : ArgV (E.callee js L K) W k ((s.lendA a).mov fun j => at_ js j 0) y := by
  by_cases hc : ∃ cs, a = .agg cs
  · obtain ⟨cs, rfl⟩ := hc
    obtain ⟨vs, h1, h2⟩ := h
    refine ⟨vs, h1, ?_⟩
    have key : ∀ (l : List AV) (m : List Value) (p : Nat), (∀ q, q ∈ rootsL l → inJs js q = false ∧ q ∈ L) → (∀ a, a ∈ s.lends l → PtrIn2 js a) → All2 (Rep1 E s W) l m → AllQ (fun c => ArgT (E.callee js L K) W (fun x => x = .way k c)) p (mapL (AV.mov2 fun j => at_ js j 0) (s.lends l)) m := by
      intro l
      induction l with
      | nil => intro m p _ _ h; cases m <;> exact h
      | cons a l ih =>
        intro m p hq hp h
        cases m with
        | nil => exact h
        | cons y m =>
          exact ⟨lend1_rep (K := K) hR h.1 (fun q hm => hq q (List.mem_append.mpr (.inl hm))) (hp _ List.mem_cons_self), ih m (p + 1) (fun q hm => hq q (List.mem_append.mpr (.inr hm))) (fun b hb => hp b (List.mem_cons_of_mem _ hb)) h.2⟩
    exact key cs vs.toList 0 hq hp h2
  · have hn : ∀ cs, a ≠ .agg cs := fun cs he => hc ⟨cs, he⟩
    have e1 : s.lendA a = s.lend1 a := by cases a <;> first | rfl | exact absurd rfl (hn _)
    have e2 : rootsA a = roots1 a := by cases a <;> first | rfl | exact absurd rfl (hn _)
    rw [e1] at hp ⊢
    rw [e2] at hq
    by_cases ht : ∃ cs, a = .tup cs
    · obtain ⟨cs, rfl⟩ := ht
      exact trivial
    · have hr1 : Rep1 E s W a y := rep1_of_rep2 (rep2_of_repV h fun cs he => ht ⟨cs, he⟩) hn
      have hn3 : ∀ cs, s.lend1 a ≠ .agg cs := fun cs he => by
        cases a <;> simp only [St.lend1] at he <;> first | cases he; done | (split at he <;> cases he)
      rw [ptrInV_2 hn3] at hp
      have h4 := lend1_rep (L := L) (K := K) hR (O := fun x => x = .way k 0) hr1 hq hp
      have e3 : (s.lend1 a).mov (fun j => at_ js j 0) = (s.lend1 a).mov2 fun j => at_ js j 0 := by
        cases hs : s.lend1 a <;> first | rfl | exact absurd hs (hn3 _)
      rw [e3, argV_T fun cs he => by rw [he] at h4; exact h4]
      exact h4
theorem prep_rep (hR : Rep E s act W) : ∀ (xs : List Operand) (mv : List (Option AV)) (k : Nat), MvOK E W k mv (xs.map act.eval) → (∀ q, q ∈ lentRoots s xs mv → inJs js q = false ∧ q ∈ L) → (∀ a, a ∈ prepLend s xs mv → PtrInV js a) →
    AllQ (ArgV (E.callee js L K) W) k (mapL (AV.mov fun j => at_ js j 0) (prepLend s xs mv)) (xs.map act.eval)
  | [], [], k, h, hq, hp => trivial
  | x :: xs, some a :: mv, k, h, hq, hp => ⟨callee_argV h.1 (hp a List.mem_cons_self), prep_rep hR xs mv (k + 1) h.2 hq fun b hb => hp b (List.mem_cons_of_mem _ hb)⟩
  | x :: xs, none :: mv, k, h, hq, hp => ⟨lendA_rep hR (rep_ev hR x) (fun q hm => hq q (List.mem_append.mpr (.inl hm))) (hp _ List.mem_cons_self), prep_rep hR xs mv (k + 1) h (fun q hm => hq q (List.mem_append.mpr (.inr hm))) fun b hb => hp b (List.mem_cons_of_mem _ hb)⟩
  | [], _ :: _, k, h, hq, hp => by rename_i a l; cases a <;> exact h.elim
  | _ :: _, [], k, h, hq, hp => h.elim
end
end Go.Proofs.YtbakkcdanoopgaaGreatDoor.Ev
set_option linter.unusedVariables false
set_option linter.unusedSimpArgs false
namespace Go.Proofs.YtbakkcdanoopgaaGreatDoor.Ev
open Go Go.RowKit Go.Proofs.YtbakkcdanoopgaaGreatDoorW.PrintWords Go.Proofs.YtbakkcdanoopgaaGreatDoorW.PrintMore Kd
structure ArgsOK (E : Env) (W : World) (bx : List (List AV)) (args : List AV) (vals : List Value) : Prop where
  vals : AllQ (ArgV E W) 0 args vals
  box : ∀ (j : Nat) (cs : List AV), bx[j]? = some cs → Box E W j cs
  len : bx.length = E.adr.length
  new : ∀ k, W.heap.size ≤ k → E.own k = .free
def Packed (m : List Value) (v : Value) : Prop := v = (match m with | [y] => y | l => .tuple l.toArray)
def RetOK (E : Env) (W : World) (I : Inst) (out : Out) : Ending → World → Prop
  | .returned v, W' => ∃ vs outs h1 bx E' m, out = .ret vs ∧ Pt.builds I.outs vs = some (outs, h1) ∧ Pt.buildB I.obox h1 = some (bx, []) ∧ Aft E W E' W' ∧ Packed m v ∧ ArgsOK E' W' bx outs m
  | .panicked chain, W' => ∃ vs p bp a h1 bx E' y, out = .pan vs ∧ I.pans = some (p, bp) ∧ p.build vs = some (a, h1) ∧ Pt.buildB bp h1 = some (bx, []) ∧ Aft E W E' W' ∧ chain = [{ v := y, recovered := false }] ∧ ArgsOK E' W' bx [a] [y]
  | .outgrown, _ => False
end Go.Proofs.YtbakkcdanoopgaaGreatDoor.Ev
set_option linter.unusedVariables false
set_option linter.unusedSimpArgs false
namespace Go.Proofs.YtbakkcdanoopgaaGreatDoor.Ev
open Go Go.RowKit Go.Proofs.YtbakkcdanoopgaaGreatDoorW.PrintWords Go.Proofs.YtbakkcdanoopgaaGreatDoorW.PrintMore Kd
section
variable {E E' : Env} {s s' : St} {act : Act} {W W' : World} {js : List Nat} {L : List Root} {K : Kp} {C : Ctx}
theorem nilArgs_rep {g : Nat → Nat} : ∀ (l : List AV) (tys ms : List Nat) (k : Nat) {m : List Value}, AllQ (ArgV E W) k (mapL (AV.mov g) l) m → AllQ (ArgV E W) k (mapL (AV.mov g) (nilArgs C l tys ms)) m
  | [], tys, ms, k, m, h => by
    have e0 : nilArgs C [] tys ms = [] := by unfold nilArgs; rfl
    rw [e0]; exact h
  | a :: l, tys, ms, k, [], h => h.elim
  | a :: l, tys, ms, k, y :: m, h => by
    unfold nilArgs
    split
    · rename_i r t ts ms' he
      simp only [List.cons.injEq] at he
      obtain ⟨rfl, rfl⟩ := he
      have hy : y = .slice none 0 0 := h.1
      refine ⟨?_, nilArgs_rep _ _ _ (k + 1) h.2⟩
      subst hy
      split
      · split
        · split
          · exact R_nil _ _ _ _ _
          · exact ⟨none, 0, rfl, Nat.le_refl _, F_nil _ _ _⟩
        · trivial
      · trivial
    · rename_i a' r ts ms' he _
      simp only [List.cons.injEq] at he
      obtain ⟨rfl, rfl⟩ := he
      exact ⟨h.1, nilArgs_rep _ _ _ (k + 1) h.2⟩
    · rename_i he; cases he
theorem nilArgs_ptr : ∀ (l : List AV) (tys ms : List Nat), (∀ a, a ∈ nilArgs C l tys ms → PtrInV js a) → ∀ a, a ∈ l → PtrInV js a
  | [], tys, ms, h, a, ha => by simp at ha
  | x :: l, tys, ms, h, a, ha => by
    unfold nilArgs at h
    split at h
    · rename_i r t ts ms' he
      simp only [List.cons.injEq] at he
      obtain ⟨rfl, rfl⟩ := he
      rcases List.mem_cons.mp ha with rfl | ha
      · trivial
      · exact nilArgs_ptr _ _ _ (fun b hb => h b (List.mem_cons_of_mem _ hb)) a ha
    · rename_i a' r ts ms' he _
      simp only [List.cons.injEq] at he
      obtain ⟨rfl, rfl⟩ := he
      rcases List.mem_cons.mp ha with rfl | ha
      · exact h _ List.mem_cons_self
      · exact nilArgs_ptr _ _ _ (fun b hb => h b (List.mem_cons_of_mem _ hb)) a ha
    · rename_i he; cases he
theorem plain_args {k : Nat} : ∀ {l : List AV} {m : List Value}, All2 (RepS E W) l m → (∀ a, a ∈ l → PtrInV js a) → AllQ (ArgV (E.callee js L K) W) k (mapL (AV.mov fun j => at_ js j 0) l) m
  | [], [], _, _ => trivial
  | a :: l, y :: m, h, hp => by
    refine ⟨?_, plain_args h.2 fun b hb => hp b (List.mem_cons_of_mem _ hb)⟩
    have h0 := h.1
    have hp0 := hp a List.mem_cons_self
    cases a with
    | junk => trivial
    | v x => exact h0
    | sl q e t xs => cases q <;> first | exact callee_repS (a := .sl none e t xs) h0 trivial | exact h0.elim
    | ptr j off => exact callee_repS (W := W) (a := .ptr j off) h0 hp0
    | _ => exact h0.elim
theorem gets_get (b : List (List AV)) (all : List Nat) : ∀ (js : List Nat), (gets b all js).length = js.length ∧ ∀ (i : Nat) (cs : List AV), (gets b all js)[i]? = some cs → ∃ j, js[i]? = some j ∧ cs = mapL (AV.movC all) (getB b j)
  | [] => ⟨rfl, fun i cs h => by simp [gets] at h⟩
  | j :: js => by
    obtain ⟨h1, h2⟩ := gets_get b all js
    refine ⟨by simp [gets, h1], fun i cs h => ?_⟩
    cases i with
    | zero =>
      simp only [gets, List.getElem?_cons_zero, Option.some.injEq] at h
      exact ⟨j, rfl, h.symm⟩
    | succ i =>
      obtain ⟨j', h3, h4⟩ := h2 i cs (by simpa [gets] using h)
      exact ⟨j', by simpa using h3, h4⟩
theorem allLt_spec {n : Nat} : ∀ {js : List Nat}, allLt n js = true → ∀ j, j ∈ js → j < n
  | [], _, j, h => by simp at h
  | x :: js, h, j, hj => by
    unfold allLt at h
    split at h
    · rename_i hx
      rcases List.mem_cons.mp hj with rfl | hj
      · exact Nat.blt_eq.mp hx
      · exact allLt_spec h j hj
    · cases h
theorem at_nodup : ∀ {js : List Nat} (_ : js.Nodup) {i j : Nat} (k : Nat), js[i]? = some j → at_ js j k = k + i
  | x :: js, hn, 0, j, k, h => by
    obtain rfl : x = j := by simpa using h
    unfold at_
    rw [show Nat.beq x x = true from Nat.beq_refl x]
    rfl
  | x :: js, hn, i + 1, j, k, h => by
    have hj : js[i]? = some j := by simpa using h
    have hne : x ≠ j := fun he => (List.nodup_cons.mp hn).1 (he ▸ List.mem_of_getElem? hj)
    unfold at_
    rw [beq_false hne]
    show at_ js j (k + 1) = _
    rw [at_nodup (List.nodup_cons.mp hn).2 (k + 1) hj]
    omega
theorem wrap1_none {p : Pt} (h : p.isSame = false) (a : AV) : p.wrap1 a = a := by cases p <;> first | rfl | cases h
theorem wrapL_get : ∀ (ps : List Pt) (l : List AV), (Pt.wrapL ps l).length = l.length ∧ ∀ (i : Nat) (a : AV), (Pt.wrapL ps l)[i]? = some a → ∃ b, l[i]? = some b ∧ a = (ps.getD i .junk).wrap1 b
  | [], l => ⟨by simp [Pt.wrapL], fun i a h => ⟨a, by simpa [Pt.wrapL] using h, by cases i <;> rfl⟩⟩
  | p :: ps, [] => ⟨by simp [Pt.wrapL], fun i a h => by simp [Pt.wrapL] at h⟩
  | p :: ps, x :: l => by
    obtain ⟨h1, h2⟩ := wrapL_get ps l
    refine ⟨by simp [Pt.wrapL, h1], fun i a h => ?_⟩
    cases i with
    | zero =>
      simp only [Pt.wrapL, List.getElem?_cons_zero, Option.some.injEq] at h
      subst h
      exact ⟨x, rfl, rfl⟩
    | succ i => exact h2 i a (by simpa [Pt.wrapL] using h)
theorem wrapB_get : ∀ (ps : List (List Pt)) (l : List (List AV)), (Pt.wrapB ps l).length = l.length ∧ ∀ (i : Nat) (a : List AV), (Pt.wrapB ps l)[i]? = some a → ∃ b, l[i]? = some b ∧ a = Pt.wrapL (ps.getD i []) b
  | [], l => ⟨by simp [Pt.wrapB], fun i a h => ⟨a, by simpa [Pt.wrapB] using h, by cases i <;> simp [Pt.wrapL]⟩⟩
  | p :: ps, [] => ⟨by simp [Pt.wrapB], fun i a h => by simp [Pt.wrapB] at h⟩
  | p :: ps, x :: l => by
    obtain ⟨h1, h2⟩ := wrapB_get ps l
    refine ⟨by simp [Pt.wrapB, h1], fun i a h => ?_⟩
    cases i with
    | zero =>
      simp only [Pt.wrapB, List.getElem?_cons_zero, Option.some.injEq] at h
      subst h
      exact ⟨x, rfl, rfl⟩
    | succ i => exact h2 i a (by simpa [Pt.wrapB] using h)
structure Kp.OK (K : Kp) (E : Env) (W : World) (js : List Nat) (pb : List (List Pt)) : Prop where
  sm : ∀ (i j c : Nat), js[i]? = some j → K.sm j c = (getPt pb i c).isSame
  kv : ∀ (i j g ty : Nat) (cells : Array Value) (c : Nat) (y : Value), js[i]? = some j → E.adr[j]? = some g → W.heap[g]? = some (.cells cells ty (0, 0)) → cells[c]? = some y → K.kv i c = y
theorem callee_cell {o : Owner} {a0 : AV} {y : Value} (h5 : RepC E W o a0 y) (hn : ∀ e t xs, a0 ≠ .own e t xs) : RepS (E.callee js L K) W (AV.movC js a0) y := by
  have key : ∀ a, RepS E W a y → RepS (E.callee js L K) W (AV.movC1 js a) y := fun a h => by
    cases a with
    | sl m e t xs => cases m <;> first | exact callee_repS (a := .sl none e t xs) h trivial | exact h.elim
    | junk => trivial
    | v x => exact h
    | ptr j' off =>
      have e0 : AV.movC1 js (.ptr j' off) = (match js.contains j' with | true => .ptr (at_ js j' 0) off | false => .junk) := rfl
      rw [e0]
      cases hcc : js.contains j' with
      | true => exact callee_repS (W := W) (a := .ptr j' off) h (show j' ∈ js by simpa using hcc)
      | false => trivial
    | _ => exact h.elim
  cases a0 with
  | own e t xs => exact absurd rfl (hn _ _ _)
  | same a => exact key a h5.1
  | sl m e t xs => exact key (.sl m e t xs) h5
  | junk => trivial
  | v x => exact key (.v x) h5
  | ptr j' off => exact key (.ptr j' off) h5
  | _ => exact h5.elim
theorem callee_box (hR : Rep E s act W) (hn : js.Nodup) (hl : ∀ j, j ∈ js → j < s.boxes.length) {pb : List (List Pt)} (hK : K.OK E W js pb) {i : Nat} {cs : List AV} (h : (Pt.wrapB pb (gets s.boxes js js))[i]? = some cs) : Box (E.callee js L K) W i cs := by
  obtain ⟨cs1, h0, rfl⟩ := (wrapB_get pb (gets s.boxes js js)).2 i cs h
  obtain ⟨j, h1, hcs⟩ := (gets_get s.boxes js js).2 i cs1 h0
  subst hcs
  have hj : j ∈ js := List.mem_of_getElem? h1
  have hlt := hl j hj
  have hb : s.boxes[j]? = some (s.boxes[j]'hlt) := List.getElem?_eq_getElem hlt
  have hat := at_nodup hn 0 h1
  rw [Nat.zero_add] at hat
  obtain ⟨g, ty, cells, b1, b2, b3, b4, b5⟩ := hR.bx j _ hb
  obtain ⟨w1, w2⟩ := wrapL_get (pb.getD i []) (mapL (AV.movC js) (getB s.boxes j))
  rw [getB_of hb, mapL_eq] at w1 w2 ⊢
  refine ⟨g, ty, cells, by rw [← hat]; exact callee_adr hj b1, ?_, b3, by rw [w1, List.length_map]; exact b4, fun c a y ha hy => ?_⟩
  · simp only [Env.callee, b2, if_pos hj, hat]
  · obtain ⟨a1, ha1, rfl⟩ := w2 c a ha
    rw [List.getElem?_map] at ha1
    cases hc : (s.boxes[j]'hlt)[c]? with
    | none => rw [hc] at ha1; cases ha1
    | some a0 =>
      rw [hc] at ha1
      obtain rfl := Option.some.inj ha1
      have h5 := b5 c a0 y hc hy
      have hp : (pb.getD i []).getD c .junk = getPt pb i c := rfl
      rw [hp]
      have hsm := hK.sm i j c h1
      cases hs : (getPt pb i c).isSame with
      | false =>
        rw [wrap1_none hs]
        by_cases ho : ∃ e t xs, a0 = .own e t xs
        · obtain ⟨e, t, xs, rfl⟩ := ho
          refine R_mono h5 fun b hb => ?_
          have hb' : E.own b = .cell j c := hb
          rw [hs] at hsm
          simp only [Env.callee, hb', if_pos hj, hat, hsm, Bool.false_eq_true, if_false]
        · have h6 := callee_cell (js := js) (L := L) (K := K) h5 fun e t xs he => ho ⟨e, t, xs, he⟩
          generalize AV.movC js a0 = a2 at h6 ⊢
          cases a2 <;> first | exact h6 | exact h6.elim
      | true =>
        have hkv := hK.kv i j g ty cells c y h1 b1 b3 hy
        have fin : ∀ a', RepS (E.callee js L K) W a' y → RepC (E.callee js L K) W (.cell i c) (.same a') y := fun a' h => ⟨h, fun j' c' he => by
          injection he with e1 e2
          subst e1; subst e2
          exact hkv.symm⟩
        cases hpt : getPt pb i c <;> rw [hpt] at hs <;> try (cases hs; done)
        rename_i q
        by_cases ho : ∃ e t xs, AV.movC js a0 = .own e t xs
        · obtain ⟨e, t, xs, he⟩ := ho
          rw [he]
          exact fin .junk trivial
        · have e1 : Pt.wrap1 (.same q) (AV.movC js a0) = .same (AV.movC js a0) := by
            generalize AV.movC js a0 = a2 at ho
            cases a2 <;> first | rfl | exact absurd ⟨_, _, _, rfl⟩ ho
          rw [e1]
          exact fin _ (callee_cell h5 fun e t xs he => ho ⟨e, t, xs, by rw [he]; rfl⟩)
theorem argT_cut {O : Owner → Prop} {a a' : AV} {y : Value} (h : Cut a a') (hr : ArgT E W O a y) : ArgT E W O a' y := by
  cases h with
  | junk => trivial
  | same => exact hr
  | fn f hl hm =>
    obtain ⟨fs, cs, h1, h2, h3⟩ := hr
    exact ⟨fs, cs, h1, cuts_all2 (fun _ _ _ => repS_cut) hl h2, cuts_all2 (fun _ _ _ => repS_cut) hm h3⟩
  | agg _ => exact hr.elim
  | tup _ => exact hr.elim
  | still _ => exact hr.elim
theorem argV_cut {k : Nat} {a a' : AV} {y : Value} (h : Cut a a') (hr : ArgV E W k a y) : ArgV E W k a' y := by
  cases h with
  | junk => trivial
  | same => exact hr
  | fn f hl hm => exact argT_cut (O := fun x => x = .way k 0) (.fn f hl hm) hr
  | agg hl =>
    obtain ⟨vs, h1, h2⟩ := hr
    exact ⟨vs, h1, cuts_allQ (fun _ _ _ _ => argT_cut) hl h2⟩
  | tup _ => exact hr.elim
  | still _ => exact hr.elim
theorem fits_spec : ∀ (l : List Inst) (args : List AV) (boxes : List (List AV)) (i0 : Nat) {i : Nat} {I : Inst} {hs : List HV}, fits l args boxes i0 = some (i, I, hs) →
    ∃ k, i = i0 + k ∧ l[k]? = some I ∧ ∃ a b, hs = a ++ b ∧ Pt.parses I.args (Pt.frzs I.args args) = some a ∧ Pt.parseB I.boxes (Pt.frzB I.boxes (Pt.wrapB I.boxes boxes)) = some b ∧ I.boxes.length = boxes.length
  | [], args, boxes, i0, i, I, hs, h => by simp [fits] at h
  | I0 :: l, args, boxes, i0, i, I, hs, h => by
    have next : fits l args boxes (i0 + 1) = some (i, I, hs) → ∃ k, i = i0 + k ∧ (I0 :: l)[k]? = some I ∧ ∃ a b, hs = a ++ b ∧ Pt.parses I.args (Pt.frzs I.args args) = some a ∧ Pt.parseB I.boxes (Pt.frzB I.boxes (Pt.wrapB I.boxes boxes)) = some b ∧ I.boxes.length = boxes.length := fun h => by
      obtain ⟨k, h1, h2, h3⟩ := fits_spec l args boxes (i0 + 1) h
      exact ⟨k + 1, by omega, by simpa using h2, h3⟩
    unfold fits at h
    split at h
    · rename_i a ha
      split at h
      · rename_i b hb
        split at h
        · rename_i hc
          simp only [Bool.and_eq_true] at hc
          simp only [Option.some.injEq, Prod.mk.injEq] at h
          obtain ⟨rfl, rfl, rfl⟩ := h
          exact ⟨0, rfl, rfl, a, b, rfl, ha, hb, Nat.eq_of_beq_eq_true hc.1⟩
        · exact next h
      · exact next h
    · exact next h
def kpOf (E : Env) (W : World) (js : List Nat) (pb : List (List Pt)) : Kp := ⟨fun j c => (getPt pb (at_ js j 0) c).isSame, fun i c => match W.heap[E.adr.getD (js.getD i 0) 0]? with
  | some (.cells cells _ _) => cells.getD c undef
  | _ => undef⟩
theorem kpOf_ok (hn : js.Nodup) (pb : List (List Pt)) : (kpOf E W js pb).OK E W js pb where
  sm := fun i j c hj => by
    have h := at_nodup hn 0 hj
    rw [Nat.zero_add] at h
    show (getPt pb (at_ js j 0) c).isSame = _
    rw [h]
  kv := fun i j g ty cells c y hj hg hb hc => by
    have h1 : js.getD i 0 = j := by rw [List.getD_eq_getElem?_getD, hj]; rfl
    have h2 : E.adr.getD j 0 = g := by rw [List.getD_eq_getElem?_getD, hg]; rfl
    show (match W.heap[E.adr.getD (js.getD i 0) 0]? with | some (.cells cells _ _) => cells.getD c undef | _ => undef) = y
    rw [h1, h2, hb]
    show cells.getD c undef = y
    rw [Array.getD_eq_getD_getElem?, hc]
    rfl
theorem call_args (hR : Rep E s act W) (hn : js.Nodup) (hl : ∀ j, j ∈ js → j < s.boxes.length) {args : List AV} {vals : List Value} {insts : List Inst} {i : Nat} {I : Inst} {hs : List HV}
    (hv : ∀ K, AllQ (ArgV (E.callee js L K) W) 0 args vals) (hf : fits insts args (gets s.boxes js js) 0 = some (i, I, hs)) :
    insts[i]? = some I ∧ I.boxes.length = js.length ∧ ∃ K args' h1 bx, K.OK E W js I.boxes ∧ Pt.builds I.args hs = some (args', h1) ∧ Pt.buildB I.boxes h1 = some (bx, []) ∧ ArgsOK ((E.callee js L K).frz I.boxes (wayP I.args args)) W bx args' vals := by
  obtain ⟨k, hi, hI, a, b, rfl, ha, hb, hlen⟩ := fits_spec _ _ _ _ hf
  rw [Nat.zero_add] at hi
  subst hi
  obtain ⟨args', g1, g2⟩ := parses_builds _ _ _ ha
  obtain ⟨bx, k1, k2, k3, k4⟩ := parseB_build _ _ _ hb
  have hK := kpOf_ok (E := E) (W := W) hn I.boxes
  refine ⟨hI, by rw [hlen, (gets_get s.boxes js js).1], kpOf E W js I.boxes, args', b, bx, hK, g1 b, by simpa using k1 [], ?_, fun j cs hj => ?_, ?_, fun b hb => ?_⟩
  · exact cuts_allQ (fun _ _ _ _ => argV_cut) g2 (frz_args I.args args vals 0 (fun i c => by rw [Nat.zero_add]) (hv _))
  · obtain ⟨c0, h1, h2⟩ := k4 j cs hj
    obtain ⟨c1, h3, rfl⟩ := (frzB_get I.boxes (Pt.wrapB I.boxes (gets s.boxes js js))).2 j c0 h1
    exact box_cut h2 (frz_box (callee_box hR hn hl hK h3))
  · rw [k2, hlen, (gets_get s.boxes js js).1]
    show js.length = (js.map _).length
    rw [List.length_map]
  · apply frz_free
    apply callee_free
    exact hR.new b hb
theorem getN_spec : ∀ (js : List Nat) (i n : Nat), (∀ j, js[i]? = some j → getN js i n = j) ∧ (js.length ≤ i → getN js i n = n + (i - js.length))
  | [], i, n => ⟨fun j h => by simp at h, fun _ => by simp [getN]⟩
  | x :: js, 0, n => ⟨fun j h => by simpa [getN] using h, fun h => by simp at h⟩
  | x :: js, i + 1, n => by
    obtain ⟨h1, h2⟩ := getN_spec js i n
    refine ⟨fun j h => h1 j (by simpa using h), fun h => ?_⟩
    rw [List.length_cons] at h
    show getN js i n = _
    rw [h2 (by omega), List.length_cons]
    congr 1
    omega
def Goes (js : List Nat) (sm : Nat → Nat → Bool) (x : Owner) : Prop := (∃ k c, x = .way k c) ∨ ∃ j, j ∈ js ∧ (x = .box j ∨ ∃ c, sm j c = false ∧ x = .cell j c)
def goesB (js : List Nat) (sm : Nat → Nat → Bool) : Owner → Bool
  | .way _ _ => true
  | .box j => decide (j ∈ js)
  | .cell j c => decide (j ∈ js) && !sm j c
  | _ => false
theorem goesB_iff {sm : Nat → Nat → Bool} {x : Owner} : goesB js sm x = true ↔ Goes js sm x := by
  cases x with
  | cell j c =>
    simp only [goesB, Goes, Bool.and_eq_true, decide_eq_true_eq, Bool.not_eq_true']
    constructor
    · rintro ⟨h1, h2⟩; exact .inr ⟨j, h1, .inr ⟨c, h2, rfl⟩⟩
    · rintro (⟨k, c', h⟩ | ⟨j', h1, h | ⟨c', h2, h⟩⟩)
      · cases h
      · cases h
      · injection h with e1 e2
        subst e1; subst e2
        exact ⟨h1, h2⟩
  | _ => simp [goesB, Goes]
def Env.back (E Ec E' : Env) (N : Nat) (js : List Nat) (n : Nat) (sm : Nat → Nat → Bool) : Env := ⟨fun b => if b < N ∧ (Ec.own b = .free ∨ Ec.own b = .hid) then (if goesB js sm (E.own b) = true then .free else E.own b) else match E'.own b with
  | .way k c => .way k c
  | .box i => .box (getN js i n)
  | .cell i c => .cell (getN js i n) c
  | _ => .free, E.adr ++ E'.adr.drop js.length, E.rv, E.kv⟩
theorem callee_still {pb : List (List Pt)} {pw : Nat → Nat → Bool} {b : Nat} (h : ¬ Goes js K.sm (E.own b)) : ((E.callee js L K).frz pb pw).own b = .free ∨ ((E.callee js L K).frz pb pw).own b = .hid := by
  have h1 : (E.callee js L K).own b = .free ∨ (E.callee js L K).own b = .hid := by
    cases ho : E.own b with
    | free => exact .inl (callee_free ho)
    | way k c => exact absurd (.inl ⟨k, c, ho⟩) h
    | box j =>
      have hj : j ∉ js := fun hm => h (.inr ⟨j, hm, .inl ho⟩)
      exact .inr (by simp only [Env.callee, ho, if_neg hj])
    | cell j c =>
      by_cases hj : j ∈ js
      · cases hs : K.sm j c with
        | false => exact absurd (.inr ⟨j, hj, .inr ⟨c, hs, ho⟩⟩) h
        | true => exact .inr (by simp only [Env.callee, ho, if_pos hj, hs, if_true])
      · by_cases hL : Root.cell j c ∈ L
        · exact .inl (by simp only [Env.callee, ho, if_neg hj, if_pos hL])
        · exact .inr (by simp only [Env.callee, ho, if_neg hj, if_neg hL])
    | tok n =>
      by_cases hL : Root.tok n ∈ L
      · exact .inl (by simp only [Env.callee, ho, if_pos hL])
      · exact .inr (by simp only [Env.callee, ho, if_neg hL])
    | hand p b' => exact .inr (by simp only [Env.callee, ho])
    | hid => exact .inr (by simp only [Env.callee, ho])
  rcases h1 with h1 | h1
  · exact .inl (frz_free h1)
  · exact .inr (by unfold Env.frz Env.ren; simp only [h1])
theorem back_move {pb : List (List Pt)} {pw : Nat → Nat → Bool} {n : Nat} (hA : Aft ((E.callee js L K).frz pb pw) W E' W') : Move (Goes js K.sm) E W (E.back ((E.callee js L K).frz pb pw) E' W.heap.size js n K.sm) W' :=
  ⟨fun k hk hn => by
    have h1 := callee_still (pb := pb) (pw := pw) (L := L) hn
    have h2 : ¬ goesB js K.sm (E.own k) = true := fun h => hn (goesB_iff.mp h)
    exact ⟨(if_pos ⟨hk, h1⟩).trans (if_neg h2), (hA.free k hk h1).2⟩, ⟨_, rfl⟩, rfl⟩
end
end Go.Proofs.YtbakkcdanoopgaaGreatDoor.Ev
set_option linter.unusedVariables false
set_option linter.unusedSimpArgs false
namespace Go.Proofs.YtbakkcdanoopgaaGreatDoor.Ev
open Go Go.RowKit Go.Proofs.YtbakkcdanoopgaaGreatDoorW.PrintWords Go.Proofs.YtbakkcdanoopgaaGreatDoorW.PrintMore Kd
section
variable {E E' : Env} {s s' : St} {act : Act} {W W' : World}
theorem frzR_rep (hR : Rep E s act W) (q : Root) {e : Nat} {t : Ty} {xs : List t.den} (hq : s.root q = .own e t xs) : Rep (E.give q.owner .free) ((s.setRoot q (q.rest e t xs)).mapS (AV.thaw1 q e t xs)) act W := by
  have hm := give_move E W q.owner .free
  have hfree : ¬ (Owner.free = q.owner) := fun h => owner_ne_free q h.symm
  have hg : ∀ b, E.own b = q.owner → (E.give q.owner .free).own b = .free := fun b hb => if_pos hb
  have hnew : ∀ k, W.heap.size ≤ k → (E.give q.owner .free).own k = .free := fun k hk => by
    show (if E.own k = _ then Owner.free else E.own k) = _
    rw [hR.new k hk, if_neg hfree]
  have hne : ∀ p, Root.beq q p = false → p ≠ q := fun p hp h => by
    have h1 : Root.beq q p = true := Root.beq_iff.mpr h.symm
    rw [h1] at hp; cases hp
  have hroot : ∀ p : Root, p ≠ q → ∀ e2 t2 xs2, s.root p = .own e2 t2 xs2 → ((s.setRoot q (q.rest e t xs)).mapS (AV.thaw1 q e t xs)).root p = .own e2 t2 xs2 := fun p hp e1 t1 xs1 h => by
    cases q with
    | tok n =>
      cases p with
      | tok m =>
        have hmn : m ≠ n := fun h => hp (by rw [h])
        show (tokSet s.toks n _ m).inLit _ = _
        rw [tokSet_ne _ _ hmn]
        exact inLit_own h
      | cell j c => exact h
    | cell j c =>
      cases p with
      | tok m => exact inLit_own h
      | cell j' c' =>
        show getT (getB (setB s.boxes j (setT (getB s.boxes j) c _)) j') c' = _
        rw [getB_setB]
        split
        · rename_i hj
          rw [getT_setT, if_neg fun h2 => hp (by rw [hj.1, h2.1]), ← hj.1]
          exact h
        · exact h
  have hhdr : ∀ (p : Root), p ≠ q → ∀ y, Hdr E s W p y → Hdr (E.give q.owner .free) ((s.setRoot q (q.rest e t xs)).mapS (AV.thaw1 q e t xs)) W p y := fun p hp y hy => by
    cases p with
    | tok m =>
      refine ⟨hy.1, fun h2 => hy.2 ?_⟩
      cases q with
      | tok n =>
        have hmn : m ≠ n := fun hh => hp (by rw [hh])
        have h2' : (tokSet s.toks n _ m).inLit _ = .junk := h2
        rw [tokSet_ne _ _ hmn] at h2'
        exact inLit_junk h2'
      | cell j c => exact inLit_junk h2
    | cell j c =>
      obtain ⟨b, ty', cl, h1, h2, h3, e1, t1, xs1, h4⟩ := hy
      exact ⟨b, ty', cl, h1, h2, h3, e1, t1, xs1, hroot _ hp _ _ _ h4⟩
  have h1 : ∀ a y, Rep1 E s W a y → Rep1 (E.give q.owner .free) ((s.setRoot q (q.rest e t xs)).mapS (AV.thaw1 q e t xs)) W (AV.thaw1 q e t xs a) y := fun a y hr => by
    have old : ∀ {a : AV}, Rep1 E s W a y → (∀ p, a.leans p → p ≠ q) → Rep1 (E.give q.owner .free) ((s.setRoot q (q.rest e t xs)).mapS (AV.thaw1 q e t xs)) W a y := fun {a} hr hl =>
      hm.rep1 hfree (fun p hp => ⟨fun h => hl p hp (Root.owner_inj h), fun y hy => ⟨hhdr p (hl p hp) y hy, hroot p (hl p hp)⟩⟩) hr
    cases a with
    | rt p =>
      have e0 : AV.thaw1 q e t xs (.rt p) = (match Root.beq q p with | true => .sl none e t xs | false => .rt p) := rfl
      rw [e0]
      cases hb : Root.beq q p with
      | true =>
        obtain rfl : q = p := Root.beq_iff.mp hb
        exact read_own (o := fun x => x = q.owner) (hdr_own hR hr hq) hg
      | false => exact hhdr p (hne p hb) y hr
    | sl m e1 t1 xs1 =>
      cases m with
      | none => exact old (a := .sl none e1 t1 xs1) hr fun p h => h.elim
      | some p =>
        have e0 : AV.thaw1 q e t xs (.sl (some p) e1 t1 xs1) = (match Root.beq q p with | true => .sl none e1 t1 xs1 | false => .sl (some p) e1 t1 xs1) := rfl
        rw [e0]
        cases hb : Root.beq q p with
        | true =>
          obtain rfl : q = p := Root.beq_iff.mp hb
          obtain ⟨A, c, g1, g2, g3⟩ := hr
          exact ⟨A, c, g1, g2, F_mono g3 hg⟩
        | false => exact old (a := .sl (some p) e1 t1 xs1) hr fun p' h => by obtain rfl : p = p' := h; exact hne p hb
    | fp m t1 x off =>
      cases m with
      | none => exact old (a := .fp none t1 x off) hr fun p h => h.elim
      | some p =>
        have e0 : AV.thaw1 q e t xs (.fp (some p) t1 x off) = (match Root.beq q p with | true => .fp none t1 x off | false => .fp (some p) t1 x off) := rfl
        rw [e0]
        cases hb : Root.beq q p with
        | true =>
          obtain rfl : q = p := Root.beq_iff.mp hb
          obtain ⟨ad, g1, g2⟩ := hr
          exact ⟨ad, g1, F_mono g2 hg⟩
        | false => exact old (a := .fp (some p) t1 x off) hr fun p' h => by obtain rfl : p = p' := h; exact hne p hb
    | ep p i off =>
      have e0 : AV.thaw1 q e t xs (.ep p i off) = (match Root.beq q p with | true => .fp none t (xs.getD i.toNat t.zero) off | false => .ep p i off) := rfl
      rw [e0]
      cases hb : Root.beq q p with
      | true =>
        obtain rfl : q = p := Root.beq_iff.mp hb
        obtain ⟨b, n, c, e1, t1, xs1, g1, g2, g3, g4, g5⟩ := hr
        rw [hq] at g2
        injection g2 with g2 g6 g7
        subst g6
        have g7' : xs = xs1 := eq_of_heq g7
        subst g7'
        have hown := hdr_own hR g1 hq
        have hF := R_F hown
        have hn := F_len hF
        rw [← hn] at hF
        obtain ⟨ad, k1, k2⟩ := F_one hF t.zero i.toNat (by omega)
        injection k1 with k1
        subst k1
        rw [kd_sz, addr_mk, Nat.zero_add] at k2
        exact ⟨⟨b, i.toNat * t.size, none⟩, by rw [addr_mk]; exact g5, F_mono k2 hg⟩
      | false => exact old (a := .ep p i off) hr fun p' h => by obtain rfl : p = p' := h; exact hne p hb
    | junk => exact trivial
    | dead => exact hr
    | deadp => exact hr
    | v x => exact hr
    | ptr j off => exact old (a := .ptr j off) hr fun p h => h.elim
    | fn f l m => exact old (a := .fn f l m) hr fun p h => h.elim
    | _ => exact hr.elim
  cases q with
  | tok n =>
    refine hR.go (φ := AV.thaw1 (.tok n) e t xs) hm hfree h1 rfl (fun m => ?_) (fun j cs hj => .inl ⟨hj, by simp [Root.owner], fun c => by simp [Root.owner]⟩) hR.ln hnew
    by_cases hmn : m = n
    · subst hmn
      refine .inr ?_
      have e0 : ((s.setRoot (.tok m) (Root.rest (.tok m) e t xs)).mapS (AV.thaw1 (.tok m) e t xs)).toks m = .junk := by
        show (tokSet s.toks m .junk m).inLit _ = _
        rw [tokSet_self]
        rfl
      rw [e0]; trivial
    · refine .inl ⟨?_, by simp [Root.owner, hmn], rfl⟩
      show (tokSet s.toks n _ m).inLit _ = _
      rw [tokSet_ne _ _ hmn]
  | cell j c =>
    obtain ⟨cs, h2, h3⟩ := box_of_cell (s := s) (j := j) (c := c) hq (by simp)
    refine hR.go (φ := AV.thaw1 (.cell j c) e t xs) hm hfree h1 rfl (fun m => .inl ⟨rfl, by simp [Root.owner], rfl⟩) (fun i cs' hi => ?_) (by show (setB s.boxes j _).length = _; rw [setB_eq, List.length_set]; exact hR.ln) hnew
    have hi' : (setB s.boxes j (setT (getB s.boxes j) c (.sl none e t xs)))[i]? = some cs' := hi
    rw [setB_eq, List.getElem?_set] at hi'
    by_cases hij : j = i
    · subst hij
      rw [if_pos rfl, if_pos (List.getElem?_eq_some_iff.mp h2).1] at hi'
      obtain rfl := Option.some.inj hi'
      obtain ⟨b, ty', cl, d1, d2, d3, d4, d5⟩ := hR.bx j cs h2
      rw [getB_of h2, setT_eq]
      refine .inr ⟨b, ty', cl, d1, ?_, d3, by rw [List.length_set]; exact d4, fun i a y ha hy => ?_⟩
      · show (if E.own b = _ then Owner.free else E.own b) = _
        rw [d2, if_neg (by simp [Root.owner])]
      · rw [List.getElem?_set] at ha
        by_cases hci : c = i
        · subst hci
          rw [if_pos rfl, if_pos (List.getElem?_eq_some_iff.mp h3).1] at ha
          obtain rfl := Option.some.inj ha
          have h5 := d5 c _ y h3 hy
          exact read_own (o := fun x => x = .cell j c) h5 hg
        · rw [if_neg hci] at ha
          exact hm.repC hfree (by simp [Root.owner]; exact fun h => hci h.symm) (d5 i a y ha hy)
    · rw [if_neg hij] at hi'
      exact .inl ⟨hi', by simp [Root.owner], fun c' => by simp [Root.owner]; exact fun h => absurd h.symm hij⟩
theorem frzRs_rep : ∀ (l : List Root) {E : Env} {s : St}, Rep E s act W → ∃ E', Rep E' (s.frzRs l) act W ∧ Later E E' ∧ Ways E E' ∧ ∀ b, (E.own b = .free ∨ E.own b = .hid) → E'.own b = E.own b
  | [], E, s, hR => ⟨E, hR, Later.refl E, fun _ _ _ h => h, fun _ _ => rfl⟩
  | q :: l, E, s, hR => by
    have same : s.frzR q = s → ∃ E', Rep E' (s.frzRs (q :: l)) act W ∧ Later E E' ∧ Ways E E' ∧ ∀ b, (E.own b = .free ∨ E.own b = .hid) → E'.own b = E.own b := fun h => by
      show ∃ E', Rep E' ((s.frzR q).frzRs l) act W ∧ _
      rw [h]
      exact frzRs_rep l hR
    cases hq : s.root q with
    | own e t xs =>
      have h1 := frzR_rep hR q hq
      have e0 : s.frzR q = (s.setRoot q (q.rest e t xs)).mapS (AV.thaw1 q e t xs) := by
        show (match s.root q with | .own e t xs => (s.setRoot q (q.rest e t xs)).mapS (AV.thaw1 q e t xs) | _ => s) = _
        rw [hq]
      show ∃ E', Rep E' ((s.frzR q).frzRs l) act W ∧ _
      rw [e0]
      obtain ⟨E2, k1, k2, k3, k4⟩ := frzRs_rep l h1
      have ho : ∀ b o, E.own b = o → (∀ p : Root, o ≠ p.owner) → (E.give q.owner .free).own b = o := fun b o hb hn => by
        show (if E.own b = q.owner then Owner.free else E.own b) = o
        rw [hb, if_neg (hn q)]
      refine ⟨E2, k1, ?_, fun b k c hb => k3 b k c (ho b _ hb (way_ne k c)), fun b hb => ?_⟩
      · exact Later.trans (E1 := E.give q.owner .free) ⟨rfl, rfl, fun b hb => ho b _ hb free_ne, fun b hb => ho b _ hb (still_ne (.inr rfl)), rfl⟩ k2
      · have h2 := ho b _ rfl (still_ne hb)
        exact (k4 b (by rw [h2]; exact hb)).trans h2
    | _ => exact same (by
        show (match s.root q with | .own e t xs => (s.setRoot q (q.rest e t xs)).mapS (AV.thaw1 q e t xs) | _ => s) = _
        rw [hq])
theorem movB_get (g : Nat → Nat) : ∀ (l : List (List AV)), (movB g l).length = l.length ∧ ∀ (i : Nat) (cs : List AV), (movB g l)[i]? = some cs → ∃ c0, l[i]? = some c0 ∧ cs = mapL (AV.mov1 g) c0
  | [] => ⟨rfl, fun i cs h => by simp [movB] at h⟩
  | x :: l => by
    obtain ⟨h1, h2⟩ := movB_get g l
    refine ⟨by simp [movB, h1], fun i cs h => ?_⟩
    cases i with
    | zero =>
      simp only [movB, List.getElem?_cons_zero, Option.some.injEq] at h
      exact ⟨x, rfl, h.symm⟩
    | succ i =>
      obtain ⟨c0, h3, h4⟩ := h2 i cs (by simpa [movB] using h)
      exact ⟨c0, by simpa using h3, h4⟩
theorem mergeL_get : ∀ (o l : List AV), (mergeL o l).length = l.length ∧ ∀ (c : Nat) (a : AV), (mergeL o l)[c]? = some a → ∃ a1, l[c]? = some a1 ∧ ((isSameA a1 = true ∧ o[c]? = some a) ∨ (isSameA a1 = false ∧ a = a1) ∨ (o.length ≤ c ∧ a = a1))
  | [], l => ⟨by simp [mergeL], fun c a h => ⟨a, by simpa [mergeL] using h, .inr (.inr ⟨Nat.zero_le _, rfl⟩)⟩⟩
  | o :: r, [] => ⟨by simp [mergeL], fun c a h => by simp [mergeL] at h⟩
  | o :: r, x :: l => by
    obtain ⟨h1, h2⟩ := mergeL_get r l
    have h3 : mergeL (o :: r) (x :: l) = (if isSameA x = true then o else x) :: mergeL r l := by cases x <;> rfl
    rw [h3]
    refine ⟨by simp [h1], fun c a h => ?_⟩
    cases c with
    | zero =>
      simp only [List.getElem?_cons_zero, Option.some.injEq] at h
      refine ⟨x, rfl, ?_⟩
      cases hx : isSameA x with
      | true => rw [hx, if_pos rfl] at h; exact .inl ⟨rfl, by rw [h]; rfl⟩
      | false => rw [hx] at h; exact .inr (.inl ⟨rfl, h.symm⟩)
    | succ c =>
      obtain ⟨a1, g1, g2⟩ := h2 c a (by simpa using h)
      refine ⟨a1, by simpa using g1, ?_⟩
      rcases g2 with g2 | g2 | g2
      · exact .inl ⟨g2.1, by simpa using g2.2⟩
      · exact .inr (.inl g2)
      · exact .inr (.inr ⟨by simp; exact g2.1, g2.2⟩)
theorem movBk_get (g : Nat → Nat) (b : List (List AV)) : ∀ (js : List Nat) (l : List (List AV)), (movBk g b js l).length = l.length ∧ ∀ (i : Nat) (cs : List AV), (movBk g b js l)[i]? = some cs → ∃ c0, l[i]? = some c0 ∧ ((∃ j, js[i]? = some j ∧ cs = mergeL (getB b j) (mapL (AV.mov1 g) c0)) ∨ (js.length ≤ i ∧ cs = mapL (AV.mov1 g) c0))
  | [], l => by
    obtain ⟨h1, h2⟩ := movB_get g l
    have e0 : movBk g b [] l = movB g l := by cases l <;> rfl
    rw [e0]
    refine ⟨h1, fun i cs h => ?_⟩
    obtain ⟨c0, h3, h4⟩ := h2 i cs h
    exact ⟨c0, h3, .inr ⟨Nat.zero_le _, h4⟩⟩
  | j :: js, [] => ⟨rfl, fun i cs h => by simp [movBk, movB] at h⟩
  | j :: js, x :: l => by
    obtain ⟨h1, h2⟩ := movBk_get g b js l
    refine ⟨by simp [movBk, h1], fun i cs h => ?_⟩
    cases i with
    | zero =>
      simp only [movBk, List.getElem?_cons_zero, Option.some.injEq] at h
      exact ⟨x, rfl, .inl ⟨j, rfl, h.symm⟩⟩
    | succ i =>
      obtain ⟨c0, h3, h4⟩ := h2 i cs (by simpa [movBk] using h)
      refine ⟨c0, by simpa using h3, ?_⟩
      rcases h4 with ⟨j', h4, h5⟩ | ⟨h4, h5⟩
      · exact .inl ⟨j', by simpa using h4, h5⟩
      · exact .inr ⟨by simp; exact h4, h5⟩
theorem backB_get : ∀ (js : List Nat) (b xs : List (List AV)), js.Nodup → (∀ j, j ∈ js → j < b.length) → js.length ≤ xs.length →
    (backB b js xs).length = b.length + (xs.length - js.length) ∧ (∀ (j : Nat), j ∉ js → j < b.length → (backB b js xs)[j]? = b[j]?) ∧ (∀ (i j : Nat), js[i]? = some j → (backB b js xs)[j]? = xs[i]?) ∧ ∀ (i : Nat), js.length ≤ i → (backB b js xs)[b.length + (i - js.length)]? = xs[i]?
  | [], b, xs, hn, hl, hle => by
    refine ⟨by simp [backB], fun j _ hj => by simp only [backB]; rw [List.getElem?_append_left hj], fun i j h => by simp at h, fun i _ => ?_⟩
    simp only [backB, List.length_nil, Nat.sub_zero]
    rw [List.getElem?_append_right (by omega)]
    congr 1
    omega
  | j0 :: js, b, [], hn, hl, hle => by simp at hle
  | j0 :: js, b, x :: xs, hn, hl, hle => by
    obtain ⟨hn1, hn2⟩ := List.nodup_cons.mp hn
    have hlen : (setB b j0 x).length = b.length := by rw [setB_eq, List.length_set]
    obtain ⟨h1, h2, h3, h4⟩ := backB_get js (setB b j0 x) xs hn2 (fun j hj => by rw [hlen]; exact hl j (List.mem_cons_of_mem _ hj)) (by simpa using hle)
    rw [hlen] at h1 h4
    simp only [backB]
    refine ⟨by rw [h1]; simp, fun j hj hlt => ?_, fun i j h => ?_, fun i hi => ?_⟩
    · have hne : j ≠ j0 := fun he => hj (by rw [he]; exact List.mem_cons_self)
      rw [h2 j (fun hm => hj (List.mem_cons_of_mem _ hm)) (by rw [hlen]; exact hlt), setB_eq, List.getElem?_set, if_neg (fun he => hne he.symm)]
    · cases i with
      | zero =>
        obtain rfl : j0 = j := by simpa using h
        have hlt := hl j0 List.mem_cons_self
        rw [h2 j0 hn1 (by rw [hlen]; exact hlt), setB_eq, List.getElem?_set, if_pos rfl, if_pos hlt]
        rfl
      | succ i => rw [h3 i j (by simpa using h)]; rfl
    · cases i with
      | zero => simp at hi
      | succ i =>
        have := h4 i (by simpa using hi)
        rw [List.length_cons, show i + 1 - (js.length + 1) = i - js.length by omega, this]
        rfl
end
end Go.Proofs.YtbakkcdanoopgaaGreatDoor.Ev
set_option linter.unusedVariables false
set_option linter.unusedSimpArgs false
namespace Go.Proofs.YtbakkcdanoopgaaGreatDoor.Ev
open Go Go.RowKit Go.Proofs.YtbakkcdanoopgaaGreatDoorW.PrintWords Go.Proofs.YtbakkcdanoopgaaGreatDoorW.PrintMore Kd
mutual
/-- No slice that is only read lies in it. -/
def noSlA : AV → Prop
  | .sl _ _ _ _ => False
  | .fn _ first l => noSlAs first ∧ noSlAs l
  | .agg l => noSlAs l
  | .tup l => noSlAs l
  | .same a => noSlA a
  | _ => True
def noSlAs : List AV → Prop
  | [] => True
  | a :: l => noSlA a ∧ noSlAs l
end
theorem noSlAs_mem : ∀ {l : List AV}, noSlAs l → ∀ a, a ∈ l → noSlA a
  | b :: l, h, a, ha => by
    rcases List.mem_cons.mp ha with rfl | ha
    · exact h.1
    · exact noSlAs_mem h.2 a ha
mutual
theorem build_noSl : ∀ (p : Pt) (h : List HV) (a : AV) (r : List HV), p.noSl = true → p.build h = some (a, r) → noSlA a
  | .junk, h, a, r, hp, hb => by
    obtain ⟨rfl, -⟩ : AV.junk = a ∧ h = r := by simpa [Pt.build] using hb
    trivial
  | .cst x, h, a, r, hp, hb => by
    obtain ⟨rfl, -⟩ : AV.v x = a ∧ h = r := by simpa [Pt.build] using hb
    trivial
  | .sc t, h, a, r, hp, hb => by
    cases t with
    | int k =>
      cases h with
      | nil => simp [Pt.build] at hb
      | cons v h =>
        obtain ⟨t', x⟩ := v
        cases t' <;> simp only [Pt.build] at hb <;> (try split at hb) <;> first | (cases hb; trivial) | cases hb
    | bool =>
      cases h with
      | nil => simp [Pt.build] at hb
      | cons v h =>
        obtain ⟨t', x⟩ := v
        cases t' <;> simp only [Pt.build] at hb <;> first | (cases hb; trivial) | cases hb
    | str =>
      cases h with
      | nil => simp [Pt.build] at hb
      | cons v h =>
        obtain ⟨t', x⟩ := v
        cases t' <;> simp only [Pt.build] at hb <;> first | (cases hb; trivial) | cases hb
    | sl e u => simp [Pt.build] at hb
    | pr u v => simp [Pt.build] at hb
  | .sl e t, h, a, r, hp, hb => by simp [Pt.noSl] at hp
  | .own e t, h, a, r, hp, hb => by
    cases h with
    | nil => simp [Pt.build] at hb
    | cons v h =>
      obtain ⟨t', x⟩ := v
      cases t' <;> simp only [Pt.build] at hb
      case sl e' u =>
        split at hb
        · split at hb
          · cases hb; trivial
          · cases hb
        · cases hb
      all_goals cases hb
  | .tok n, h, a, r, hp, hb => by
    obtain ⟨rfl, -⟩ : AV.rt (.tok n) = a ∧ h = r := by simpa [Pt.build] using hb
    trivial
  | .ptr j off, h, a, r, hp, hb => by
    obtain ⟨rfl, -⟩ : AV.ptr j off = a ∧ h = r := by simpa [Pt.build] using hb
    trivial
  | .fn f ps cs, h, a, r, hp, hb => by
    simp only [Pt.build] at hb
    unfold Pt.noSl at hp
    simp only [Bool.and_eq_true] at hp
    split at hb
    · rename_i l k1 hl
      split at hb
      · rename_i m k2 hm
        obtain ⟨rfl, -⟩ : AV.fn f l m = a ∧ k2 = r := by simpa using hb
        exact ⟨builds_noSl ps h l k1 hp.1 hl, builds_noSl cs k1 m k2 hp.2 hm⟩
      · cases hb
    · cases hb
  | .agg cs, h, a, r, hp, hb => by
    simp only [Pt.build] at hb
    split at hb
    · rename_i l h' hl
      obtain ⟨rfl, -⟩ : AV.agg l = a ∧ h' = r := by simpa using hb
      exact builds_noSl cs h l h' (by simpa [Pt.noSl] using hp) hl
    · cases hb
  | .tup cs, h, a, r, hp, hb => by
    simp only [Pt.build] at hb
    split at hb
    · rename_i l h' hl
      obtain ⟨rfl, -⟩ : AV.tup l = a ∧ h' = r := by simpa using hb
      exact builds_noSl cs h l h' (by simpa [Pt.noSl] using hp) hl
    · cases hb
  | .same p, h, a, r, hp, hb => by
    simp only [Pt.build] at hb
    split at hb
    · rename_i b h' hl
      obtain ⟨rfl, -⟩ : AV.same b = a ∧ h' = r := by simpa using hb
      exact build_noSl p h b h' (by simpa [Pt.noSl] using hp) hl
    · cases hb
theorem builds_noSl : ∀ (ps : List Pt) (h : List HV) (l : List AV) (r : List HV), Pt.noSls ps = true → Pt.builds ps h = some (l, r) → noSlAs l
  | [], h, l, r, hp, hb => by
    obtain ⟨rfl, -⟩ : [] = l ∧ h = r := by simpa [Pt.builds] using hb
    trivial
  | p :: ps, h, l, r, hp, hb => by
    simp only [Pt.builds] at hb
    simp only [Pt.noSls, Bool.and_eq_true] at hp
    split at hb
    · rename_i a h1 ha
      split at hb
      · rename_i l2 h2 hl2
        obtain ⟨rfl, -⟩ : a :: l2 = l ∧ h2 = r := by simpa using hb
        exact ⟨build_noSl p h a h1 hp.1 ha, builds_noSl ps h1 l2 h2 hp.2 hl2⟩
      · cases hb
    · cases hb
end
theorem buildB_noSl : ∀ (ps : List (List Pt)) (h : List HV) (l : List (List AV)) (r : List HV), Pt.noSlB ps = true → Pt.buildB ps h = some (l, r) → ∀ cs, cs ∈ l → noSlAs cs
  | [], h, l, r, hp, hb => by
    obtain ⟨rfl, -⟩ : [] = l ∧ h = r := by simpa [Pt.buildB] using hb
    intro cs hc; simp at hc
  | p :: ps, h, l, r, hp, hb => by
    simp only [Pt.buildB] at hb
    simp only [Pt.noSlB, Bool.and_eq_true] at hp
    split at hb
    · rename_i a h1 ha
      split at hb
      · rename_i l2 h2 hl2
        obtain ⟨rfl, -⟩ : a :: l2 = l ∧ h2 = r := by simpa using hb
        intro cs hc
        rcases List.mem_cons.mp hc with rfl | hc
        · exact builds_noSl p h _ h1 hp.1 ha
        · exact buildB_noSl ps h1 l2 h2 hp.2 hl2 cs hc
      · cases hb
    · cases hb
end Go.Proofs.YtbakkcdanoopgaaGreatDoor.Ev
set_option linter.unusedVariables false
set_option linter.unusedSimpArgs false
namespace Go.Proofs.YtbakkcdanoopgaaGreatDoor.Ev
open Go Go.RowKit Go.Proofs.YtbakkcdanoopgaaGreatDoorW.PrintWords Go.Proofs.YtbakkcdanoopgaaGreatDoorW.PrintMore Kd
section
variable {E E' : Env} {s s' : St} {act : Act} {W W' : World} {js : List Nat} {L : List Root} {K : Kp} {pb : List (List Pt)} {pw : Nat → Nat → Bool}
theorem back_own (hA : Aft ((E.callee js L K).frz pb pw) W E' W') {n b : Nat} (h1 : E'.own b ≠ .free) (h2 : E'.own b ≠ .hid) :
    (E.back ((E.callee js L K).frz pb pw) E' W.heap.size js n K.sm).own b = (match E'.own b with | .way k c => .way k c | .box i => .box (getN js i n) | .cell i c => .cell (getN js i n) c | _ => .free) := by
  refine if_neg fun ⟨hb, h3⟩ => ?_
  have h4 := (hA.free b hb h3).1
  rcases h3 with h3 | h3
  · exact h1 (h4.trans h3)
  · exact h2 (h4.trans h3)
theorem back_free (hA : Aft ((E.callee js L K).frz pb pw) W E' W') (hL : L = []) {n b : Nat} (h : E'.own b = .free) :
    (E.back ((E.callee js L K).frz pb pw) E' W.heap.size js n K.sm).own b = .free := by
  by_cases hb : b < W.heap.size ∧ (((E.callee js L K).frz pb pw).own b = .free ∨ ((E.callee js L K).frz pb pw).own b = .hid)
  · refine (if_pos hb).trans ?_
    by_cases hg : goesB js K.sm (E.own b) = true
    · exact if_pos hg
    · refine (if_neg hg).trans ?_
      have h3 := (hA.free b hb.1 hb.2).1
      rw [h] at h3
      have hg' : ¬ Goes js K.sm (E.own b) := fun hh => hg (goesB_iff.mpr hh)
      subst hL
      have h4 : (match (E.callee js [] K).own b with
        | .cell j c => if isSl ((pb.getD j []).getD c .junk) then Owner.free else .cell j c
        | .way k c => if pw k c then .free else .way k c
        | o => o) = .free := h3.symm
      have h5 : (E.callee js [] K).own b = (match E.own b with
        | .way k c => .way k c
        | .box j => if j ∈ js then .box (at_ js j 0) else .hid
        | .cell j c => if j ∈ js then (if K.sm j c = true then .hid else .cell (at_ js j 0) c) else if Root.cell j c ∈ ([] : List Root) then .free else .hid
        | .tok n => if Root.tok n ∈ ([] : List Root) then .free else .hid
        | .free => .free
        | _ => .hid) := rfl
      cases ho : E.own b with
      | free => rfl
      | way k c => exact absurd (.inl ⟨k, c, ho⟩) hg'
      | box j =>
        have hj : j ∉ js := fun hm => hg' (.inr ⟨j, hm, .inl ho⟩)
        rw [h5, ho] at h4; simp [hj] at h4
      | cell j c =>
        rw [h5, ho] at h4
        by_cases hj : j ∈ js
        · cases hs : K.sm j c with
          | false => exact absurd (.inr ⟨j, hj, .inr ⟨c, hs, ho⟩⟩) hg'
          | true => simp [hj, hs] at h4
        · simp [hj] at h4
      | tok n => rw [h5, ho] at h4; simp at h4
      | hand p b' => rw [h5, ho] at h4; simp at h4
      | hid => rw [h5, ho] at h4; simp at h4
  · refine (if_neg hb).trans ?_
    rw [h]
theorem back_adr (hA : Aft ((E.callee js L K).frz pb pw) W E' W') (hl : ∀ j, j ∈ js → j < E.adr.length) {i g : Nat} (h : E'.adr[i]? = some g) :
    (E.back ((E.callee js L K).frz pb pw) E' W.heap.size js E.adr.length K.sm).adr[getN js i E.adr.length]? = some g := by
  show (E.adr ++ E'.adr.drop js.length)[getN js i E.adr.length]? = some g
  obtain ⟨g1, g2⟩ := getN_spec js i E.adr.length
  obtain ⟨l, hl'⟩ := hA.adr
  have e0 : ((E.callee js L K).frz pb pw).adr = js.map (fun j => E.adr.getD j 0) := rfl
  rw [e0] at hl'
  by_cases hi : i < js.length
  · have hj : js[i]? = some js[i] := List.getElem?_eq_getElem hi
    rw [g1 _ hj]
    have hlt := hl js[i] (List.getElem_mem hi)
    rw [List.getElem?_append_left hlt]
    rw [hl', List.getElem?_append_left (by rw [List.length_map]; exact hi), List.getElem?_map, hj] at h
    have h' : E.adr.getD js[i] 0 = g := by simpa using h
    rw [← h', List.getD_eq_getElem?_getD, List.getElem?_eq_getElem hlt]
    rfl
  · rw [g2 (by omega), List.getElem?_append_right (by omega), List.getElem?_drop]
    rw [← h]
    congr 1
    omega
theorem back_repS (hA : Aft ((E.callee js L K).frz pb pw) W E' W') (hl : ∀ j, j ∈ js → j < E.adr.length) {a : AV} {y : Value} (hL : L = [] ∨ noSlA a) (h : RepS E' W' a y) :
    RepS (E.back ((E.callee js L K).frz pb pw) E' W.heap.size js E.adr.length K.sm) W' (a.mov1 fun i => getN js i E.adr.length) y := by
  cases a with
  | sl m e t xs =>
    cases m with
    | none =>
      obtain ⟨A, c, h1, h2, h3⟩ := h
      rcases hL with hL | hL
      · exact ⟨A, c, h1, h2, F_mono h3 fun b hb => back_free hA hL hb⟩
      · exact hL.elim
    | some q => exact h.elim
  | ptr j off =>
    obtain ⟨g, h1, h2⟩ := h
    exact ⟨g, back_adr hA hl h1, h2⟩
  | v x => exact h
  | junk => trivial
  | _ => exact h.elim
theorem back_all (hA : Aft ((E.callee js L K).frz pb pw) W E' W') (hl : ∀ j, j ∈ js → j < E.adr.length) : ∀ {l : List AV} {m : List Value}, (L = [] ∨ noSlAs l) → All2 (RepS E' W') l m →
    All2 (RepS (E.back ((E.callee js L K).frz pb pw) E' W.heap.size js E.adr.length K.sm) W') (mapL (AV.mov1 fun i => getN js i E.adr.length) l) m
  | [], [], _, _ => trivial
  | a :: l, y :: m, hL, h => ⟨back_repS hA hl (hL.imp id fun h => h.1) h.1, back_all hA hl (hL.imp id fun h => h.2) h.2⟩
theorem back_argT (hA : Aft ((E.callee js L K).frz pb pw) W E' W') (hl : ∀ j, j ∈ js → j < E.adr.length) {k c : Nat} {a : AV} {y : Value} (hL : L = [] ∨ noSlA a) (h : ArgT E' W' (fun x => x = .way k c) a y) :
    ArgT (E.back ((E.callee js L K).frz pb pw) E' W.heap.size js E.adr.length K.sm) W' (fun x => x = .way k c) (a.mov2 fun i => getN js i E.adr.length) y := by
  cases a with
  | own e t xs =>
    refine R_mono h fun b hb => ?_
    have hb' : E'.own b = .way k c := hb
    rw [back_own hA (by rw [hb']; simp) (by rw [hb']; simp), hb']
  | sl m e t xs =>
    cases m with
    | none => exact back_repS hA hl (a := .sl none e t xs) hL h
    | some q => exact h.elim
  | ptr j off => exact back_repS (a := .ptr j off) hA hl hL h
  | v x => exact h
  | junk => trivial
  | fn f first caps =>
    obtain ⟨fs, cs, h1, h2, h3⟩ := h
    exact ⟨fs, cs, h1, back_all hA hl (hL.imp id fun h => h.1) h2, back_all hA hl (hL.imp id fun h => h.2) h3⟩
  | _ => exact h.elim
theorem back_cells (hA : Aft ((E.callee js L K).frz pb pw) W E' W') (hl : ∀ j, j ∈ js → j < E.adr.length) {k : Nat} : ∀ {l : List AV} {m : List Value} {p : Nat}, (L = [] ∨ noSlAs l) → AllQ (fun c => ArgT E' W' (fun x => x = .way k c)) p l m →
    AllQ (fun c => ArgT (E.back ((E.callee js L K).frz pb pw) E' W.heap.size js E.adr.length K.sm) W' (fun x => x = .way k c)) p (mapL (AV.mov2 fun i => getN js i E.adr.length) l) m
  | [], [], _, _, _ => trivial
  | a :: l, y :: m, p, hL, h => ⟨back_argT hA hl (hL.imp id fun h => h.1) h.1, back_cells hA hl (hL.imp id fun h => h.2) h.2⟩
theorem back_argV (hA : Aft ((E.callee js L K).frz pb pw) W E' W') (hl : ∀ j, j ∈ js → j < E.adr.length) {k : Nat} {a : AV} {y : Value} (hL : L = [] ∨ noSlA a) (h : ArgV E' W' k a y) :
    ArgV (E.back ((E.callee js L K).frz pb pw) E' W.heap.size js E.adr.length K.sm) W' k (a.mov fun i => getN js i E.adr.length) y := by
  by_cases hc : ∃ cs, a = .agg cs
  · obtain ⟨cs, rfl⟩ := hc
    obtain ⟨vs, h1, h2⟩ := h
    exact ⟨vs, h1, back_cells hA hl (hL.imp id fun h => h) h2⟩
  · have hn : ∀ cs, a ≠ .agg cs := fun cs he => hc ⟨cs, he⟩
    rw [argV_T hn] at h
    have e0 : (a.mov fun i => getN js i E.adr.length) = a.mov2 fun i => getN js i E.adr.length := by cases a <;> first | rfl | exact absurd rfl (hn _)
    rw [e0, argV_T fun cs he => by cases a <;> simp [AV.mov2, AV.mov1] at he; exact hn _ rfl]
    exact back_argT hA hl hL h
theorem back_args (hA : Aft ((E.callee js L K).frz pb pw) W E' W') (hl : ∀ j, j ∈ js → j < E.adr.length) : ∀ {l : List AV} {m : List Value} {k : Nat}, (L = [] ∨ noSlAs l) → AllQ (ArgV E' W') k l m →
    AllQ (ArgV (E.back ((E.callee js L K).frz pb pw) E' W.heap.size js E.adr.length K.sm) W') k (mapL (AV.mov fun i => getN js i E.adr.length) l) m
  | [], [], _, _, _ => trivial
  | a :: l, y :: m, k, hL, h => ⟨back_argV hA hl (hL.imp id fun h => h.1) h.1, back_args hA hl (hL.imp id fun h => h.2) h.2⟩
theorem back_repC (hA : Aft ((E.callee js L K).frz pb pw) W E' W') (hl : ∀ j, j ∈ js → j < E.adr.length) {i c : Nat} {a : AV} {y : Value} (hL : L = [] ∨ noSlA a) (hn : isSameA a = false) (h : RepC E' W' (.cell i c) a y) :
    RepC (E.back ((E.callee js L K).frz pb pw) E' W.heap.size js E.adr.length K.sm) W' (.cell (getN js i E.adr.length) c) (a.mov1 fun i => getN js i E.adr.length) y := by
  cases a with
  | own e t xs =>
    refine R_mono h fun b hb => ?_
    have hb' : E'.own b = .cell i c := hb
    rw [back_own hA (by rw [hb']; simp) (by rw [hb']; simp), hb']
  | sl m e t xs => exact back_repS (a := .sl m e t xs) hA hl hL h
  | ptr j off => exact back_repS (a := .ptr j off) hA hl hL h
  | v x => exact h
  | junk => trivial
  | same a => cases hn
  | _ => exact h.elim
theorem isSame_mov (g : Nat → Nat) (a : AV) : isSameA (a.mov1 g) = isSameA a := by cases a <;> rfl
def Kept (js : List Nat) (K : Kp) (b bx : List (List AV)) : Prop := ∀ (i c : Nat) (cs : List AV) (a : AV), bx[i]? = some cs → cs[c]? = some a → isSameA a = true → ∃ j, js[i]? = some j ∧ K.sm j c = true ∧ c < (getB b j).length
theorem back_box (hR : Rep E s act W) (hA : Aft ((E.callee js L K).frz pb pw) W E' W') (hl : ∀ j, j ∈ js → j < E.adr.length) (hK : K.OK E W js pb) {bx : List (List AV)} (hkept : Kept js K s.boxes bx) {i : Nat} {c0 cs : List AV} (hi : bx[i]? = some c0) (hL : L = [] ∨ noSlAs c0) (h : Box E' W' i c0)
    (hcs : (∃ j, js[i]? = some j ∧ cs = mergeL (getB s.boxes j) (mapL (AV.mov1 fun i => getN js i E.adr.length) c0)) ∨ (js.length ≤ i ∧ cs = mapL (AV.mov1 fun i => getN js i E.adr.length) c0)) :
    Box (E.back ((E.callee js L K).frz pb pw) E' W.heap.size js E.adr.length K.sm) W' (getN js i E.adr.length) cs := by
  obtain ⟨g, ty, cells, h1, h2, h3, h4, h5⟩ := h
  have hadr := back_adr (pb := pb) (pw := pw) hA hl h1
  have hown : (E.back ((E.callee js L K).frz pb pw) E' W.heap.size js E.adr.length K.sm).own g = .box (getN js i E.adr.length) := by
    rw [back_own hA (by rw [h2]; simp) (by rw [h2]; simp), h2]
  have plain : ∀ (c : Nat) (a1 : AV) (y : Value), (mapL (AV.mov1 fun i => getN js i E.adr.length) c0)[c]? = some a1 → isSameA a1 = false → cells[c]? = some y → RepC (E.back ((E.callee js L K).frz pb pw) E' W.heap.size js E.adr.length K.sm) W' (.cell (getN js i E.adr.length) c) a1 y := fun c a1 y ha hs hy => by
    rw [mapL_eq, List.getElem?_map] at ha
    cases hc : c0[c]? with
    | none => rw [hc] at ha; cases ha
    | some a0 =>
      rw [hc] at ha
      obtain rfl : AV.mov1 (fun i => getN js i E.adr.length) a0 = a1 := by simpa using ha
      rw [isSame_mov] at hs
      exact back_repC hA hl (hL.imp id fun h => noSlAs_mem h a0 (List.mem_of_getElem? hc)) hs (h5 c a0 y hc hy)
  have hsm : ∀ (c : Nat) (a1 : AV), (mapL (AV.mov1 fun i => getN js i E.adr.length) c0)[c]? = some a1 → isSameA a1 = true → ∃ a2 j, c0[c]? = some (.same a2) ∧ js[i]? = some j ∧ K.sm j c = true ∧ c < (getB s.boxes j).length := fun c a1 ha hs => by
    rw [mapL_eq, List.getElem?_map] at ha
    cases hc : c0[c]? with
    | none => rw [hc] at ha; cases ha
    | some a0 =>
      rw [hc] at ha
      obtain rfl : AV.mov1 (fun i => getN js i E.adr.length) a0 = a1 := by simpa using ha
      rw [isSame_mov] at hs
      obtain ⟨j, k1, k2⟩ := hkept i c c0 a0 hi hc hs
      cases a0 with
      | same a2 => exact ⟨a2, j, rfl, k1, k2⟩
      | _ => cases hs
  rcases hcs with ⟨j, hj, rfl⟩ | ⟨hi', rfl⟩
  · have hjs : j ∈ js := List.mem_of_getElem? hj
    have hlt : j < s.boxes.length := by rw [hR.ln]; exact hl j hjs
    have hb : s.boxes[j]? = some (s.boxes[j]'hlt) := List.getElem?_eq_getElem hlt
    obtain ⟨g0, ty0, cells0, b1, b2, b3, b4, b5⟩ := hR.bx j _ hb
    rw [getB_of hb]
    obtain ⟨m1, m2⟩ := mergeL_get (s.boxes[j]'hlt) (mapL (AV.mov1 fun i => getN js i E.adr.length) c0)
    refine ⟨g, ty, cells, hadr, hown, h3, by rw [m1, mapL_eq, List.length_map]; exact h4, fun c a y ha hy => ?_⟩
    obtain ⟨a1, k1, k2⟩ := m2 c a ha
    rcases k2 with ⟨k2, k3⟩ | ⟨k2, rfl⟩ | ⟨k2, rfl⟩
    · obtain ⟨a2, j', e1, e2, e3, -⟩ := hsm c a1 k1 k2
      obtain rfl : j = j' := by rw [hj] at e2; exact Option.some.inj e2
      obtain ⟨-, h7⟩ := h5 c (.same a2) y e1 hy
      have h8 := h7 i c rfl
      have hg : getN js i E.adr.length = j := (getN_spec js i E.adr.length).1 j hj
      have hc0 : c < cells0.size := by rw [b4]; exact (List.getElem?_eq_some_iff.mp k3).1
      have hy0 : cells0[c]? = some cells0[c] := Array.getElem?_eq_getElem hc0
      have h9 := hK.kv i j g0 ty0 cells0 c _ hj b1 b3 hy0
      have h10 : E'.kv i c = K.kv i c := congrFun (congrFun hA.kv i) c
      have h11 : y = cells0[c] := by rw [h8, h10, h9]
      rw [hg, h11]
      have hm := back_move (E := E) (L := L) (n := E.adr.length) hA
      refine hm.repC (by simp [Goes]) ?_ (b5 c a _ k3 hy0)
      rintro (⟨k, c', h⟩ | ⟨j', q1, h | ⟨c', q2, h⟩⟩)
      · cases h
      · cases h
      · injection h with e4 e5
        subst e4; subst e5
        rw [e3] at q2
        cases q2
    · exact plain c a y k1 k2 hy
    · cases hs : isSameA a with
      | false => exact plain c a y k1 hs hy
      | true =>
        obtain ⟨a2, j', e1, e2, e3, e4⟩ := hsm c a k1 hs
        obtain rfl : j = j' := by rw [hj] at e2; exact Option.some.inj e2
        rw [getB_of hb] at e4
        omega
  · refine ⟨g, ty, cells, hadr, hown, h3, by rw [mapL_eq, List.length_map]; exact h4, fun c a y ha hy => ?_⟩
    cases hs : isSameA a with
    | false => exact plain c a y ha hs hy
    | true =>
      obtain ⟨a2, j', e1, e2, e3, -⟩ := hsm c a ha hs
      have := (List.getElem?_eq_some_iff.mp e2).1
      omega
theorem back_rep (hR : Rep E s act W) (hn : js.Nodup) (hl : ∀ j, j ∈ js → j < s.boxes.length) (hA : Aft ((E.callee js L K).frz pb pw) W E' W') (hK : K.OK E W js pb) {bx : List (List AV)}
    (hbx : ∀ (j : Nat) (cs : List AV), bx[j]? = some cs → Box E' W' j cs) (hlen : bx.length = E'.adr.length) (hle : js.length ≤ bx.length) (hkept : Kept js K s.boxes bx) (hnew : ∀ k, W'.heap.size ≤ k → E'.own k = .free) (hL : L = [] ∨ ∀ cs, cs ∈ bx → noSlAs cs) :
    Rep (E.back ((E.callee js L K).frz pb pw) E' W.heap.size js s.boxes.length K.sm) (({ s with boxes := backB s.boxes js (movBk (fun i => getN js i s.boxes.length) s.boxes js bx) }).kill (goneR js bx)) act W' ∧
    After E W (E.back ((E.callee js L K).frz pb pw) E' W.heap.size js s.boxes.length K.sm) W' := by
  have hm := back_move (E := E) (L := L) (n := s.boxes.length) hA
  have hfree : ¬ Goes js K.sm .free := by simp [Goes]
  have htok : ∀ n, ¬ Goes js K.sm (.tok n) := by simp [Goes]
  have hnj : ∀ j, j ∉ js → ¬ Goes js K.sm (.box j) ∧ ∀ c, ¬ Goes js K.sm (.cell j c) := fun j hj => by
    refine ⟨by simp [Goes, hj], fun c => ?_⟩
    rintro (⟨k, c', h⟩ | ⟨j', q1, h | ⟨c', q2, h⟩⟩)
    · cases h
    · cases h
    · injection h with e4 e5
      exact hj (e4 ▸ q1)
  have hsmc : ∀ j c, K.sm j c = true → ¬ Goes js K.sm (.cell j c) := fun j c hs => by
    rintro (⟨k, c', h⟩ | ⟨j', q1, h | ⟨c', q2, h⟩⟩)
    · cases h
    · cases h
    · injection h with e4 e5
      subst e4; subst e5
      rw [hs] at q2
      cases q2
  have hln := hR.ln
  have hl0 := hl
  rw [hln] at hl hm ⊢
  obtain ⟨m1, m2⟩ := movBk_get (fun i => getN js i E.adr.length) s.boxes js bx
  obtain ⟨b1, b2, b3, b4⟩ := backB_get js s.boxes (movBk (fun i => getN js i E.adr.length) s.boxes js bx) hn (by rw [hln]; exact hl) (by rw [m1]; exact hle)
  have hnew' : ∀ k, W'.heap.size ≤ k → (E.back ((E.callee js L K).frz pb pw) E' W.heap.size js E.adr.length K.sm).own k = .free := fun k hk => by
    refine (if_neg fun h => ?_).trans ?_
    · have := hA.size; omega
    · rw [hnew k hk]
  have fromBx : ∀ i cs j, (movBk (fun i => getN js i E.adr.length) s.boxes js bx)[i]? = some cs → getN js i E.adr.length = j → Box (E.back ((E.callee js L K).frz pb pw) E' W.heap.size js E.adr.length K.sm) W' j cs := fun i cs j hi hg => by
    obtain ⟨c0, h1, h2⟩ := m2 i cs hi
    subst hg
    exact back_box hR hA hl hK hkept h1 (hL.imp id fun h => h c0 (List.mem_of_getElem? h1)) (hbx i c0 h1) h2
  have hboxes : ∀ (j : Nat) (cs : List AV), (backB s.boxes js (movBk (fun i => getN js i E.adr.length) s.boxes js bx))[j]? = some cs →
      (s.boxes[j]? = some cs ∧ ¬ Goes js K.sm (.box j) ∧ ∀ c, ¬ Goes js K.sm (.cell j c)) ∨ Box (E.back ((E.callee js L K).frz pb pw) E' W.heap.size js E.adr.length K.sm) W' j cs := fun j cs hj => by
    by_cases hjs : j ∈ js
    · obtain ⟨i, hi⟩ := List.getElem?_of_mem hjs
      rw [b3 i j hi] at hj
      exact .inr (fromBx i cs j hj ((getN_spec js i E.adr.length).1 j hi))
    · by_cases hlt : j < s.boxes.length
      · rw [b2 j hjs hlt] at hj
        exact .inl ⟨hj, hnj j hjs⟩
      · have hjb : j < (backB s.boxes js (movBk (fun i => getN js i E.adr.length) s.boxes js bx)).length := (List.getElem?_eq_some_iff.mp hj).1
        rw [b1] at hjb
        have e1 : j = s.boxes.length + ((j - s.boxes.length + js.length) - js.length) := by omega
        rw [e1, b4 _ (by omega)] at hj
        refine .inr (fromBx _ cs j hj ?_)
        rw [(getN_spec js _ E.adr.length).2 (by omega)]
        omega
  -- a cell that stays: its place, what it holds
  have stay : ∀ j c, j ∈ js → goneR js bx (.cell j c) = false → ∃ (i : Nat) (c0 : List AV) (a2 : AV), js[i]? = some j ∧ bx[i]? = some c0 ∧ c0[c]? = some (AV.same a2) ∧ K.sm j c = true := fun j c hj hg => by
    obtain ⟨i, hi⟩ := List.getElem?_of_mem hj
    have hat := at_nodup hn 0 hi
    rw [Nat.zero_add] at hat
    have hlt : i < bx.length := Nat.lt_of_lt_of_le (List.getElem?_eq_some_iff.mp hi).1 hle
    have hb : bx[i]? = some (bx[i]'hlt) := List.getElem?_eq_getElem hlt
    unfold goneR at hg
    simp only [hat, getB_of hb] at hg
    have hc : js.contains j = true := by simpa using hj
    rw [hc, Bool.true_and, Bool.not_eq_false'] at hg
    cases hcc : (bx[i]'hlt)[c]? with
    | none => rw [getT_eq, hcc] at hg; cases hg
    | some a0 =>
      rw [getT_of hcc] at hg
      obtain ⟨j', k1, k2, -⟩ := hkept i c _ a0 hb hcc hg
      obtain rfl : j = j' := by rw [hi] at k1; exact Option.some.inj k1
      cases a0 with
      | same a2 => exact ⟨i, _, a2, hi, hb, hcc, k2⟩
      | _ => cases hg
  have hmem : ∀ j c, goneR js bx (.cell j c) = false → (j ∉ js ∨ K.sm j c = true) := fun j c hg => by
    by_cases hj : j ∈ js
    · obtain ⟨_, _, _, _, _, _, h⟩ := stay j c hj hg
      exact .inr h
    · exact .inl hj
  have hroot : ∀ q : Root, goneR js bx q = false → ∀ e t xs, s.root q = .own e t xs → (({ s with boxes := backB s.boxes js (movBk (fun i => getN js i E.adr.length) s.boxes js bx) } : St).kill (goneR js bx)).root q = .own e t xs := fun q hq e t xs h => by
    cases q with
    | tok n => exact inLit_own h
    | cell j c =>
      obtain ⟨cs, h2, h3⟩ := box_of_cell (s := s) (j := j) (c := c) h (by simp)
      show getT (getB (backB s.boxes js _) j) c = _
      by_cases hj : j ∈ js
      · obtain ⟨i, c0, a2, g1, g2, g3, g4⟩ := stay j c hj hq
        have hil : i < (movBk (fun i => getN js i E.adr.length) s.boxes js bx).length := by rw [m1]; exact (List.getElem?_eq_some_iff.mp g2).1
        have hcs := List.getElem?_eq_getElem hil
        obtain ⟨c1, k1, k2⟩ := m2 i _ hcs
        obtain rfl : c0 = c1 := by rw [g2] at k1; exact Option.some.inj k1
        rw [getB_of (by rw [b3 i j g1]; exact hcs)]
        rcases k2 with ⟨j', k2, k3⟩ | ⟨k2, -⟩
        · obtain rfl : j = j' := by rw [g1] at k2; exact Option.some.inj k2
          rw [k3, getB_of h2]
          obtain ⟨n1, n2⟩ := mergeL_get cs (mapL (AV.mov1 fun i => getN js i E.adr.length) c0)
          have hcl : c < (mergeL cs (mapL (AV.mov1 fun i => getN js i E.adr.length) c0)).length := by
            rw [n1, mapL_eq, List.length_map]
            exact (List.getElem?_eq_some_iff.mp g3).1
          have hx := List.getElem?_eq_getElem hcl
          obtain ⟨a1, p1, p2⟩ := n2 c _ hx
          rw [mapL_eq, List.getElem?_map, g3] at p1
          obtain rfl : AV.same a2 = a1 := by simpa [AV.mov1] using p1
          rw [getT_of hx]
          rcases p2 with ⟨_, p2⟩ | ⟨p2, _⟩ | ⟨p2, _⟩
          · rw [h3] at p2; exact (Option.some.inj p2).symm
          · cases p2
          · have := (List.getElem?_eq_some_iff.mp h3).1
            omega
        · have := (List.getElem?_eq_some_iff.mp g1).1
          omega
      · rw [getB_of (by rw [b2 j hj (List.getElem?_eq_some_iff.mp h2).1]; exact h2)]
        exact getT_of h3
  refine ⟨hR.go (φ := AV.kill1 (goneR js bx)) hm hfree (fun a y => kill1_rep hm hfree (fun q hq => ?_) (fun q y hy => hdr_slice hR hy)) rfl (fun n => .inl ⟨rfl, htok n, rfl⟩) hboxes ?_ hnew', ?_⟩
  · cases q with
    | tok n => exact ⟨htok n, fun y hy => ⟨⟨hy.1, fun h => hy.2 (inLit_junk h)⟩, hroot _ hq⟩⟩
    | cell j c =>
      refine ⟨?_, fun y hy => ⟨?_, hroot _ hq⟩⟩
      · rcases hmem j c hq with hj | hs
        · exact (hnj j hj).2 c
        · exact hsmc j c hs
      obtain ⟨g, ty, cells, h1, h2, h3, e, t, xs, h4⟩ := hy
      by_cases hj : j ∈ js
      · obtain ⟨i, c0, a2, g1, g2, g3, g4⟩ := stay j c hj hq
        obtain ⟨g', ty', cells', k1, k2, k3, k4, k5⟩ := hbx i c0 g2
        have hadr := back_adr (pb := pb) (pw := pw) hA hl k1
        rw [(getN_spec js i E.adr.length).1 j g1] at hadr
        have hgg : g = g' := by
          have := hm.getAdr h1
          rw [hadr] at this
          exact (Option.some.inj this).symm
        subst hgg
        have hcl : c < cells'.size := by rw [k4]; exact (List.getElem?_eq_some_iff.mp g3).1
        have hy' := Array.getElem?_eq_getElem hcl
        obtain ⟨-, h7⟩ := k5 c (.same a2) _ g3 hy'
        have h8 := h7 i c rfl
        have h9 := hK.kv i j g ty cells c y g1 h1 h2 h3
        have h10 : E'.kv i c = K.kv i c := congrFun (congrFun hA.kv i) c
        exact ⟨g, ty', cells', hadr, k3, by rw [hy', h8, h10, h9], e, t, xs, hroot _ hq _ _ _ h4⟩
      · obtain ⟨cs, h5, h6⟩ := box_of_cell (s := s) (j := j) (c := c) h4 (by simp)
        obtain ⟨g', ty', cells', k1, k2, k3, k4, k5⟩ := hR.bx j cs h5
        obtain rfl : g = g' := by rw [h1] at k1; exact Option.some.inj k1
        have hlt : g < W.heap.size := (Array.getElem?_eq_some_iff.mp h2).1
        exact ⟨g, ty, cells, hm.getAdr h1, ((hm.blk g hlt (by rw [k2]; exact (hnj j hj).1)).2).trans h2, h3, e, t, xs, hroot _ hq _ _ _ h4⟩
  · show (backB s.boxes js _).length = (E.adr ++ E'.adr.drop js.length).length
    rw [b1, m1, List.length_append, List.length_drop, hln, hlen]
  · exact ⟨hA.os, hA.tape, hA.output, hA.size, fun k hk hf => hm.blk k hk (by rcases hf with hf | hf <;> rw [hf] <;> simp [Goes]), hm.adr, fun _ _ => rfl, rfl⟩
end
end Go.Proofs.YtbakkcdanoopgaaGreatDoor.Ev
set_option linter.unusedVariables false
set_option linter.unusedSimpArgs false
namespace Go.Proofs.YtbakkcdanoopgaaGreatDoor.Ev
open Go Go.RowKit Go.Proofs.YtbakkcdanoopgaaGreatDoorW.PrintWords Go.Proofs.YtbakkcdanoopgaaGreatDoorW.PrintMore Kd
def KeepsP (C : Ctx) (pr : List Cl) (o : Oper) (E : Env) (W W' : World) : Prop :=
  (keepB C o = true → Ext W W') ∧ (spB C o = true → ∀ x, x ∈ pr → ∀ g, E.adr[x.j]? = some g → ∀ i, i < x.n → ∀ v, W.cell? ⟨g, x.off + i, none⟩ = some v → W'.cell? ⟨g, x.off + i, none⟩ = some v)
def SimP {ρ : Type} (C : Ctx) (pr : List Cl) (P : Program) (o : Oper) (E : Env) (s : St) (act : Act) (W : World) (κ π : AV → St → Option ρ) (r : ρ) : Prop :=
  ∀ (K : Act → World → Prop) (Q : Exit → Act → World → Prop), (∀ E' s' a' y' W', κ a' s' = some r → Rep E' s' act W' → RepV E' s' W' a' y' → Aft E W E' W' → KeepsP C pr o E W W' → K (act.put o.dst y') W') →
    (∀ E' s' a' y' W', π a' s' = some r → Aft E W E' W' → ArgsOK E' W' s'.boxes [a'] [y'] → Q (.panic [{ v := y', recovered := false }]) act W') → Oper.wp P o act W K Q
def RetK {ρ : Type} (E : Env) (W : World) (I : Inst) (κ : Out → Option ρ) (r : ρ) (e : Ending) (w : World) : Prop := ∃ out, κ out = some r ∧ RetOK E W I out e w
class Bgs where
  l : List (Nat × Obj)
def BgOK [Bgs] (E : Env) (W : World) : Prop := ∀ x, x ∈ Bgs.l → W.heap[x.1]? = some x.2 ∧ (E.own x.1 = .free ∨ E.own x.1 = .hid)
theorem BgOK.aft [Bgs] {E E' : Env} {W W' : World} (h : BgOK E W) (hA : Aft E W E' W') : BgOK E' W' := fun x hx => by
  obtain ⟨h1, h2⟩ := h x hx
  obtain ⟨h3, h4⟩ := hA.free x.1 (Array.getElem?_eq_some_iff.mp h1).1 h2
  exact ⟨h4.trans h1, by rw [h3]; exact h2⟩
theorem BgOK.callee [Bgs] {E : Env} {W : World} {js : List Nat} {L : List Root} {K : Kp} {pb : List (List Pt)} {pw : Nat → Nat → Bool} (h : BgOK E W) : BgOK ((E.callee js L K).frz pb pw) W := fun x hx => by
  obtain ⟨h1, h2⟩ := h x hx
  refine ⟨h1, callee_still ?_⟩
  rintro (⟨k, c, h⟩ | ⟨j, -, h | ⟨c, -, h⟩⟩) <;> rcases h2 with h2 | h2 <;> rw [h] at h2 <;> cases h2
def FunP [Bgs] {ρ : Type} (P : Program) (insts : Nat → List Inst) (f i : Nat) (hs : List HV) (κ : Out → Option ρ) (r : ρ) : Prop :=
  (∃ fn, P.funcs[f]? = some fn ∧ fn.body.isNone = false ∧ (fn.name == "runtime.NumGoroutine") = false) ∧
  ∀ I args h1 bx, (insts f)[i]? = some I → Pt.builds I.args hs = some (args, h1) → Pt.buildB I.boxes h1 = some (bx, []) → ∀ E W vals, ArgsOK E W bx args vals → BgOK E W → Calls P f vals.toArray W (RetK E W I κ r)
def SemOK [Bgs] {ρ : Type} (P : Program) (insts : Nat → List Inst) (sem : Sem ρ) : Prop := ∀ f i hs (κ : Out → Option ρ) (r : ρ), sem f i 0 hs κ = some r → FunP P insts f i hs κ r
end Go.Proofs.YtbakkcdanoopgaaGreatDoor.Ev
set_option linter.unusedVariables false
set_option linter.unusedSimpArgs false
namespace Go.Proofs.YtbakkcdanoopgaaGreatDoor.Ev
open Go Go.RowKit Go.Proofs.YtbakkcdanoopgaaGreatDoorW.PrintWords Go.Proofs.YtbakkcdanoopgaaGreatDoorW.PrintMore Kd
section
variable {P : Program} {o : Oper} {E E' : Env} {s s' : St} {act : Act} {W W' : World} {ρ : Type} {C : Ctx} {r : ρ} {κ π : AV → St → Option ρ}
theorem KeepsP.of_ext {pr : List Cl} (h : Ext W W') : KeepsP C pr o E W W' := ⟨fun _ => h, fun _ x _ g _ i _ v hv => cell_ext h hv⟩
theorem Sim.toP {pr : List Cl} {a' : AV} {s' : St} (h : Sim P o E s act W a' s') (hκ : κ a' s' = some r) (hk : spB C o = false) (hk2 : keepB C o = false) : SimP C pr P o E s act W κ π r := fun K Q hK hQ =>
  h K Q fun E' y' W' h1 h2 h3 => hK E' s' a' y' W' hκ h1 h2 h3.aft ⟨fun h4 => absurd h4 (by rw [hk2]; simp), fun h4 => absurd h4 (by rw [hk]; simp)⟩
theorem Sim.toS {pr : List Cl} {s' : St} {W1 : World} (h : Sim P o E s act W .junk s') (hκ : κ .junk s' = some r) (hrun : (execOp act.eval o).run P W = .ok .skip W1) (hst : ∀ x, x ∈ pr → StayC E W W1 x) (hk2 : keepB C o = false) : SimP C pr P o E s act W κ π r := fun K Q hK hQ => by
  have h1 := h (fun a w => KeepsP C pr o E W w → K a w) Q fun E' y' W' h1 h2 h3 h4 => hK E' s' .junk y' W' hκ h1 h2 h3.aft h4
  unfold Oper.wp at h1 ⊢
  rw [hrun] at h1 ⊢
  exact h1 ⟨fun h4 => absurd h4 (by rw [hk2]; simp), fun _ x hx => hst x hx⟩
theorem SimE.toP {pr : List Cl} {a' : AV} {s' : St} (h : SimE P o E s act W a' s') (hκ : κ a' s' = some r) : SimP C pr P o E s act W κ π r := fun K Q hK hQ =>
  h K Q fun E' y' W' h1 h2 h3 h4 => hK E' s' a' y' W' hκ h1 h2 h3.aft (.of_ext h4)
theorem SimA.toP {pr : List Cl} {a' : AV} {s' : St} (hR : Rep E s act W) (h : SimA P o E s act W a' s') (hκ : κ a' s' = some r) (hk : keepB C o = false) : SimP C pr P o E s act W κ π r := fun K Q hK hQ =>
  h K Q fun E' y' W' h1 h2 h3 h4 => hK E' s' a' y' W' hκ h1 h2 h3.aft ⟨fun h5 => absurd h5 (by rw [hk]; simp), fun _ x _ g hg i _ v hv => by
    have hlt : x.j < s.boxes.length := by rw [hR.ln]; exact (List.getElem?_eq_some_iff.mp hg).1
    obtain ⟨g', ty, cells, b1, b2, -⟩ := hR.bx x.j _ (List.getElem?_eq_getElem hlt)
    obtain rfl : g = g' := by rw [hg] at b1; exact Option.some.inj b1
    exact cell_same (h4 g x.j (cell_lt hv) b2) hv⟩
theorem SimV.toP {pr : List Cl} {a' : AV} (hR : Rep E s act W) (h : SimV C P o E s act W a') (hκ : κ a' s = some r) : SimP C pr P o E s act W κ π r := fun K Q hK hQ => by
  obtain ⟨y, hv, hrun⟩ := h
  unfold Oper.wp
  rw [hrun W (SameR.refl _ _ _)]
  exact hK E s a' y W hκ hR hv (Aft.refl _ _) (.of_ext fun _ _ => rfl)
theorem later_aft (h : Later E E') : Aft E W E' W := ⟨rfl, rfl, rfl, Nat.le_refl _, fun k _ hf => ⟨(by
  rcases hf with hf | hf
  · rw [hf]; exact h.free k hf
  · rw [hf]; exact h.hid k hf), rfl⟩, ⟨[], by rw [h.adr]; simp⟩, h.kv⟩
theorem landed_aft (h : Landed E E') : Aft E W E' W := ⟨rfl, rfl, rfl, Nat.le_refl _, fun k _ hf => ⟨(by
  rcases h.own k with h1 | ⟨k', c, d, h1, -⟩
  · exact h1
  · rw [h1] at hf
    rcases hf with hf | hf <;> cases hf), rfl⟩, ⟨[], by rw [h.adr]; simp⟩, h.kv⟩
theorem run_callFunc {f : Nat} {fn : Func} (hf : P.funcs[f]? = some fn) (hn : (fn.name == "runtime.NumGoroutine") = false) (hb : fn.body.isNone = false) (args : Array Value) (W : World) :
    (callFunc f args).run P W = .ok (.enter f args) W := by
  have hn' : fn.name ≠ "runtime.NumGoroutine" := by simpa using hn
  have hb' : fn.body ≠ none := fun h => by rw [h] at hb; simp at hb
  simp [callFunc, hf, hn', hb', go_sem]
theorem run_call_value {c : Call} {fx : Operand} {f : Nat} {fn : Func} {fs cs : Array Value} (ho : o.op = .call c) (hc : c.callee = .value fx) (hx : act.eval fx = .func (.func f) fs cs)
    (hf : P.funcs[f]? = some fn) (hn : (fn.name == "runtime.NumGoroutine") = false) (hb : fn.body.isNone = false) (W : World) :
    (execOp act.eval o).run P W = .ok (.enter f (fs ++ c.args.map act.eval ++ cs)) W := by
  have h1 := run_callFunc hf hn hb (fs ++ c.args.map act.eval ++ cs) W
  simp only [execOp, ho, resolve, hc, Deferred.ofValue, hx, invoke]
  simpa [go_sem] using h1
theorem mapL_append (f : AV → AV) (l m : List AV) : mapL f (l ++ m) = mapL f l ++ mapL f m := by
  rw [mapL_eq, mapL_eq, mapL_eq, List.map_append]
theorem noneIn_spec {js : List Nat} : ∀ {l : List Root}, noneIn js l = true → ∀ q, q ∈ l → inJs js q = false
  | x :: l, h, q, hq => by
    unfold noneIn at h
    split at h
    · cases h
    · rename_i hx
      rcases List.mem_cons.mp hq with rfl | hq
      · exact hx
      · exact noneIn_spec h q hq
theorem clos_spec (b : List (List AV)) {js : List Nat} (h : js.Nodup) : (clos b js).Nodup ∧ ∀ i, i ∈ js → i ∈ clos b js := by
  obtain ⟨h1, h2, -⟩ := ptrs2_spec (cellsOf b js) js h
  exact ⟨h1, h2⟩
def Env.noWay (E : Env) : Env := E.ren fun | .way _ _ => .hid | o => o
theorem noWay_own {b : Nat} {o : Owner} (h : E.own b = o) (hn : ∀ k c, o ≠ .way k c) : E.noWay.own b = o := by
  show (match E.own b with | .way _ _ => Owner.hid | o => o) = o
  rw [h]
  cases o <;> first | rfl | exact absurd rfl (hn _ _)
theorem noWay_way {b k c : Nat} : E.noWay.own b ≠ .way k c := by
  show (match E.own b with | .way _ _ => Owner.hid | o => o) ≠ _
  cases E.own b <;> simp
theorem noWay_move (E : Env) (W : World) : Move (fun x => ∃ k c, x = .way k c) E W E.noWay W :=
  ⟨fun k _ hn => ⟨noWay_own rfl fun k' c h => hn ⟨k', c, h⟩, rfl⟩, ⟨[], by simp [Env.noWay, Env.ren]⟩, rfl⟩
theorem noWay_rep (hR : Rep E s act W) : Rep E.noWay s act W := by
  have hm := noWay_move E W
  refine hR.go (φ := fun a => a) hm (by simp) (fun a y h => hm.rep1 (s' := s) (by simp) (fun q _ => ⟨fun ⟨k, c, h⟩ => way_ne k c q h.symm, fun y hy => ⟨?_, fun _ _ _ h => h⟩⟩) h) (map_none (fun _ => rfl) _).symm (fun n => .inl ⟨?_, by simp, rfl⟩) (fun j cs hj => .inl ⟨hj, by simp, fun c => by simp⟩) hR.ln (fun k hk => noWay_own (hR.new k hk) (by simp))
  · cases q <;> exact hy
  · cases s.toks n with
    | lit e t rows => show AV.lit e t rows = AV.lit e t (mapR (fun a => a) rows); rw [mapR_id (f := fun a => a) fun _ => rfl]
    | _ => rfl
theorem noWay_aft (E : Env) (W : World) : Aft E W E.noWay W := ⟨rfl, rfl, rfl, Nat.le_refl _, fun k _ hf => ⟨noWay_own rfl fun k' c h => (by rw [h] at hf; rcases hf with hf | hf <;> cases hf), rfl⟩, ⟨[], by simp [Env.noWay, Env.ren]⟩, rfl⟩
theorem prepMove_none : ∀ {xs : List Operand} {ms : List Nat} {mv : List (Option AV)} {s s' : St}, prepMove s xs ms = some (mv, s') → noMoves mv = true → s' = s ∧ mv.length = xs.length
  | [], ms, mv, s, s', h, hn => by
    obtain ⟨rfl, rfl⟩ : [] = mv ∧ s = s' := by simpa [prepMove] using h
    exact ⟨rfl, rfl⟩
  | x :: xs, ms, mv, s, s', h, hn => by
    unfold prepMove at h
    split at h
    · rename_i he; cases he
    · split at h
      · split at h
        · rename_i r' s2 h2
          simp only [Option.some.injEq, Prod.mk.injEq] at h
          obtain ⟨rfl, rfl⟩ := h
          cases hn
        · cases h
      · cases h
    · rename_i x' r he _
      simp only [List.cons.injEq] at he
      obtain ⟨rfl, rfl⟩ := he
      split at h
      · rename_i r' s2 h2
        simp only [Option.some.injEq, Prod.mk.injEq] at h
        obtain ⟨rfl, rfl⟩ := h
        obtain ⟨h3, h4⟩ := prepMove_none h2 hn
        exact ⟨h3, by simp [h4]⟩
      · cases h
theorem mvOK_none : ∀ {mv : List (Option AV)} {m : List Value} {k : Nat}, noMoves mv = true → mv.length = m.length → MvOK E W k mv m
  | [], [], _, _, _ => trivial
  | none :: l, y :: m, k, h, hl => mvOK_none (mv := l) (m := m) (k := k + 1) h (by simpa using hl)
  | some a :: l, _, _, h, _ => by cases h
  | [], _ :: _, _, _, hl => by cases hl
  | none :: l, [], _, _, hl => by cases hl
theorem buildB_len : ∀ (ps : List (List Pt)) (h : List HV) (l : List (List AV)) (r : List HV), Pt.buildB ps h = some (l, r) → l.length = ps.length
  | [], h, l, r, hb => by
    obtain ⟨rfl, -⟩ : [] = l ∧ h = r := by simpa [Pt.buildB] using hb
    rfl
  | p :: ps, h, l, r, hb => by
    simp only [Pt.buildB] at hb
    split at hb
    · rename_i a h1 ha
      split at hb
      · rename_i l2 h2 hl2
        obtain ⟨rfl, -⟩ : a :: l2 = l ∧ h2 = r := by simpa using hb
        rw [List.length_cons, List.length_cons, buildB_len ps h1 l2 h2 hl2]
      · cases hb
    · cases hb
theorem build_isSame : ∀ (p : Pt) (h : List HV) (a : AV) (r : List HV), p.build h = some (a, r) → isSameA a = p.isSame
  | .junk, h, a, r, hb => by
    obtain ⟨rfl, -⟩ : AV.junk = a ∧ h = r := by simpa [Pt.build] using hb
    rfl
  | .cst x, h, a, r, hb => by
    obtain ⟨rfl, -⟩ : AV.v x = a ∧ h = r := by simpa [Pt.build] using hb
    rfl
  | .sc t, h, a, r, hb => by
    cases h with
    | nil => cases t <;> simp [Pt.build] at hb
    | cons v h =>
      obtain ⟨t', x⟩ := v
      cases t <;> cases t' <;> simp only [Pt.build] at hb <;> (try split at hb) <;> first | (cases hb; rfl) | cases hb
  | .sl e t, h, a, r, hb => by
    cases h with
    | nil => simp [Pt.build] at hb
    | cons v h =>
      obtain ⟨t', x⟩ := v
      cases t' <;> simp only [Pt.build] at hb <;> try (cases hb; done)
      split at hb
      · split at hb
        · cases hb; rfl
        · cases hb
      · cases hb
  | .own e t, h, a, r, hb => by
    cases h with
    | nil => simp [Pt.build] at hb
    | cons v h =>
      obtain ⟨t', x⟩ := v
      cases t' <;> simp only [Pt.build] at hb <;> try (cases hb; done)
      split at hb
      · split at hb
        · cases hb; rfl
        · cases hb
      · cases hb
  | .tok n, h, a, r, hb => by
    obtain ⟨rfl, -⟩ : AV.rt (.tok n) = a ∧ h = r := by simpa [Pt.build] using hb
    rfl
  | .ptr j off, h, a, r, hb => by
    obtain ⟨rfl, -⟩ : AV.ptr j off = a ∧ h = r := by simpa [Pt.build] using hb
    rfl
  | .fn f ps cs, h, a, r, hb => by
    simp only [Pt.build] at hb
    split at hb
    · rename_i l k1 hl
      split at hb
      · rename_i m k2 hm
        obtain ⟨rfl, -⟩ : AV.fn f l m = a ∧ k2 = r := by simpa using hb
        rfl
      · cases hb
    · cases hb
  | .agg cs, h, a, r, hb => by
    simp only [Pt.build] at hb
    split at hb
    · rename_i l h' hl
      obtain ⟨rfl, -⟩ : AV.agg l = a ∧ h' = r := by simpa using hb
      rfl
    · cases hb
  | .tup cs, h, a, r, hb => by
    simp only [Pt.build] at hb
    split at hb
    · rename_i l h' hl
      obtain ⟨rfl, -⟩ : AV.tup l = a ∧ h' = r := by simpa using hb
      rfl
    · cases hb
  | .same p, h, a, r, hb => by
    simp only [Pt.build] at hb
    split at hb
    · rename_i b h' hl
      obtain ⟨rfl, -⟩ : AV.same b = a ∧ h' = r := by simpa using hb
      rfl
    · cases hb
theorem builds_get : ∀ (ps : List Pt) (h : List HV) (l : List AV) (r : List HV), Pt.builds ps h = some (l, r) → l.length = ps.length ∧ ∀ (c : Nat) (a : AV), l[c]? = some a → isSameA a = (ps.getD c .junk).isSame
  | [], h, l, r, hb => by
    obtain ⟨rfl, -⟩ : [] = l ∧ h = r := by simpa [Pt.builds] using hb
    exact ⟨rfl, fun c a hc => by simp at hc⟩
  | p :: ps, h, l, r, hb => by
    simp only [Pt.builds] at hb
    split at hb
    · rename_i a h1 ha
      split at hb
      · rename_i l2 h2 hl2
        obtain ⟨rfl, -⟩ : a :: l2 = l ∧ h2 = r := by simpa using hb
        obtain ⟨g1, g2⟩ := builds_get ps h1 l2 h2 hl2
        refine ⟨by simp [g1], fun c b hc => ?_⟩
        cases c with
        | zero =>
          obtain rfl : a = b := by simpa using hc
          exact build_isSame p h a h1 ha
        | succ c => exact g2 c b (by simpa using hc)
      · cases hb
    · cases hb
theorem buildB_get : ∀ (ps : List (List Pt)) (h : List HV) (l : List (List AV)) (r : List HV), Pt.buildB ps h = some (l, r) → ∀ (i : Nat) (cs : List AV), l[i]? = some cs → cs.length = (ps.getD i []).length ∧ ∀ (c : Nat) (a : AV), cs[c]? = some a → isSameA a = (getPt ps i c).isSame
  | [], h, l, r, hb, i, cs, hi => by
    obtain ⟨rfl, -⟩ : [] = l ∧ h = r := by simpa [Pt.buildB] using hb
    simp at hi
  | p :: ps, h, l, r, hb, i, cs, hi => by
    simp only [Pt.buildB] at hb
    split at hb
    · rename_i a h1 ha
      split at hb
      · rename_i l2 h2 hl2
        obtain ⟨rfl, -⟩ : a :: l2 = l ∧ h2 = r := by simpa using hb
        cases i with
        | zero =>
          obtain rfl : a = cs := by simpa using hi
          exact builds_get p h a h1 ha
        | succ i => exact buildB_get ps h1 l2 h2 hl2 i cs (by simpa using hi)
      · cases hb
    · cases hb
theorem sameLB_spec : ∀ {ps l : List Pt}, Pt.sameLB ps l = true → ∀ c, (l.getD c .junk).isSame = true → (ps.getD c .junk).isSame = true
  | ps, [], _, c, hc => by simp [Pt.isSame] at hc
  | ps, p :: l, h, c, hc => by
    cases hp : p with
    | same q =>
      rw [hp] at h hc
      cases ps with
      | nil => simp [Pt.sameLB] at h
      | cons p' ps =>
        cases p' <;> simp only [Pt.sameLB] at h <;> try (cases h; done)
        cases c with
        | zero => rfl
        | succ c => exact sameLB_spec h c hc
    | _ =>
      rw [hp] at h hc
      simp only [Pt.sameLB] at h
      cases c with
      | zero => simp [Pt.isSame] at hc
      | succ c =>
        have h1 := sameLB_spec h c (by simpa using hc)
        cases ps with
        | nil => simp [Pt.isSame] at h1
        | cons p' ps => simpa using h1
theorem sameBB_spec : ∀ {ps l : List (List Pt)}, Pt.sameBB ps l = true → ∀ i c, (getPt l i c).isSame = true → (getPt ps i c).isSame = true
  | ps, [], _, i, c, hc => by simp [getPt, Pt.isSame] at hc
  | ps, x :: l, h, i, c, hc => by
    simp only [Pt.sameBB, Bool.and_eq_true] at h
    cases i with
    | zero =>
      have h1 := sameLB_spec h.1 c hc
      cases ps with
      | nil => simp [Pt.isSame] at h1
      | cons p ps => exact h1
    | succ i =>
      have h1 := sameBB_spec h.2 i c hc
      cases ps with
      | nil => simp [getPt, Pt.isSame] at h1
      | cons p ps => exact h1
theorem kept_of {I : Inst} {js : List Nat} {L : List Root} {K : Kp} {args args' : List AV} {vals : List Value} {bx0 bx : List (List AV)} {h1 h2 h3 : List HV} {ob : List (List Pt)} (hR : Rep E s act W) (hn : js.Nodup) (hl : ∀ j, j ∈ js → j < s.boxes.length) (hlen : I.boxes.length = js.length) (hK : K.OK E W js I.boxes) (hb0 : Pt.buildB I.boxes h1 = some (bx0, [])) (hok : ArgsOK ((E.callee js L K).frz I.boxes (wayP I.args args)) W bx0 args' vals)
    (hsame : Pt.sameBB I.boxes ob = true) (hb : Pt.buildB ob h2 = some (bx, h3)) : Kept js K s.boxes bx := by
  intro i c cs a hi hc ha
  have h4 := (buildB_get _ _ _ _ hb i cs hi).2 c a hc
  rw [ha] at h4
  have h5 := sameBB_spec hsame i c h4.symm
  have hil : i < I.boxes.length := by
    rcases Nat.lt_or_ge i I.boxes.length with h | h
    · exact h
    · unfold getPt at h5
      rw [show I.boxes.getD i [] = [] by rw [List.getD_eq_getElem?_getD, List.getElem?_eq_none h]; rfl] at h5
      simp [Pt.isSame] at h5
  rw [hlen] at hil
  have hj : js[i]? = some js[i] := List.getElem?_eq_getElem hil
  refine ⟨js[i], hj, ?_, ?_⟩
  · rw [hK.sm i _ c hj]; exact h5
  · have hbl : bx0.length = I.boxes.length := buildB_len _ _ _ _ hb0
    have hi0 : i < bx0.length := by omega
    have hx := List.getElem?_eq_getElem hi0
    obtain ⟨g, ty, cells, b1, b2, b3, b4, -⟩ := hok.box i _ hx
    have hlt := hl js[i] (List.getElem_mem hil)
    obtain ⟨g', ty', cells', d1, d2, d3, d4, -⟩ := hR.bx js[i] _ (List.getElem?_eq_getElem hlt)
    have hadr := callee_adr (L := L) (K := K) (List.getElem_mem hil) d1
    have hat := at_nodup hn 0 hj
    rw [Nat.zero_add] at hat
    rw [hat] at hadr
    have b1' : (E.callee js L K).adr[i]? = some g := b1
    rw [hadr] at b1'
    obtain rfl : g' = g := Option.some.inj b1'
    rw [d3] at b3
    have hcc : cells' = cells := by injection b3 with b3; injection b3
    rw [getB_of (List.getElem?_eq_getElem hlt), ← d4, hcc, b4, (buildB_get _ _ _ _ hb0 i _ hx).1]
    unfold getPt at h5
    rcases Nat.lt_or_ge c (I.boxes.getD i []).length with h | h
    · exact h
    · rw [List.getD_eq_getElem?_getD (l := I.boxes.getD i []), List.getElem?_eq_none h] at h5
      simp [Pt.isSame] at h5
theorem evBack_rep {js : List Nat} {L : List Root} {K : Kp} {pb : List (List Pt)} {pw : Nat → Nat → Bool} {d : Nat} {outs : List AV} {bx : List (List AV)} {m : List Value} {v : Value} (hR : Rep E s act W) (hn : js.Nodup) (hl : ∀ j, j ∈ js → j < s.boxes.length) (hA : Aft ((E.callee js L K).frz pb pw) W E' W') (hK : K.OK E W js pb)
    (hO : ArgsOK E' W' bx outs m) (hle : js.length ≤ bx.length) (hkept : Kept js K s.boxes bx) (hL : L = [] ∨ (noSlAs outs ∧ ∀ cs, cs ∈ bx → noSlAs cs)) (hv : Packed m v) (h : evBack s js d outs bx κ = some r) :
    ∃ E3 s3 a3, κ a3 s3 = some r ∧ Rep E3 s3 act W' ∧ RepV E3 s3 W' a3 v ∧ Aft E W E3 W' := by
  obtain ⟨R1, A1⟩ := back_rep hR hn hl hA hK hO.box hO.len hle hkept hO.new (hL.imp id fun h => h.2)
  have hl' : ∀ j, j ∈ js → j < E.adr.length := by rw [← hR.ln]; exact hl
  have V1 := back_args hA hl' (hL.imp id fun h => h.1) hO.vals
  rw [← hR.ln] at V1
  simp only [evBack] at h
  generalize hs1 : (({ s with boxes := backB s.boxes js (movBk (fun i => getN js i s.boxes.length) s.boxes js bx) } : St).kill (goneR js bx)) = s1 at h R1
  generalize hE1 : E.back ((E.callee js L K).frz pb pw) E' W.heap.size js s.boxes.length K.sm = E1 at R1 A1 V1
  generalize hos : mapL (AV.mov fun i => getN js i s.boxes.length) outs = os at h V1
  split at h
  · rename_i a
    split at h
    · rename_i a' s2 h2
      match m, V1 with
      | [y], V1 =>
        obtain ⟨E2, k1, k2, k3, k4, k5, k6⟩ := settle1_rep 500000 0 d R1 V1.1 h2
        refine ⟨E2, s2, a', h, k1, ?_, A1.aft.trans (landed_aft k2.toLanded)⟩
        rw [show v = y from hv]
        exact repV_of_rep2 k3 fun cs he => by rw [he] at k3; exact k3.elim
    · cases h
  · rename_i l hne
    split at h
    · rename_i l' s2 h2
      obtain ⟨E2, k1, k2, k3, k4, k5, k6⟩ := settles_rep 500000 os 0 d R1 V1 h2
      refine ⟨E2, s2, .tup l', h, k1, ?_, A1.aft.trans (landed_aft k2.toLanded)⟩
      have hm : v = .tuple m.toArray := by
        have hl2 := allQ_len V1
        unfold Packed at hv
        split at hv
        · rename_i y
          match os, hl2, hne with
          | [a], _, hne => exact absurd rfl (hne a)
        · exact hv
      exact ⟨m.toArray, hm, by simpa using k3⟩
    · cases h
theorem sameRun_spec {l : List Pt} : ∀ {n c : Nat}, sameRun l c n = true → ∀ i, i < n → (l.getD (c + i) .junk).isSame = true
  | 0, c, _, i, hi => by omega
  | n + 1, c, h, i, hi => by
    simp only [sameRun, Bool.and_eq_true] at h
    cases i with
    | zero => exact h.1
    | succ i =>
      have := sameRun_spec h.2 i (by omega)
      rw [show c + (i + 1) = c + 1 + i by omega]
      exact this
theorem protOK_spec {js : List Nat} {I : Inst} : ∀ {pr : List Cl}, protOK js I pr = true → ∀ x, x ∈ pr → x.j ∉ js ∨ sameRun (I.obox.getD (at_ js x.j 0) []) x.off x.n = true
  | y :: pr, h, x, hx => by
    simp only [protOK, Bool.and_eq_true, Bool.or_eq_true, Bool.not_eq_true'] at h
    rcases List.mem_cons.mp hx with rfl | hx
    · rcases h.1 with h1 | h1
      · exact .inl (by simpa using h1)
      · exact .inr h1
    · exact protOK_spec h.2 x hx
theorem call_prot {I : Inst} {js : List Nat} {L : List Root} {K : Kp} {pw : Nat → Nat → Bool} {outs : List AV} {m : List Value} {bx : List (List AV)} {h2 : List HV} {pr : List Cl} (hR : Rep E s act W) (hn : js.Nodup) (hA : Aft ((E.callee js L K).frz I.boxes pw) W E' W') (hl : ∀ j, j ∈ js → j < E.adr.length) (hK : K.OK E W js I.boxes) (hO : ArgsOK E' W' bx outs m) (hb : Pt.buildB I.obox h2 = some (bx, [])) (hle : js.length ≤ bx.length) (hp : protOK js I pr = true) :
    ∀ x, x ∈ pr → ∀ g, E.adr[x.j]? = some g → ∀ i, i < x.n → ∀ v, W.cell? ⟨g, x.off + i, none⟩ = some v → W'.cell? ⟨g, x.off + i, none⟩ = some v := fun x hx g hg i hi v hv => by
  have hlt : x.j < s.boxes.length := by rw [hR.ln]; exact (List.getElem?_eq_some_iff.mp hg).1
  obtain ⟨g', ty, cells, b1, b2, b3, b4, b5⟩ := hR.bx x.j _ (List.getElem?_eq_getElem hlt)
  obtain rfl : g = g' := by rw [hg] at b1; exact Option.some.inj b1
  by_cases hj : x.j ∈ js
  · rcases protOK_spec hp x hx with h | h
    · exact absurd hj h
    · obtain ⟨i0, hi0⟩ := List.getElem?_of_mem hj
      have hat := at_nodup hn 0 hi0
      rw [Nat.zero_add] at hat
      rw [hat] at h
      have h1 := sameRun_spec h i hi
      have hi1 : i0 < bx.length := Nat.lt_of_lt_of_le (List.getElem?_eq_some_iff.mp hi0).1 hle
      have hbx := List.getElem?_eq_getElem hi1
      obtain ⟨q1, q2⟩ := buildB_get _ _ _ _ hb i0 _ hbx
      have hc : x.off + i < (bx[i0]'hi1).length := by
        rw [q1]
        rcases Nat.lt_or_ge (x.off + i) (I.obox.getD i0 []).length with h3 | h3
        · exact h3
        · rw [List.getD_eq_getElem?_getD (l := I.obox.getD i0 []), List.getElem?_eq_none h3] at h1
          simp [Pt.isSame] at h1
      have hcc := List.getElem?_eq_getElem hc
      have h4 := q2 _ _ hcc
      have h4' : (getPt I.obox i0 (x.off + i)).isSame = true := h1
      rw [h4'] at h4
      obtain ⟨g2, ty2, cells2, d1, d2, d3, d4, d5⟩ := hO.box i0 _ hbx
      have hadr := back_adr (pb := I.boxes) (pw := pw) hA hl d1
      rw [(getN_spec js i0 E.adr.length).1 _ hi0] at hadr
      have hm := back_move (E := E) (L := L) (n := E.adr.length) hA
      have hgg : g2 = g := by
        have := hm.getAdr hg
        rw [hadr] at this
        exact Option.some.inj this
      subst hgg
      have hcl : x.off + i < cells2.size := by rw [d4]; exact hc
      have hy := Array.getElem?_eq_getElem hcl
      have h6 := d5 _ _ _ hcc hy
      generalize hae : (bx[i0]'hi1)[x.off + i]'hc = ae at h4 h6
      cases ae <;> simp only [isSameA] at h4 <;> try (cases h4; done)
      obtain ⟨-, h7⟩ := h6
      have h8 := h7 i0 (x.off + i) rfl
      rw [blk_cell' b3] at hv
      have h9 := hK.kv i0 x.j g2 ty cells _ v hi0 hg b3 hv
      have h10 : E'.kv i0 (x.off + i) = K.kv i0 (x.off + i) := congrFun (congrFun hA.kv i0) _
      rw [blk_cell' d3, hy, h8, h10, h9]
  · have hm := back_move (E := E) (L := L) (n := E.adr.length) hA
    refine cell_same ((hm.blk g (cell_lt hv) ?_).2) hv
    rw [b2]
    simp [Goes, hj]
theorem sim_call [Bgs] {insts : Nat → List Inst} {sem : Sem ρ} (hsem : SemOK P insts sem) (hR : Rep E s act W) (hB : BgOK E W) {pr : List Cl} {c : Call} {fx : Operand} {f d : Nat} {first caps : List AV} (ho : o.op = .call c) (hc : c.callee = .value fx) (hfx : s.ev fx = .fn (.func f) first caps)
    (h : evCall C insts sem pr s f first c.args.toList caps c.argTypes.toList d κ π = some r) : SimP C pr P o E s act W κ π r := by
  have hRw := noWay_rep hR
  have hfv := rep_ev hRw fx
  rw [hfx] at hfv
  obtain ⟨fs, cs, hy, hfs, hcs⟩ := hfv
  unfold evCall at h
  split at h
  case h_2 => cases h
  rename_i mv s0 hmv
  have hpre : ∃ E1, Rep E1 (s0.frzK C f c.args.toList mv) act W ∧ Later E.noWay E1 ∧ MvOK E1 W first.length mv (c.args.toList.map act.eval) ∧ (C.keeps f = false → noMoves mv = true → E1 = E.noWay) := by
    by_cases hq : C.keeps f = false ∧ noMoves mv = true
    · obtain ⟨hk, hm⟩ := hq
      obtain ⟨rfl, hlen⟩ := prepMove_none hmv hm
      refine ⟨E.noWay, ?_, Later.refl _, mvOK_none hm (by rw [hlen, List.length_map]), fun _ _ => rfl⟩
      unfold St.frzK
      rw [hk]
      exact hRw
    · obtain ⟨E0, R0, L0, Y0, M0⟩ := prepMove_rep (act := act) c.args.toList (C.mode f) first.length hRw hmv
      have hfrz : ∃ E1, Rep E1 (s0.frzK C f c.args.toList mv) act W ∧ Later E0 E1 ∧ Ways E0 E1 := by
        unfold St.frzK
        split
        · obtain ⟨E1, k1, k2, k3, -⟩ := frzRs_rep (lentRoots s0 c.args.toList mv) R0
          exact ⟨E1, k1, k2, k3⟩
        · exact ⟨E0, R0, Later.refl _, fun _ _ _ h => h⟩
      obtain ⟨E1, R1, L1, Y1⟩ := hfrz
      exact ⟨E1, R1, L0.trans L1, mvOK_later L1 Y1 M0, fun h1 h2 => absurd ⟨h1, h2⟩ hq⟩
  obtain ⟨E1, R1, LE, M1, hquiet⟩ := hpre
  dsimp only at h
  generalize s0.frzK C f c.args.toList mv = s1 at h R1
  generalize hLr : lentRoots s1 c.args.toList mv = L at h
  generalize hargs : first ++ (nilArgs C (prepLend s1 c.args.toList mv) c.argTypes.toList (C.mode f) ++ caps) = args at h
  generalize hjs : clos s1.boxes (clos s1.boxes (ptrs args [])) = js at h
  split at h
  case h_2 => cases h
  rename_i hchk
  simp only [Bool.and_eq_true] at hchk
  obtain ⟨hc1, hc2, hc3, hc4⟩ := hchk
  split at h
  case h_2 => cases h
  rename_i i I hs hfits
  split at h
  case h_2 => cases h
  rename_i hkn
  simp only [Bool.and_eq_true] at hkn
  obtain ⟨hkn, hsame, hprot⟩ := hkn
  obtain ⟨p1, p2, p3⟩ := ptrs_spec args [] List.nodup_nil
  obtain ⟨q1, q2⟩ := clos_spec s1.boxes p1
  obtain ⟨w1, w2⟩ := clos_spec s1.boxes q1
  rw [hjs] at w1 w2
  have hpt : ∀ a, a ∈ args → PtrInV js a := fun a ha => (p3 a ha).mono fun i hi => w2 i (q2 i hi)
  have hvals : ∀ K, AllQ (ArgV (E1.callee js L K) W) 0 (mapL (AV.mov fun j => at_ js j 0) args) (fs.toList ++ (c.args.toList.map act.eval ++ cs.toList)) := fun K => by
    rw [← hargs, mapL_append, mapL_append]
    rw [← hargs] at hpt
    have hlen1 : (mapL (AV.mov fun j => at_ js j 0) first).length = first.length := by rw [mapL_eq, List.length_map]
    refine allQ_append (plain_args (hfs.imp fun _ _ _ => LE.repS) fun a ha => hpt a (by simp [ha])) (allQ_append ?_ (plain_args (hcs.imp fun _ _ _ => LE.repS) fun a ha => hpt a (by simp [ha])))
    refine nilArgs_rep _ _ _ _ (prep_rep R1 c.args.toList mv _ ?_ (fun q hq => ?_) (fun a ha => ?_))
    · rw [Nat.zero_add, hlen1]; exact M1
    · rw [hLr] at hq
      exact ⟨noneIn_spec hc1 q hq, hq⟩
    · exact nilArgs_ptr _ c.argTypes.toList (C.mode f) (fun b hb => hpt b (List.mem_append_right _ (List.mem_append_left _ hb))) a ha
  obtain ⟨hI, hIlen, K, args', h1, bx, hKok, hb1, hb2, hok⟩ := call_args R1 w1 (allLt_spec hc2) hvals hfits
  obtain ⟨⟨fn, hf1, hf2, hf3⟩, hspec⟩ := hsem f i hs _ r h
  have hcalls := hspec I args' h1 bx hI hb1 hb2 _ W _ hok (hB.aft ((noWay_aft E W).trans (later_aft (W := W) LE))).callee
  have hLk : L = [] ∨ I.noSl = true := by
    cases hk : C.keeps f with
    | true =>
      rw [hk] at hc3
      cases L with
      | nil => exact .inl rfl
      | cons q L => simp [noRoots] at hc3
    | false =>
      rw [hk] at hkn
      exact .inr (by simpa using hkn)
  have hAE := (noWay_aft E W).trans (later_aft (W := W) LE)
  have hadrE : E1.adr = E.adr := LE.adr
  have hlt' := allLt_spec hc2
  have hltE : ∀ j, j ∈ js → j < E1.adr.length := by rw [← R1.ln]; exact hlt'
  simp only [Inst.sameOK, Bool.and_eq_true] at hsame
  intro K0 Q hK hQ
  unfold Oper.wp
  rw [run_call_value ho hc hy hf1 hf3 hf2, Oper.upon_enter]
  have e0 : (fs ++ c.args.map act.eval ++ cs) = (fs.toList ++ (c.args.toList.map act.eval ++ cs.toList)).toArray := by
    apply Array.ext'
    simp
  rw [e0]
  refine hcalls.mono fun e w'' he => ?_
  obtain ⟨out, hout, he⟩ := he
  cases e with
  | outgrown => exact he.elim
  | returned v =>
    obtain ⟨vs, outs, h2, bx', E', m, rfl, g1, g2, g3, g4, g5⟩ := he
    dsimp only at hout
    rw [g1] at hout
    dsimp only at hout
    rw [g2] at hout
    dsimp only at hout
    split at hout
    case h_2 => cases hout
    rename_i hle
    have hle := Nat.le_of_ble_eq_true hle
    have hkept := kept_of R1 w1 hlt' hIlen hKok hb2 hok hsame.1 g2
    obtain ⟨E3, s3, a3, k1, k2, k3, k4⟩ := evBack_rep R1 w1 hlt' g3 hKok g5 hle hkept (hLk.imp id fun hn => by
      simp only [Inst.noSl, Bool.and_eq_true] at hn
      exact ⟨builds_noSl _ _ _ _ hn.1 g1, buildB_noSl _ _ _ _ hn.2.1 g2⟩) g4 hout
    refine hK E3 s3 a3 v w'' k1 k2 k3 (hAE.trans k4) ⟨fun hkb => ?_, fun _ => ?_⟩
    · have hqf : C.quiet f = true := by
        simp only [keepB, ho, hc] at hkb
        cases fx with
        | func f' =>
          have e1 : s.ev (.func f') = .fn (.func f') [] [] := rfl
          rw [e1] at hfx
          injection hfx with hfx
          injection hfx with hfx
          rw [← hfx]
          exact hkb
        | _ => cases hkb
      rw [hqf] at hc4
      simp only [Bool.not_true, Bool.false_or, Bool.and_eq_true, Bool.not_eq_true'] at hc4
      obtain ⟨z1, z2, z3⟩ := hc4
      have hE1 := hquiet z1 z2
      have hj0 : js = [] := by cases js <;> first | rfl | cases z3
      intro k hk
      have hng : ¬ Goes js K.sm (E1.own k) := by
        rw [hj0, hE1]
        rintro (⟨k', c', h⟩ | ⟨j', q1, -⟩)
        · exact noWay_way h
        · cases q1
      exact (g3.free k hk (callee_still hng)).2
    · have := call_prot R1 w1 g3 hltE hKok g5 g2 hle hprot
      rw [hadrE] at this
      exact this
  | panicked chain =>
    obtain ⟨vs, p, bp, a, h2, bx', E', y, rfl, g0, g1, g2, g3, rfl, g5⟩ := he
    dsimp only at hout
    rw [g0] at hout
    dsimp only at hout
    rw [g1] at hout
    dsimp only at hout
    rw [g2] at hout
    dsimp only at hout
    split at hout
    case h_2 => cases hout
    rename_i hle
    have hL' : L = [] ∨ (noSlAs [a] ∧ ∀ cs, cs ∈ bx' → noSlAs cs) := hLk.imp id fun hn => by
      simp only [Inst.noSl, Bool.and_eq_true] at hn
      have hn3 := hn.2.2
      rw [g0] at hn3
      simp only [Bool.and_eq_true] at hn3
      exact ⟨⟨build_noSl _ _ _ _ hn3.1 g1, trivial⟩, buildB_noSl _ _ _ _ hn3.2 g2⟩
    have hsp := hsame.2
    rw [g0] at hsp
    have hkept := kept_of R1 w1 hlt' hIlen hKok hb2 hok hsp g2
    obtain ⟨R2, A2⟩ := back_rep R1 w1 hlt' g3 hKok g5.box g5.len (Nat.le_of_ble_eq_true hle) hkept g5.new (hL'.imp id fun h => h.2)
    have V1 := back_args g3 hltE (hL'.imp id fun h => h.1) g5.vals
    rw [← R1.ln] at V1
    exact hQ _ _ _ y w'' hout (hAE.trans A2.aft) ⟨V1, R2.bx, R2.ln, R2.new⟩
end
end Go.Proofs.YtbakkcdanoopgaaGreatDoor.Ev
set_option linter.unusedVariables false
set_option linter.unusedSimpArgs false
namespace Go.Proofs.YtbakkcdanoopgaaGreatDoor.Ev
open Go Go.RowKit Go.Proofs.YtbakkcdanoopgaaGreatDoorW.PrintWords Go.Proofs.YtbakkcdanoopgaaGreatDoorW.PrintMore Kd
def HV.val : HV → Value
  | ⟨.int k, n⟩ => .int k n
  | ⟨.bool, b⟩ => .bool b
  | ⟨.str, b⟩ => .string b
  | _ => undef
def handV (ag : Bool) (vs : List Value) : Value := match ag with | true => .agg vs.toArray | false => vs.headD undef
def WRows (ok : Nat → Nat → Prop) (W : World) : List Nat → List Value → List HV → Prop
  | n :: ns, v :: vs, ⟨.sl e t, xs⟩ :: hs => t.kd.R e W 0 (ok n) v xs ∧ WRows ok W ns vs hs
  | [], [], [] => True
  | _, _, _ => False
def sameSh : List HV → List HV → Prop
  | ⟨.sl e t, xs⟩ :: a, ⟨.sl e' t', ys⟩ :: b => e = e' ∧ t = t' ∧ xs.length = ys.length ∧ sameSh a b
  | [], [] => True
  | _, _ => False
structure FunW (P : Program) (f : Nat) (ag : Bool) (hs sc ys out : List HV) : Prop where
  fn : ∃ fn, P.funcs[f]? = some fn ∧ fn.body.isNone = false ∧ (fn.name == "runtime.NumGoroutine") = false
  same : sameSh hs ys
  calls : ∀ (W : World) (ok : Nat → Nat → Prop) (ns : List Nat) (vs : List Value) (v0 : Value), v0 = handV ag vs → (∀ p q b, ok p b → ok q b → p = q) → WRows ok W ns vs hs →
    Calls P f (v0 :: sc.map HV.val).toArray W fun e w => (∃ v, e = .returned v ∧ Packed (out.map HV.val) v) ∧ WRows ok w ns vs ys ∧ w.os = W.os ∧ w.tape = W.tape ∧ w.output = W.output ∧ W.heap.size ≤ w.heap.size ∧ ∀ b, b < W.heap.size → (∀ n, n ∈ ns → ¬ ok n b) → w.heap[b]? = W.heap[b]?
class WrFact (P : Program) (C : Ctx) : Prop where
  told : ∀ f w, C.wr f = some w → ∀ ag hs sc ys out, w.run ag hs sc = some (ys, out) → FunW P f ag hs sc ys out
def mixW (W W' : World) (p : Nat → Bool) : World := { W with heap := Array.ofFn (n := W.heap.size) fun k => if p k then (W'.heap[k.val]?).getD W.heap[k] else W.heap[k] }
theorem mix_size (W W' : World) (p : Nat → Bool) : (mixW W W' p).heap.size = W.heap.size := by simp [mixW]
theorem mix_get {W W' : World} {p : Nat → Bool} (hs : W.heap.size ≤ W'.heap.size) {k : Nat} (hk : k < W.heap.size) : (mixW W W' p).heap[k]? = if p k then W'.heap[k]? else W.heap[k]? := by
  have h1 : k < W'.heap.size := Nat.lt_of_lt_of_le hk hs
  simp only [mixW, Array.getElem?_ofFn, hk, dite_true]
  cases p k with
  | true => simp [h1]
  | false => simp [hk]
end Go.Proofs.YtbakkcdanoopgaaGreatDoor.Ev
set_option linter.unusedVariables false
set_option linter.unusedSimpArgs false
namespace Go.Proofs.YtbakkcdanoopgaaGreatDoor.Ev
open Go Go.RowKit Go.Proofs.YtbakkcdanoopgaaGreatDoorW.PrintWords Go.Proofs.YtbakkcdanoopgaaGreatDoorW.PrintMore Kd
section
variable {P : Program} {o : Oper} {E E' : Env} {s s' : St} {act : Act} {W W' : World} {ρ : Type} {C : Ctx} {r : ρ} {κ π : AV → St → Option ρ} {pr : List Cl}
theorem rep_more (hR : Rep E s act W) (hs : W.heap.size ≤ W'.heap.size) (hm : ∀ k, k < W.heap.size → W'.heap[k]? = W.heap[k]?) : Rep E s act W' := by
  have hM : Move (fun _ => False) E W E W' := ⟨fun k hk _ => ⟨rfl, hm k hk⟩, ⟨[], by simp⟩, rfl⟩
  have hst : ∀ q, Stay E s W E s W' q := fun q y hy => by
    refine ⟨?_, fun _ _ _ h => h⟩
    cases q with
    | tok n => exact hy
    | cell j c =>
      obtain ⟨g, ty, cells, h1, h2, h3, h4⟩ := hy
      exact ⟨g, ty, cells, h1, (hm g (Array.getElem?_eq_some_iff.mp h2).1).trans h2, h3, h4⟩
  refine hR.go (φ := fun a => a) hM (fun h => h) (fun a y hr => hM.rep1 (fun h => h) (fun q _ => ⟨fun h => h, hst q⟩) hr) (map_none (fun _ => rfl) _).symm (fun n => .inl ⟨?_, fun h => h, rfl⟩) (fun j cs h => .inl ⟨h, fun h => h, fun _ h => h⟩) hR.ln fun k hk => hR.new k (Nat.le_trans hs hk)
  cases s.toks n with
  | lit e t rows => simp only [AV.inLit]; rw [mapR_id fun _ => rfl]
  | _ => rfl
def WTok (E : Env) (s : St) (W' : World) : List Nat → List HV → Prop
  | n :: ns, ⟨.sl e t, ys⟩ :: h => (∃ xs, s.toks n = .own e t xs ∧ ys.length = xs.length) ∧ t.kd.R e W' 0 (fun k => E.own k = .tok n) (E.rv n) ys ∧ WTok E s W' ns h
  | [], [] => True
  | _, _ => False
theorem WTok.mono {s2 : St} : ∀ {ns : List Nat} {ys : List HV}, (∀ n, n ∈ ns → ∀ e t xs, s.toks n = .own e t xs → s2.toks n = .own e t xs) → WTok E s W' ns ys → WTok E s2 W' ns ys
  | n :: ns, ⟨.sl e t, ys⟩ :: h, hm, ⟨⟨xs, h1, h2⟩, h3, h4⟩ => ⟨⟨xs, hm n List.mem_cons_self _ _ _ h1, h2⟩, h3, WTok.mono (fun m hm' => hm m (List.mem_cons_of_mem _ hm')) h4⟩
  | [], [], _, _ => trivial
  | n :: ns, ⟨.int _, _⟩ :: h, _, h4 => h4.elim
  | n :: ns, ⟨.bool, _⟩ :: h, _, h4 => h4.elim
  | n :: ns, ⟨.str, _⟩ :: h, _, h4 => h4.elim
  | n :: ns, ⟨.pr _ _, _⟩ :: h, _, h4 => h4.elim
  | n :: ns, [], _, h4 => h4.elim
  | [], _ :: _, _, h4 => h4.elim
theorem apartN_nodup : ∀ {l : List Nat}, apartN l = true → l.Nodup
  | [], _ => List.nodup_nil
  | n :: r, h => by
    simp only [apartN, Bool.and_eq_true, Bool.not_eq_true'] at h
    exact List.nodup_cons.mpr ⟨fun hm => by simp [hm] at h, apartN_nodup h.2⟩
theorem putTk_rep : ∀ (ns : List Nat) (ys : List HV) {s s' : St} {W : World}, Rep E s act W → putTk s ns ys = some s' → ns.Nodup → WTok E s W' ns ys → W.heap.size ≤ W'.heap.size → (∀ k, k < W.heap.size → (∀ n, n ∈ ns → E.own k ≠ .tok n) → W'.heap[k]? = W.heap[k]?) → Rep E s' act W'
  | [], [], s, s', W, hR, h, _, _, hs, hm => by
    obtain rfl : s = s' := by simpa [putTk] using h
    exact rep_more hR hs fun k hk => hm k hk fun n hn => by simp at hn
  | n :: ns, ⟨.sl e t, ys⟩ :: hh, s, s', W, hR, h, hn, hw, hs, hm => by
    obtain ⟨⟨xs, h1, h2⟩, h3, h4⟩ := hw
    obtain ⟨hn1, hn2⟩ := List.nodup_cons.mp hn
    have h' : putTk ((s.setRoot (.tok n) (.own e t ys)).fade (Root.beq (.tok n))) ns hh = some s' := h
    have hget := fun {k} (hk : k < W.heap.size) => mix_get (p := fun k => decide (E.own k = .tok n)) hs hk
    have R1 : Rep E ((s.setRoot (.tok n) (.own e t ys)).fade (Root.beq (.tok n))) act (mixW W W' fun k => decide (E.own k = .tok n)) := by
      refine set_rep (bad := fun o => o = .tok n) hR (q := .tok n) h1 ys h2 (fun h => by cases h) (fun p hp h => hp (Root.owner_inj (q := .tok n) h)) (fun j h => by cases h) ⟨fun k hk hb => ⟨rfl, ?_⟩, ⟨[], by simp⟩, rfl⟩ rfl rfl (fun y hy => ?_) fun k hk => hR.new k (by rw [mix_size] at hk; exact hk)
      · rw [hget hk]
        simp [hb]
      · have hy' : y = E.rv n := hy.1
        subst hy'
        refine R_mono (R_move (R_bound h3) fun k hk => ?_) fun k hk => hk.1
        by_cases hlt : k < W.heap.size
        · rw [hget hlt]
          simp [hk.1]
        · have := hR.new k (by omega)
          rw [hk.1] at this
          cases this
    refine putTk_rep ns hh R1 h' hn2 (h4.mono fun m hm' e2 t2 xs2 hx => ?_) (by rw [mix_size]; exact hs) fun k hk hno => ?_
    · have hne : m ≠ n := fun h => hn1 (h ▸ hm')
      show (tokSet s.toks n _ m).inLit _ = _
      rw [tokSet_ne _ _ hne]
      exact inLit_own hx
    · rw [mix_size] at hk
      rw [hget hk]
      by_cases ho : E.own k = .tok n
      · simp [ho]
      · simp only [ho, decide_false]
        exact hm k hk fun m hm' => by
          rcases List.mem_cons.mp hm' with rfl | hm'
          · exact ho
          · exact hno m hm'
  | [], _ :: _, s, s', W, _, h, _, _, _, _ => by cases h
  | n :: ns, [], s, s', W, _, h, _, _, _, _ => by cases h
  | n :: ns, ⟨.int _, _⟩ :: hh, s, s', W, _, h, _, _, _, _ => by cases h
  | n :: ns, ⟨.bool, _⟩ :: hh, s, s', W, _, h, _, _, _, _ => by cases h
  | n :: ns, ⟨.str, _⟩ :: hh, s, s', W, _, h, _, _, _, _ => by cases h
  | n :: ns, ⟨.pr _ _, _⟩ :: hh, s, s', W, _, h, _, _, _, _ => by cases h
theorem tokNs_rep : ∀ {cs : List AV} {vs : List Value} {ns : List Nat}, tokNs cs = some ns → All2 (Rep1 E s W) cs vs → vs = ns.map E.rv
  | [], [], ns, h, _ => by
    obtain rfl : [] = ns := by simpa [tokNs] using h
    rfl
  | .rt (.tok n) :: cs, v :: vs, ns, h, hv => by
    simp only [tokNs] at h
    split at h
    · rename_i l hl
      obtain rfl := Option.some.inj h
      rw [tokNs_rep hl hv.2]
      have hv1 : v = E.rv n := hv.1.1
      rw [hv1]
      rfl
    · cases h
  | a :: cs, [], ns, h, hv => hv.elim
  | [], v :: vs, ns, h, hv => hv.elim
  | .rt (.cell _ _) :: cs, v :: vs, ns, h, _ => by cases h
  | .junk :: cs, v :: vs, ns, h, _ => by cases h
  | .dead :: cs, v :: vs, ns, h, _ => by cases h
  | .deadp :: cs, v :: vs, ns, h, _ => by cases h
  | .v _ :: cs, v :: vs, ns, h, _ => by cases h
  | .sl _ _ _ _ :: cs, v :: vs, ns, h, _ => by cases h
  | .own _ _ _ :: cs, v :: vs, ns, h, _ => by cases h
  | .lit _ _ _ :: cs, v :: vs, ns, h, _ => by cases h
  | .ptr _ _ :: cs, v :: vs, ns, h, _ => by cases h
  | .fp _ _ _ _ :: cs, v :: vs, ns, h, _ => by cases h
  | .ep _ _ _ :: cs, v :: vs, ns, h, _ => by cases h
  | .fn _ _ _ :: cs, v :: vs, ns, h, _ => by cases h
  | .agg _ :: cs, v :: vs, ns, h, _ => by cases h
  | .tup _ :: cs, v :: vs, ns, h, _ => by cases h
  | .same _ :: cs, v :: vs, ns, h, _ => by cases h
theorem handed_rep {x : Operand} {ag : Bool} {ns : List Nat} (hR : Rep E s act W) (h : (s.ev x).handed = some (ag, ns)) : act.eval x = handV ag (ns.map E.rv) := by
  have hv := rep_ev hR x
  generalize s.ev x = a at h hv
  unfold AV.handed at h
  split at h
  · rename_i n
    cases h
    exact hv.1
  · rename_i cs
    split at h
    · rename_i l hl
      cases h
      obtain ⟨vs, h1, h2⟩ := hv
      have := tokNs_rep hl h2
      rw [h1, ← this]
      rfl
    · cases h
  · cases h
theorem tokHs_rows (hR : Rep E s act W) : ∀ {ns : List Nat} {hs : List HV}, tokHs s ns = some hs → WRows (fun n k => E.own k = .tok n) W ns (ns.map E.rv) hs
  | [], hs, h => by
    obtain rfl : [] = hs := by simpa [tokHs] using h
    trivial
  | n :: ns, hs, h => by
    simp only [tokHs] at h
    split at h
    · rename_i e t xs hx
      split at h
      · rename_i l hl
        obtain rfl := Option.some.inj h
        have ht := hR.tk n
        rw [hx] at ht
        exact ⟨ht, tokHs_rows hR hl⟩
      · cases h
    · cases h
theorem rows_wtok (hR : Rep E s act W) : ∀ {ns : List Nat} {hs ys : List HV}, tokHs s ns = some hs → sameSh hs ys → WRows (fun n k => E.own k = .tok n) W' ns (ns.map E.rv) ys → WTok E s W' ns ys
  | [], hs, ys, h, hsh, hw => by
    obtain rfl : [] = hs := by simpa [tokHs] using h
    cases ys with
    | nil => trivial
    | cons y ys => exact hsh.elim
  | n :: ns, hs, ys, h, hsh, hw => by
    simp only [tokHs] at h
    split at h
    · rename_i e t xs hx
      split at h
      · rename_i l hl
        obtain rfl := Option.some.inj h
        cases ys with
        | nil => exact hsh.elim
        | cons y ys =>
          obtain ⟨ty, yv⟩ := y
          cases ty with
          | sl e' t' =>
            obtain ⟨rfl, rfl, h3, h4⟩ := hsh
            obtain ⟨h5, h6⟩ := hw
            exact ⟨⟨xs, hx, h3.symm⟩, h5, rows_wtok hR hl h4 h6⟩
          | _ => exact hsh.elim
      · cases h
    · cases h
theorem scalHs_rep (hR : Rep E s act W) : ∀ {xs : List Operand} {sc : List HV}, scalHs (xs.map s.ev) = some sc → xs.map act.eval = sc.map HV.val
  | [], sc, h => by
    obtain rfl : [] = sc := by simpa [scalHs] using h
    rfl
  | x :: xs, sc, h => by
    simp only [List.map_cons, scalHs] at h
    split at h
    · rename_i h1 hh1
      split at h
      · rename_i l hl
        obtain rfl := Option.some.inj h
        rw [List.map_cons, List.map_cons, scalHs_rep hR hl]
        congr 1
        unfold scalH at hh1
        split at hh1 <;> first | (rename_i hx; cases hh1; exact ev_v hR hx) | cases hh1
      · cases h
    · cases h
theorem sim_callW [WrFact P C] (hR : Rep E s act W) {c : Call} {fx : Operand} {f : Nat} (ho : o.op = .call c) (hc : c.callee = .value fx) (hfx : s.ev fx = .fn (.func f) [] []) {w : Wr} (hw : C.wr f = some w) (hq : C.quiet f = false)
    (h : evCallW s w c.args.toList κ = some r) : SimP C pr P o E s act W κ π r := by
  have hfv := rep_ev hR fx
  rw [hfx] at hfv
  obtain ⟨fs, cs, hy, hfs, hcs⟩ := hfv
  have efs : fs = #[] := by
    have := hfs.len
    exact Array.toList_eq_nil_iff.mp (List.length_eq_zero_iff.mp this.symm)
  have ecs : cs = #[] := by
    have := hcs.len
    exact Array.toList_eq_nil_iff.mp (List.length_eq_zero_iff.mp this.symm)
  subst efs
  subst ecs
  unfold evCallW at h
  split at h
  · cases h
  rename_i x xr hx
  split at h
  case h_2 => cases h
  rename_i ag ns hag
  split at h
  case h_2 => cases h
  rename_i hap
  split at h
  case h_2 => cases h
  rename_i hs hhs
  split at h
  case h_2 => cases h
  rename_i sc hsc
  split at h
  case h_2 => cases h
  rename_i ys out hrun
  split at h
  case h_2 => cases h
  rename_i s1 hs1
  split at h
  case h_2 => cases h
  rename_i a ha
  have hF := WrFact.told (P := P) f w hw ag hs sc ys out hrun
  obtain ⟨fn, hf1, hf2, hf3⟩ := hF.fn
  have hrows := tokHs_rows hR hhs
  have hcalls := hF.calls W (fun n k => E.own k = .tok n) ns (ns.map E.rv) (act.eval x) (handed_rep hR hag) (fun p q b h1 h2 => by rw [h1] at h2; injection h2) hrows
  intro K Q hK hQ
  unfold Oper.wp
  rw [run_call_value ho hc hy hf1 hf3 hf2, Oper.upon_enter]
  have e0 : (#[] ++ c.args.map act.eval ++ #[] : Array Value) = (act.eval x :: sc.map HV.val).toArray := by
    apply Array.ext'
    simp only [Array.toList_append, Array.toList_map, hx, List.map_cons, scalHs_rep hR hsc]
    simp
  rw [e0]
  refine hcalls.mono fun e w'' he => ?_
  obtain ⟨⟨v, rfl, hv⟩, h2, h3, h4, h5, h6, h7⟩ := he
  have hblk : ∀ k, k < W.heap.size → (∀ n, n ∈ ns → E.own k ≠ .tok n) → w''.heap[k]? = W.heap[k]? := fun k hk hn => h7 k hk hn
  have hR' := putTk_rep ns ys hR hs1 (apartN_nodup hap) (rows_wtok hR hhs hF.same h2) h6 hblk
  refine hK E s1 a v w'' h hR' ?_ ⟨h3, h4, h5, h6, fun k hk hf => ⟨rfl, hblk k hk fun n _ hh => ?_⟩, ⟨[], by simp⟩, rfl⟩ ⟨fun hkb => ?_, fun _ x _ g hg i _ u hu => ?_⟩
  · unfold outAV at ha
    split at ha
    · cases ha; trivial
    · rename_i hh
      have hv' : v = hh.val := hv
      subst hv'
      obtain ⟨ty, y⟩ := hh
      cases ty <;> simp only [HV.av] at ha <;> first | (cases ha; exact rfl) | cases ha
    · cases ha
  · rcases hf with hf | hf <;> rw [hh] at hf <;> cases hf
  · exfalso
    simp only [keepB, ho, hc] at hkb
    cases fx with
    | func f' =>
      have e1 : s.ev (.func f') = .fn (.func f') [] [] := rfl
      rw [e1] at hfx
      injection hfx with hfx
      injection hfx with hfx
      subst hfx
      have hkb' : C.quiet f' = true := hkb
      rw [hq] at hkb'
      cases hkb'
    | _ => cases hkb
  · have hb := box_own hR hg
    exact cell_same (hblk g (cell_lt hu) fun n _ hh => by rw [hb] at hh; cases hh) hu
theorem call_eta {c : Call} {b : Builtin} {xs : List Operand} {ts : List Nat} (hc : c.callee = .builtin b) (hx : c.args.toList = xs) (ht : c.argTypes.toList = ts) : c = { callee := .builtin b, args := xs.toArray, argTypes := ts.toArray } := by
  cases c with
  | mk cal ar at' =>
    dsimp only at hc hx ht
    subst hc
    congr
    · exact Array.ext' hx
    · exact Array.ext' ht
theorem sim_minmax {c : Call} {b : Builtin} {x y : Operand} {k : IntKind} {m n v : Int} (hR : Rep E s act W) (ho : o.op = .call c) (hc : c.callee = .builtin b) (hargs : c.args.toList = [x, y])
    (hx : s.ev x = .v (.int k m)) (hy : s.ev y = .v (.int k n)) (hrun : ∀ W cs, (builtin b c.argTypes o.type cs #[.int k m, .int k n]).run P W = .ok (.value (.int k v)) W) : SimV C P o E s act W (.v (.int k v)) := by
  refine Sim.val hR (y := .int k v) (fun W _ => ?_) rfl
  have hx := ev_v hR hx
  have hy := ev_v hR hy
  have e : c.args.map act.eval = #[.int k m, .int k n] := by
    apply Array.ext'
    rw [Array.toList_map, hargs]
    simp [hx, hy]
  simp only [execOp, ho, resolve, hc, Sem.run_bind, Sem.run_pure, Result.andThen_ok, invoke, e, hrun]
theorem min2_run (k : IntKind) (m n : Int) (W : World) : (Builtin.min2 (.int k m) (.int k n)).run P W = .ok (.int k (mn m n)) W := by
  rw [show Builtin.min2 (.int k m) (.int k n) = pure (.int k (if n < m then n else m)) by simp only [Builtin.min2], Sem.run_pure]
  congr 2
theorem max2_run (k : IntKind) (m n : Int) (W : World) : (Builtin.max2 (.int k m) (.int k n)).run P W = .ok (.int k (mx m n)) W := by
  rw [show Builtin.max2 (.int k m) (.int k n) = pure (.int k (if m < n then n else m)) by simp only [Builtin.max2], Sem.run_pure]
  congr 2
theorem sim_bytes (hT : TabOK P C.D) {src dst : Nat} {x : Operand} {κ : AV → Option ρ} (hR : Rep E s act W) (ho : o.op = .convert src dst x) (hdst : dst = byteSl) (h : evBytes C src (s.ev x) κ = some r) : ∃ a', κ a' = some r ∧ SimE P o E s act W a' s := by
  subst hdst
  unfold evBytes at h
  split at h
  case h_2 => cases h
  rename_i hs
  split at h
  case h_2 => cases h
  rename_i hb
  split at h
  case h_2 => cases h
  rename_i e he
  split at h
  case h_2 => cases h
  rename_i b hx
  split at h
  case isFalse => cases h
  rename_i hle
  obtain ⟨d1, hu1, -⟩ := under_of hT (t := src) (by rw [hs]; simp)
  obtain ⟨e', he1, he2⟩ := isBytes_some hT hb
  have he' : P.underlying byteSl = some (.slice e) := elem_some hT he
  obtain rfl : e = e' := by
    rw [he'] at he1
    injection he1 with he1
    injection he1
  have hy := ev_v hR hx
  have hrun : (execOp act.eval o).run P W = .ok (.value (.slice (some ⟨W.heap.size, 0, none⟩) b.size (grownCap W b.size 0 e))) (Lib.bytesWorld W e b) := by
    simp only [execOp, ho, hy, Sem.run_bind, print_bytes src byteSl e hu1 he' he2 b W, Result.andThen_ok, Sem.run_pure]
  have hB : Below W.heap.size W (Lib.bytesWorld W e b) := bytes_below (Below.refl _ _) (Nat.le_refl _) e b
  have hsz := Lib.bytesWorld_size W e b
  refine ⟨_, h, SimE.step hrun (rep_more hR hB.size hB.block) ?_ ⟨hB.os, hB.tape, hB.output, hB.size, fun k hk _ => ⟨rfl, hB.block k hk⟩, ⟨[], by simp⟩, fun _ _ => rfl, rfl⟩ hB.block⟩
  refine ⟨some ⟨W.heap.size, 0, none⟩, grownCap W b.size 0 e, by rw [bytesOf_length], by rw [bytesOf_length]; exact grownCap_ge W b.size 0 e, fun W' hW' => ?_⟩
  have hg : W'.heap[W.heap.size]? = (Lib.bytesWorld W e b).heap[W.heap.size]? := hW' _ (hR.new _ (Nat.le_refl _)) (by rw [hsz]; omega)
  obtain ⟨h1, h2, h3⟩ := bytes_reads W e b hle
  rw [bytesOf_length]
  refine C_of_reads (enc := Value.int .u8) (d := (0 : Int)) (h1 := fun _ => rfl) ⟨h1, h2, fun hp => ?_⟩
  obtain ⟨ad, e1, h4⟩ := h3 hp
  refine ⟨ad, e1, fun j hj => ?_⟩
  rw [← h4 j hj]
  cases e1
  rw [add_plain]
  simp only [World.cell?, hg]
theorem sim_q (hT : TabOK P C.D) {insts : Nat → List Inst} {sem : Sem ρ} (hR : Rep E s act W) (hq : qB o = true) (h : evOp C insts sem pr s o κ π = some r) : ∃ a', κ a' s = some r ∧ SimV C P o E s act W a' := by
  unfold evOp at h
  split at h
  case h_1 x ho => exact ⟨_, h, sim_move hR ho⟩
  case h_2 x ho => simp [qB, ho] at hq
  case h_3 c a b ho =>
    split at h
    · rename_i t hc
      have h2 := sim_pick (C := C) hR (P := P) ho hc
      cases t with
      | true => exact ⟨_, h, h2⟩
      | false => exact ⟨_, h, h2⟩
    · cases h
  case h_4 x ho =>
    split at h
    · rename_i j off hx; exact ⟨_, h, sim_nil_ptr hR ho hx⟩
    · rename_i f l m hx; exact ⟨_, h, sim_nil_fn hR ho hx⟩
    · cases h
  case h_5 t ho => simp [qB, ho] at hq
  case h_6 t x ho => simp [qB, ho] at hq
  case h_7 t parts ho =>
    split at h
    · rename_i fs hd
      split at h
      · rename_i cs hc; exact ⟨_, h, sim_build hT hR ho hc ⟨fs, hd⟩⟩
      · cases h
    · cases h
  case h_8 t len parts ho => simp [qB, ho] at hq
  case h_9 t a ho => exact sim_load hT hR ho h
  case h_10 t a x ho => simp [qB, ho] at hq
  case h_11 op t x y u ho => exact sim_bin hT hR ho h
  case h_12 op t x ho => exact sim_un hR ho h
  case h_13 src dst x ho =>
    have hd : Nat.beq dst byteSl = false := by simpa [qB, ho] using hq
    rw [hd] at h
    exact sim_conv hT hR ho h
  case h_14 t x ho =>
    split at h
    · cases h
    · cases h
    · rename_i h1 h2
      split at h
      · rename_i y hx; exact ⟨_, h, sim_iface hT hR ho hx h2 h1⟩
      · cases h
  case h_15 f first caps ho =>
    split at h
    · rename_i hp
      simp only [Bool.and_eq_true] at hp
      exact ⟨_, h, sim_makeFunc hR ho hp.1 hp.2⟩
    · cases h
  case h_16 t l c ho => simp [qB, ho] at hq
  case h_17 t x lo hi ho => exact sim_slice hT hR ho h
  case h_18 t x f ho =>
    split at h
    · rename_i off ft hf
      obtain ⟨f1, f2, f3, f4⟩ := sim_fieldAddr (P := P) (o := o) hT hR ho hf
      split at h
      · rename_i j o' hx; exact ⟨_, h, f1 j o' hx⟩
      · rename_i m ty y o' hx; exact ⟨_, h, f2 m ty y o' hx⟩
      · rename_i q i o' hx; exact ⟨_, h, f3 q i o' hx⟩
      · rename_i hx; exact ⟨_, h, f4 hx⟩
      · cases h
    · cases h
  case h_19 t x f ho =>
    split at h
    · rename_i off ft hf
      split at h
      · rename_i cs hx
        dsimp only at h
        split at h
        · rename_i hh
          simp only [Bool.and_eq_true] at hh
          obtain ⟨hd, h1⟩ := oneOk_spec hT hh.2
          exact ⟨_, h, sim_field hT hR ho hf hx rfl hh.1 hd h1⟩
        · cases h
      · cases h
    · cases h
  case h_20 t x i ho => exact sim_indexAddr hT hR ho h
  case h_21 t x i ho =>
    split at h
    · rename_i ht; exact sim_index hT hR ho ht h
    · cases h
  case h_22 x i ho =>
    split at h
    · rename_i l hx
      split at h
      · rename_i hi; exact ⟨_, h, sim_extract hR ho hx hi⟩
      · cases h
    · cases h
  case h_23 x ho => simp [qB, ho] at hq
  case h_24 c ho =>
    split at h
    · rename_i hc
      split at h
      · rename_i x t hx ht
        have e := call_eta hc hx ht
        rw [e] at ho
        exact sim_len (args := #[]) hT hR ho h
      · cases h
    · rename_i hc; simp [qB, ho, hc] at hq
    · rename_i hc
      split at h
      · rename_i x y hargs
        split at h
        · rename_i k a k' b hx hy
          split at h
          · rename_i hk
            subst hk
            refine ⟨_, h, sim_minmax hR ho hc hargs hx hy fun W cs => ?_⟩
            simp only [builtin, min_two, Sem.run_bind, min2_run, Result.andThen_ok, Sem.run_pure]
          · cases h
        · cases h
      · cases h
    · rename_i hc
      split at h
      · rename_i x y hargs
        split at h
        · rename_i k a k' b hx hy
          split at h
          · rename_i hk
            subst hk
            refine ⟨_, h, sim_minmax hR ho hc hargs hx hy fun W cs => ?_⟩
            simp only [builtin, Builtin.max_, List.foldlM_cons, List.foldlM_nil, Sem.run_bind, max2_run, Result.andThen_ok, Sem.run_pure]
          · cases h
        · cases h
      · cases h
    · rename_i fx hc; simp [qB, ho, hc] at hq
    · cases h
  case h_25 => cases h
theorem sim_op [Bgs] [WrFact P C] (hT : TabOK P C.D) {insts : Nat → List Inst} {sem : Sem ρ} (hsem : SemOK P insts sem) (hR : Rep E s act W) (hB : BgOK E W) (h : evOp C insts sem pr s o κ π = some r) : SimP C pr P o E s act W κ π r := by
  by_cases hq : qB o = true
  · obtain ⟨a', h1, h2⟩ := sim_q hT hR hq h
    exact h2.toP hR h1
  unfold evOp at h
  split at h
  case h_2 x ho =>
    obtain ⟨a', s', h1, h2⟩ := sim_assign_all hT hR ho h
    exact h2.toP h1 (by simp [spB, keepB, qB, ho]) (by simp [keepB, qB, ho])
  case h_5 t ho =>
    split at h
    · rename_i ht; exact (sim_alloc hT hR ho (Nat.blt_eq.mp ht)).toP h
    · cases h
  case h_6 t x ho =>
    obtain ⟨a', s', h1, h2⟩ := sim_box hT hR ho h
    exact h2.toP h1 (by simp [spB, keepB, qB, ho]) (by simp [keepB, qB, ho])
  case h_8 t len parts ho =>
    obtain ⟨a', s', h1, h2⟩ := sim_lit hT hR ho h
    exact h2.toP h1
  case h_10 t a x ho =>
    split at h
    case h_2 => cases h
    rename_i hpr
    obtain ⟨s', h1, h2, W1, h3, h4⟩ := sim_store hT hR ho h
    exact h2.toS h1 h3 (fun x hx => h4 x (List.all_eq_true.mp hpr x hx)) (by simp [keepB, qB, ho])
  case h_13 src dst x ho =>
    have hd : Nat.beq dst byteSl = true := by simpa [qB, ho] using hq
    rw [hd] at h
    obtain ⟨a', h1, h2⟩ := sim_bytes hT hR ho (Nat.eq_of_beq_eq_true hd) h
    exact h2.toP h1
  case h_16 t l c ho =>
    obtain ⟨a', s', h1, h2⟩ := sim_make hT hR ho h
    exact h2.toP h1
  case h_23 x ho =>
    split at h
    · rename_i t y hx
      have hy := ev_v hR hx
      intro K Q hK hQ
      unfold Oper.wp
      have e : (execOp act.eval o).run P W = .halt (.panic (.iface t y)) W := by
        simp [execOp, ho, hy, Instr.panic, goPanic, Sem.run_bind, Sem.run]
      rw [e, Oper.upon_panic]
      exact hQ E _ _ _ W h (Aft.refl _ _) ⟨⟨rfl, trivial⟩, hR.bx, hR.ln, hR.new⟩
    · cases h
  case h_24 c ho =>
    split at h
    · rename_i hc; exact absurd (by simp [qB, ho, hc]) hq
    · rename_i hc
      split at h
      · rename_i a x t u hx ht
        have e := call_eta hc hx ht
        have ho' := ho
        rw [e] at ho
        obtain ⟨a', s', h1, h2⟩ := sim_append hT hR ho h
        exact h2.toP hR h1 (by simp [keepB, ho])
      · cases h
    · rename_i hc; exact absurd (by simp [qB, ho, hc]) hq
    · rename_i hc; exact absurd (by simp [qB, ho, hc]) hq
    · rename_i fx hc
      split at h
      · rename_i f first caps hfx
        split at h
        · exact sim_call hsem hR hB ho hc hfx h
        · rename_i W1 hW1
          split at h
          · rename_i hq1
            exact sim_callW hR ho hc hfx hW1 hq1 h
          · cases h
      · cases h
    · cases h
  case h_25 => cases h
  all_goals (rename_i ho; exact absurd (by simp [qB, ho]) hq)
end
end Go.Proofs.YtbakkcdanoopgaaGreatDoor.Ev
set_option linter.unusedVariables false
set_option linter.unusedSimpArgs false
namespace Go.Proofs.YtbakkcdanoopgaaGreatDoor.Ev
open Go Go.RowKit Go.Proofs.YtbakkcdanoopgaaGreatDoorW.PrintWords Go.Proofs.YtbakkcdanoopgaaGreatDoorW.PrintMore Kd
section
variable {P : Program} {o : Oper} {E E' : Env} {s s' : St} {act : Act} {W W' : World} {ρ : Type} {C : Ctx} {r : ρ}
theorem rep1_tmps {t : List AV} {a : AV} {y : Value} (h : Rep1 E s W a y) : Rep1 E { s with tmps := t } W a y := by
  cases a with
  | rt q => cases q <;> exact h
  | ep q i off =>
    obtain ⟨g, n, c, e, u, xs, h1, h2⟩ := h
    refine ⟨g, n, c, e, u, xs, ?_, ?_⟩
    · cases q <;> exact h1
    · refine ⟨?_, h2.2⟩
      have h3 := h2.1
      cases q <;> exact h3
  | _ => exact h
theorem tok_tmps {t : List AV} {n : Nat} {a : AV} (h : Tok E s W n a) : Tok E { s with tmps := t } W n a := by
  cases a with
  | lit e u rows =>
    obtain ⟨g, cells, h1, h2, h3, h4, h5⟩ := h
    exact ⟨g, cells, h1, h2, h3, h4.imp fun _ _ _ => rep1_tmps, h5⟩
  | _ => exact h
theorem set_tmp (hR : Rep E s act W) {g : Nat} {a : AV} {y : Value} (hv : RepV E s W a y) : Rep E { s with tmps := setT s.tmps g a } { act with tmps := act.tmps.setIfInBounds g y } W := by
  refine ⟨?_, fun n => tok_tmps (hR.tk n), hR.bx, hR.ln, hR.new⟩
  have h0 : All2 (RepV E { s with tmps := setT s.tmps g a } W) s.tmps act.tmps.toList := hR.tm.imp fun a y _ h => repV_keep (fun _ _ => rep1_tmps) h
  have hv' : RepV E { s with tmps := setT s.tmps g a } W a y := repV_keep (fun _ _ => rep1_tmps) hv
  rw [setT_eq]
  refine All2.of_get (by rw [List.length_set, h0.len]; simp) fun i a' y' ha hy => ?_
  have hy' : (act.tmps.toList.set g y)[i]? = some y' := by simpa using hy
  rw [List.getElem?_set] at ha hy'
  by_cases hi : g = i
  · subst hi
    rw [if_pos rfl] at ha hy'
    split at ha
    · split at hy'
      · obtain rfl := Option.some.inj ha
        obtain rfl := Option.some.inj hy'
        exact hv'
      · cases hy'
    · cases ha
  · rw [if_neg hi] at ha hy'
    obtain ⟨y2, h1, h2⟩ := h0.get ha
    rw [hy'] at h1
    obtain rfl := Option.some.inj h1
    exact h2
theorem put_rep (hR : Rep E s act W) {d : Option Nat} {a : AV} {y : Value} (hv : RepV E s W a y) : Rep E (s.put d a) (act.put d y) W := by
  cases d with
  | none => exact hR
  | some d => exact set_tmp hR hv
def Like (a b : Act) : Prop := b.defers = a.defers ∧ b.tmps.size = a.tmps.size
theorem Like.refl (a : Act) : Like a a := ⟨rfl, rfl⟩
theorem Like.trans {a b c : Act} (h : Like b c) (h' : Like a b) : Like a c := ⟨h.1.trans h'.1, h.2.trans h'.2⟩
theorem put_like (act : Act) (d : Option Nat) (y : Value) : Like act (act.put d y) := by cases d <;> simp [Like, Act.put]
theorem put_defers (act : Act) (d : Option Nat) (y : Value) : (act.put d y).defers = act.defers := by cases d <;> rfl
theorem tmp_bool (hR : Rep E s act W) {g : Nat} {b : Bool} (h : getT s.tmps g = .v (.bool b)) : act.tmps[g]? = some (.bool b) := by
  obtain ⟨y, h1, h2⟩ := hR.tm.get (get_of_getT h (by simp))
  have h3 : y = .bool b := h2
  rw [h3] at h1
  simpa using h1
theorem tmp_same (hR : Rep E s act W) {g : Nat} {b : Bool} (h : getT s.tmps g = .v (.bool b)) : Rep E { s with tmps := setT s.tmps g (.v (.bool b)) } act W := by
  have h1 := tmp_bool hR h
  have h2 := set_tmp hR (g := g) (a := .v (.bool b)) (y := .bool b) rfl
  have e : act.tmps.setIfInBounds g (.bool b) = act.tmps := by
    apply Array.ext'
    rw [Array.toList_setIfInBounds]
    refine List.ext_getElem? fun i => ?_
    rw [List.getElem?_set]
    split
    · rename_i hi
      subst hi
      split
      · have h4 : act.tmps.toList[g]? = some (.bool b) := by simpa using h1
        exact h4.symm
      · rename_i h3
        rw [List.getElem?_eq_none (by simpa using h3)]
    · rfl
  rw [e] at h2
  exact h2
theorem guard_wanted {ops : Array Oper} (hR : Rep E s act W) {j g : Nat} {b want : Bool} (hg : o.guard = some (j, want)) (hj : guardT ops.toList j = some g) (h : getT s.tmps g = .v (.bool b)) :
    Region.wanted o (yielded ops act.tmps) = (b == want) := by
  have h1 := tmp_bool hR h
  unfold guardT at hj
  rw [Array.getElem?_toList] at hj
  split at hj
  · rename_i o' ho'
    have h2 : yielded ops act.tmps j = some b := by
      unfold yielded
      rw [ho', Option.bind_some, hj, Option.bind_some, h1]
    unfold Region.wanted
    rw [hg]
    dsimp only
    rw [h2]
    cases b <;> cases want <;> rfl
  · cases hj
theorem tmp_tuple (hR : Rep E s act W) {g : Nat} {l : Array Value} (h : getT s.tmps g = .v (.tuple l)) : act.tmps[g]? = some (.tuple l) := by
  obtain ⟨y, h1, h2⟩ := hR.tm.get (get_of_getT h (by simp))
  have h3 : y = .tuple l := h2
  rw [h3] at h1
  simpa using h1
theorem guard_none {ops : Array Oper} (hR : Rep E s act W) {j g : Nat} {l : Array Value} {want : Bool} (hg : o.guard = some (j, want)) (hj : guardT ops.toList j = some g) (h : getT s.tmps g = .v (.tuple l)) :
    Region.wanted o (yielded ops act.tmps) = false := by
  have h1 := tmp_tuple hR h
  unfold guardT at hj
  rw [Array.getElem?_toList] at hj
  split at hj
  · rename_i o' ho'
    have h2 : yielded ops act.tmps j = none := by
      unfold yielded
      rw [ho', Option.bind_some, hj, Option.bind_some, h1]
    unfold Region.wanted
    rw [hg]
    dsimp only
    rw [h2]
    cases want <;> rfl
  · cases hj
theorem evG_rep [Bgs] [WrFact P C] (hT : TabOK P C.D) {insts : Nat → List Inst} {sem : Sem ρ} (hsem : SemOK P insts sem) {pr : List Cl} {ops : Array Oper} {κ : Bool → St → Option ρ} {π : AV → St → Option ρ} (hR : Rep E s act W) (hB : BgOK E W) (h : evG C insts sem pr ops.toList o s κ π = some r)
    (K : Act → World → Prop) (Q : Exit → Act → World → Prop) (hK : ∀ E' s' act' W' ran, κ ran s' = some r → Rep E' s' act' W' → Aft E W E' W' → (∃ v, act' = act.put o.dst v) → KeepsP C pr o E W W' → K act' W')
    (hQ : ∀ E' s' a' y' W', π a' s' = some r → Aft E W E' W' → ArgsOK E' W' s'.boxes [a'] [y'] → Q (.panic [{ v := y', recovered := false }]) act W') :
    if Region.wanted o (yielded ops act.tmps) then o.wp P act W K Q else K (act.put o.dst undef) W := by
  unfold evG at h
  have run : ∀ {s0 : St}, Rep E s0 act W → evOp C insts sem pr s0 o (fun a s1 => κ true (s1.put o.dst a)) π = some r → o.wp P act W K Q := fun {s0} hR0 h0 =>
    sim_op hT hsem hR0 hB h0 K Q (fun E' s' a' y' W' h1 h2 h3 h4 h5 => hK E' _ _ W' true h1 (put_rep h2 h3) h4 ⟨_, rfl⟩ h5) (fun E' s' a' y' W' h1 h2 h3 => hQ E' s' a' y' W' h1 h2 h3)
  have skip : ∀ {s0 : St}, Rep E s0 act W → κ false (s0.put o.dst (.v undef)) = some r → K (act.put o.dst undef) W := fun {s0} hR0 h0 =>
    hK E _ _ W false h0 (put_rep hR0 rfl) (Aft.refl _ _) ⟨_, rfl⟩ (.of_ext fun _ _ => rfl)
  split at h
  · rename_i hg
    rw [if_pos (by unfold Region.wanted; rw [hg])]
    exact run hR h
  · rename_i j want hg
    split at h
    · rename_i g hj
      split at h
      · rename_i b hb
        rw [guard_wanted hR hg hj hb]
        cases want with
        | true =>
          cases b with
          | true => exact run (tmp_same hR hb) h
          | false => exact skip (tmp_same hR hb) h
        | false =>
          cases b with
          | true => exact skip (tmp_same hR hb) h
          | false => exact run (tmp_same hR hb) h
      · rename_i l hb
        rw [guard_none hR hg hj hb]
        exact skip hR h
      · cases h
    · cases h
theorem ops_rep [Bgs] [WrFact P C] (hT : TabOK P C.D) {insts : Nat → List Inst} {sem : Sem ρ} (hsem : SemOK P insts sem) {ops : Array Oper} {κ : St → Option ρ} {π : AV → St → Option ρ} : ∀ (l : List Oper) {E : Env} {s : St} {act : Act} {W : World}, Rep E s act W → BgOK E W → evOps C insts sem ops.toList l s κ π = some r →
    ∀ Q : Exit → Act → World → Prop, (∀ E' s' act' W', κ s' = some r → Rep E' s' act' W' → Aft E W E' W' → Like act act' → Q .normal act' W') →
      (∀ E' s' a' y' act' W', π a' s' = some r → Aft E W E' W' → ArgsOK E' W' s'.boxes [a'] [y'] → Like act act' → Q (.panic [{ v := y', recovered := false }]) act' W') → wpList P ops Q l act W
  | [], E, s, act, W, hR, hB, h, Q, hK, hQ => hK E s act W h hR (Aft.refl _ _) (Like.refl _)
  | o :: l, E, s, act, W, hR, hB, h, Q, hK, hQ => by
    unfold evOps at h
    unfold wpList
    have h1 := evG_rep hT hsem hR hB h (wpList P ops Q l) Q (fun E' s' act' W' _ h1 h2 h3 ⟨v4, h4'⟩ _ =>
      have h4 : Like act act' := h4' ▸ put_like _ _ _
      ops_rep hT hsem l h2 (hB.aft h3) h1 Q (fun E2 s2 act2 W2 k1 k2 k3 k4 => hK E2 s2 act2 W2 k1 k2 (h3.trans k3) (k4.trans h4)) (fun E2 s2 a2 y2 act2 W2 k1 k2 k3 k4 => hQ E2 s2 a2 y2 act2 W2 k1 (h3.trans k2) k3 (k4.trans h4)))
      (fun E' s' a' y' W' h1 h2 h3 => hQ E' s' a' y' act W' h1 h2 h3 (Like.refl _))
    split
    · rename_i hw
      rw [if_pos hw] at h1
      exact .inl h1
    · rename_i hw
      rw [if_neg hw] at h1
      exact h1
end
end Go.Proofs.YtbakkcdanoopgaaGreatDoor.Ev
set_option linter.unusedVariables false
set_option linter.unusedSimpArgs false
namespace Go.Proofs.YtbakkcdanoopgaaGreatDoor.Ev
open Go Go.RowKit Go.Proofs.YtbakkcdanoopgaaGreatDoorW.PrintWords Go.Proofs.YtbakkcdanoopgaaGreatDoorW.PrintMore Kd
theorem tmpsOf_eq : ∀ l : List Operand, tmpsOf l = l.filterMap fun | .tmp t => some t | _ => none
  | [] => rfl
  | x :: l => by
    have ih := tmpsOf_eq l
    cases x <;> simp [tmpsOf, ih]
end Go.Proofs.YtbakkcdanoopgaaGreatDoor.Ev
set_option linter.unusedVariables false
set_option linter.unusedSimpArgs false
namespace Go.Proofs.YtbakkcdanoopgaaGreatDoor.Ev
open Go Go.RowKit Go.Proofs.YtbakkcdanoopgaaGreatDoorW.PrintWords Go.Proofs.YtbakkcdanoopgaaGreatDoorW.PrintMore Kd
section
variable {P : Program} {o : Oper} {E E' : Env} {s s' : St} {act : Act} {W W' : World} {ρ : Type} {C : Ctx} {r : ρ} {g : Nat}
def Made (P : Program) (act : Act) (W : World) (o : Oper) (g : Nat) : Prop :=
  ∃ (v : Value) (vs : Array Value) (t : Nat) (V : World), V.heap.size = g ∧ (execOp act.eval o).run P V = .ok (.value v) (V.alloc (.cells vs t)) ∧ W.heap[g]? = some (.cells vs t (0, 0)) ∧ act.put o.dst v = act
theorem setT_self : ∀ (l : List AV) (g : Nat), setT l g (getT l g) = l
  | [], _ => rfl
  | _ :: _, 0 => rfl
  | x :: r, g + 1 => by simp only [getT, setT, setT_self r g]
theorem mkB_spec (h : mkB o = true) : o.guard = none ∧ (∃ d, o.dst = some d ∧ ∀ ops : Array Oper, d ∉ o.looksAt ops) ∧ ((∃ t, o.op = .alloc t) ∨ ∃ t len parts, o.op = .buildSlice t len parts) := by
  unfold mkB at h
  split at h
  · rename_i d hg hd
    simp only [Bool.and_eq_true, Bool.not_eq_true', List.contains_eq_mem, decide_eq_false_iff_not] at h
    refine ⟨hg, ⟨d, hd, fun ops => ?_⟩, ?_⟩
    · unfold Oper.looksAt
      rw [hg]
      intro hm
      rcases List.mem_append.mp hm with hm | hm
      · exact h.1 (by rw [tmpsOf_eq]; exact hm)
      · cases hm
    · have h2 := h.2
      split at h2
      · rename_i t ho; exact .inl ⟨t, ho⟩
      · rename_i t len parts ho; exact .inr ⟨t, len, parts, ho⟩
      · cases h2
  · cases h
theorem Made.put (h : Made P act W o g) {ops : Array Oper} {z : Oper} (hs : ∀ cs b, o.op ≠ .select cs b) (ha : o.apart ops z = true) (v : Value) : Made P (act.put z.dst v) W o g := by
  obtain ⟨h1, h2, h3⟩ := Oper.apart_spec ha
  obtain ⟨u, vs, t, V, e1, e2, e3, e4⟩ := h
  refine ⟨u, vs, t, V, e1, ?_, e3, ?_⟩
  · rw [execOp_put o hs act z.dst v h3]
    exact e2
  · rw [Act.put_comm act v u fun d hd he => h2 d he hd, e4]
theorem Made.world (h : Made P act W o g) (hw : W'.heap[g]? = W.heap[g]?) : Made P act W' o g := by
  obtain ⟨u, vs, t, V, e1, e2, e3, e4⟩ := h
  exact ⟨u, vs, t, V, e1, e2, hw.trans e3, e4⟩
theorem Made.lt (h : Made P act W o g) : g < W.heap.size := by
  obtain ⟨u, vs, t, V, e1, e2, e3, e4⟩ := h
  exact (Array.getElem?_eq_some_iff.mp e3).1
def Env.hide (E : Env) (g : Nat) : Env := { E with own := fun k => if k = g then .hid else E.own k }
theorem hide_rep (hR : Rep E s act W) (ob : Obj) : Rep (E.hide W.heap.size) s act (W.alloc ob) := by
  have hb : Below W.heap.size W (W.alloc ob) := below_alloc (Below.refl _ _) _
  have hM : Move (fun _ => False) E W (E.hide W.heap.size) (W.alloc ob) := ⟨fun k hk _ => ⟨if_neg (by omega), hb.block k hk⟩, ⟨[], by simp [Env.hide]⟩, rfl⟩
  have hst : ∀ q, Stay E s W (E.hide W.heap.size) s (W.alloc ob) q := fun q y hy => by
    refine ⟨?_, fun _ _ _ h => h⟩
    cases q with
    | tok n => exact hy
    | cell j c =>
      obtain ⟨g, ty, cells, h1, h2, h3, h4⟩ := hy
      exact ⟨g, ty, cells, h1, (hb.block g (Array.getElem?_eq_some_iff.mp h2).1).trans h2, h3, h4⟩
  refine hR.go (φ := fun a => a) hM (fun h => h) (fun a y hr => hM.rep1 (fun h => h) (fun q _ => ⟨fun h => h, hst q⟩) hr) (map_none (fun _ => rfl) _).symm (fun n => .inl ⟨?_, fun h => h, rfl⟩) (fun j cs h => .inl ⟨h, fun h => h, fun _ h => h⟩) hR.ln fun k hk => ?_
  · cases s.toks n with
    | lit e t rows => simp only [AV.inLit]; rw [mapR_id fun _ => rfl]
    | _ => rfl
  · have e0 : (W.alloc ob).heap.size = W.heap.size + 1 := Array.size_push _
    rw [e0] at hk
    exact (if_neg (by omega)).trans (hR.new k (by omega))
theorem make_early (hT : TabOK P C.D) (hR : Rep E s act W) (hk : mkB o = true) (hj : ∀ d, o.dst = some d → getT s.tmps d = .junk) (hc : canMake C s o = true) :
    ∃ v vs t, (execOp act.eval o).run P W = .ok (.value v) (W.alloc (.cells vs t)) ∧ Rep (E.hide W.heap.size) s (act.put o.dst v) (W.alloc (.cells vs t)) ∧ Made P (act.put o.dst v) (W.alloc (.cells vs t)) o W.heap.size := by
  obtain ⟨hg, ⟨d, hd, hl⟩, hop⟩ := mkB_spec hk
  have hs : ∀ cs b, o.op ≠ .select cs b := fun cs b he => by
    rcases hop with ⟨t, ho⟩ | ⟨t, len, parts, ho⟩ <;> rw [ho] at he <;> cases he
  have put : ∀ v, Rep E s (act.put o.dst v) W := fun v => by
    have h1 := put_rep hR (d := o.dst) (a := .junk) (y := v) trivial
    have e : s.put o.dst .junk = s := by
      rw [hd]
      show ({ s with tmps := setT s.tmps d .junk } : St) = s
      rw [← hj d hd]
      rw [setT_self]
    rw [e] at h1
    exact h1
  have fin : ∀ v vs t, (execOp act.eval o).run P W = .ok (.value v) (W.alloc (.cells vs t)) → ∃ v vs t, (execOp act.eval o).run P W = .ok (.value v) (W.alloc (.cells vs t)) ∧ Rep (E.hide W.heap.size) s (act.put o.dst v) (W.alloc (.cells vs t)) ∧ Made P (act.put o.dst v) (W.alloc (.cells vs t)) o W.heap.size := fun v vs t h => by
    refine ⟨v, vs, t, h, hide_rep (put v) _, v, vs, t, W, rfl, ?_, heap_alloc_new W _, ?_⟩
    · rw [execOp_put (ops := #[]) o hs act o.dst v fun d' hd' => by rw [hd] at hd'; cases hd'; exact hl _]
      exact h
    · cases o.dst with
      | none => rfl
      | some d => simp [Act.put]
  unfold canMake at hc
  split at hc
  · rename_i t ho
    obtain ⟨i, d', z, hi⟩ := hT.get (look_size (Nat.blt_eq.mp hc) hT)
    refine fin (.pointer (some ⟨W.heap.size, 0, none⟩)) z.cells t ?_
    simp [execOp, ho, Instr.alloc, zeroValue, typeInfo, hi.info, hi.zero, newVar, newRow, newObj, Sem.run_bind, Sem.run_pure]
    rfl
  · rename_i t len parts ho
    split at hc
    case h_2 => cases hc
    rename_i e he
    split at hc
    case h_2 => cases hc
    rename_i ty hty
    split at hc
    case h_2 => cases hc
    rename_i rows hrows
    simp only [Bool.and_eq_true] at hc
    obtain ⟨h1, h2, h3⟩ := hc
    obtain ⟨vs, hrun, -⟩ := lit_run (o := o) hT hR ho he hty hrows (Nat.eq_of_beq_eq_true h1) (Nat.le_of_ble_eq_true h2) (Nat.le_of_ble_eq_true h3) W
    exact fin _ vs e hrun
  · cases hc
def Env.showTok (E : Env) (g d : Nat) (v : Value) : Env := { E with own := fun k => if k = g then .tok d else E.own k, rv := fun n => if n = d then v else E.rv n }
theorem showTok_move {g d : Nat} {v : Value} (hg : E.own g = .hid) : Move (fun x => x = .hid) E W (E.showTok g d v) W :=
  ⟨fun k hk hn => ⟨if_neg (fun h => hn (by rw [h]; exact hg)), rfl⟩, ⟨[], by simp [Env.showTok]⟩, rfl⟩
theorem tok_show {g d : Nat} {v : Value} {a : AV} (hR : Rep E s act W) (hg : E.own g = .hid) (hlt : g < W.heap.size) (hj : s.toks d = .junk) (ha : a ≠ .junk) (ht : Tok (E.showTok g d v) { s with toks := tokSet s.toks d a } W d a) :
    Rep (E.showTok g d v) { s with toks := tokSet s.toks d a } act W ∧ RepV (E.showTok g d v) { s with toks := tokSet s.toks d a } W (.rt (.tok d)) v := by
  have h := fresh_rep hR hj ha (showTok_move (W := W) (d := d) (v := v) hg) (by simp) (fun q => by cases q <;> simp [Root.owner]) (by simp) (fun n hn => if_neg hn) rfl ht (fun k hk => (if_neg (by omega)).trans (hR.new k hk))
  have e0 : (E.showTok g d v).rv d = v := if_pos rfl
  rw [e0] at h
  exact h
theorem lit_at {α : Type} {d : Kd α} {e g : Nat} {xs : List α} {vs : Array Value} {okp : Nat → Prop} (hh : W.heap[g]? = some (.cells vs e (0, 0))) (hrep : Reps (d.M W 0 okp) d.sz xs vs.toList) (hok : ∀ k, ¬ okp k) (hm : xs.length ≤ 9223372036854775807) :
    d.R e W 0 (fun k => k = g) (.slice (some ⟨g, 0, none⟩) xs.length xs.length) xs := by
  refine ⟨fun k hk => ?_, vs.toList, ⟨by rw [hrep.1], .inr ⟨g, xs.length, vs, by simp, Nat.zero_le _, hh, Nat.le_refl _, by simp only [maxLen]; omega, by rw [← Array.length_toList, hrep.1], by rw [← hrep.1, Array.length_toList, ← Array.length_toList, List.take_length]⟩⟩, hrep.imp_ fun p c hp => d.M_mono (fun k hk => absurd hk (hok k)) hp⟩
  have : g = k := by simpa [Value.ownBlock] using hk
  exact this.symm
theorem box_show {g : Nat} {cs : List AV} {vs : Array Value} {t : Nat} (hR : Rep E s act W) (hg : E.own g = .hid) (hh : W.heap[g]? = some (.cells vs t (0, 0))) (hl : vs.size = cs.length)
    (hc : ∀ (c : Nat) (a : AV) (y : Value), cs[c]? = some a → vs[c]? = some y → RepC E W (.cell s.boxes.length c) a y) :
    Rep (E.newBox g id s.boxes.length) { s with boxes := s.boxes ++ [cs] } act W ∧ RepV (E.newBox g id s.boxes.length) { s with boxes := s.boxes ++ [cs] } W (.ptr s.boxes.length 0) (.pointer (some ⟨g, 0, none⟩)) := by
  have hlt : g < W.heap.size := (Array.getElem?_eq_some_iff.mp hh).1
  have hm : Move (fun x => x = .hid) E W (E.newBox g id s.boxes.length) W :=
    ⟨fun k hk hn => ⟨if_neg fun h => hn (by rw [h]; exact hg), rfl⟩, ⟨[g], rfl⟩, rfl⟩
  have hadr : (E.newBox g id s.boxes.length).adr[s.boxes.length]? = some g := by
    show (E.adr ++ [g])[s.boxes.length]? = _
    rw [hR.ln]
    simp
  have hb : ∀ q : Root, ¬ q.owner = .hid := fun q => by cases q <;> simp [Root.owner]
  refine ⟨hR.go (φ := id) hm (by simp) (fun b y h => hm.rep1 (by simp) (fun q _ => ⟨hb q, fun y hy => ?_⟩) h) (map_none (fun _ => rfl) _).symm (fun n => .inl ⟨?_, by simp, rfl⟩) (fun j bs h => ?_) ?_ (fun k hk => ?_), _, hadr, rfl⟩
  · cases q with
    | tok n => exact ⟨hy, fun _ _ _ h => h⟩
    | cell j c =>
      obtain ⟨b, ty', cl, h1, h2, h3, e1, t1, xs1, h4⟩ := hy
      have hr0 : ∀ {e t xs}, s.root (.cell j c) = .own e t xs → (⟨s.tmps, s.toks, s.boxes ++ [cs]⟩ : St).root (.cell j c) = .own e t xs := fun {e t xs} h => by
        obtain ⟨bs', h5, h6⟩ := box_of_cell (s := s) (j := j) (c := c) h (by simp)
        show getT (getB (s.boxes ++ [cs]) j) c = _
        rw [getB_eq, List.getElem?_append_left (List.getElem?_eq_some_iff.mp h5).1, h5, Option.getD_some, getT_of h6]
      exact ⟨⟨b, ty', cl, hm.getAdr h1, h2, h3, e1, t1, xs1, hr0 h4⟩, fun _ _ _ h => hr0 h⟩
  · show s.toks n = _
    cases s.toks n with
    | lit e t rows => show AV.lit e t rows = AV.lit e t (mapR id rows); rw [mapR_id (f := id) fun _ => rfl]
    | _ => rfl
  · have h' : (s.boxes ++ [cs])[j]? = some bs := h
    by_cases hj : j < s.boxes.length
    · rw [List.getElem?_append_left hj] at h'
      exact .inl ⟨h', by simp, by simp⟩
    · rw [List.getElem?_append_right (by omega)] at h'
      have hje : j = s.boxes.length := by
        have h1 := (List.getElem?_eq_some_iff.mp h').1
        rw [List.length_singleton] at h1
        omega
      subst hje
      rw [Nat.sub_self] at h'
      obtain rfl : cs = bs := Option.some.inj h'
      refine .inr ⟨_, t, vs, hadr, if_pos rfl, hh, hl, fun c a y ha hy => ?_⟩
      exact hm.repC (by simp) (by simp) (hc c a y ha hy)
  · show (s.boxes ++ [cs]).length = (E.adr ++ [g]).length
    rw [List.length_append, List.length_append, hR.ln]
    rfl
  · exact (if_neg (by omega)).trans (hR.new k hk)
theorem made_eq {v v' : Value} {vs vs' : Array Value} {t t' : Nat} {V : World} {x : Except Unit Unit} (h : (execOp act.eval o).run P V = .ok (.value v) (V.alloc (.cells vs t))) (h' : (execOp act.eval o).run P V = .ok (.value v') (V.alloc (.cells vs' t'))) : v = v' ∧ vs = vs' ∧ t = t' := by
  rw [h] at h'
  simp only [Result.ok.injEq, Next.value.injEq] at h'
  obtain ⟨h1, h2⟩ := h'
  have h3 : (V.alloc (.cells vs t)).heap[V.heap.size]? = (V.alloc (.cells vs' t')).heap[V.heap.size]? := by rw [h2]
  rw [heap_alloc_new, heap_alloc_new] at h3
  simp only [Option.some.injEq, Obj.cells.injEq] at h3
  exact ⟨h1, h3.1, h3.2.1⟩
theorem reveal (hT : TabOK P C.D) {insts : Nat → List Inst} {sem : Sem ρ} {pr : List Cl} {ops : Array Oper} {κ : Bool → St → Option ρ} {π : AV → St → Option ρ} (hR : Rep E s act W) (hM : Made P act W o g) (hg : E.own g = .hid) (hk : mkB o = true) (h : evG C insts sem pr ops.toList o s κ π = some r) :
    ∃ E' s', κ true s' = some r ∧ Rep E' s' act W ∧ (∀ k, k ≠ g → E'.own k = E.own k) ∧ (∃ l, E'.adr = E.adr ++ l) ∧ E'.kv = E.kv := by
  obtain ⟨hgd, ⟨d, hd, hl⟩, hop⟩ := mkB_spec hk
  have hlt := hM.lt
  obtain ⟨v, vs, t, V, hV, hrun, hh, hput⟩ := hM
  unfold evG at h
  rw [hgd] at h
  dsimp only at h
  have fin : ∀ {E' : Env} {s1 : St} {a : AV}, κ true (s1.put o.dst a) = some r → Rep E' s1 act W → RepV E' s1 W a v → (∀ k, k ≠ g → E'.own k = E.own k) → (∃ l, E'.adr = E.adr ++ l) → E'.kv = E.kv → ∃ E' s', κ true s' = some r ∧ Rep E' s' act W ∧ (∀ k, k ≠ g → E'.own k = E.own k) ∧ (∃ l, E'.adr = E.adr ++ l) ∧ E'.kv = E.kv := fun {E' s1 a} h1 h2 h3 h4 h5 h6 => by
    have h7 := put_rep h2 (d := o.dst) h3
    rw [hput] at h7
    exact ⟨E', _, h1, h7, h4, h5, h6⟩
  unfold evOp at h
  rcases hop with ⟨ta, ho⟩ | ⟨ta, len, parts, ho⟩
  · rw [ho] at h
    dsimp only at h
    split at h
    case h_2 => cases h
    rename_i hts
    obtain ⟨i, d', z, hi⟩ := hT.get (look_size (Nat.blt_eq.mp hts) hT)
    have hr2 : (execOp act.eval o).run P V = .ok (.value (.pointer (some ⟨V.heap.size, 0, none⟩))) (V.alloc (.cells z.cells ta)) := by
      simp [execOp, ho, Instr.alloc, zeroValue, typeInfo, hi.info, hi.zero, newVar, newRow, newObj, Sem.run_bind, Sem.run_pure]
      rfl
    obtain ⟨rfl, rfl, rfl⟩ := made_eq (x := .ok ()) hrun hr2
    rw [hV] at *
    obtain ⟨h1, h2⟩ := box_show (t := t) hR hg hh (cs := C.zero t) (by rw [← Array.length_toList, hi.zeros, List.length_map]; rfl) (fun c a y ha hy => by
      have hy' : z.cells.toList[c]? = some y := by simpa using hy
      have ha' : (zeroOf C.D 16 t)[c]? = some a := ha
      rw [hi.zeros, List.getElem?_map, ha', Option.map_some] at hy'
      obtain rfl := Option.some.inj hy'
      rcases (zeros_form C.D 16).1 t a (List.mem_of_getElem? ha') with ⟨x, rfl⟩ | ⟨e, u, rfl⟩
      · exact rfl
      · exact R_nil _ _ _ _ _)
    exact fin h h1 h2 (fun k hk => if_neg hk) ⟨[g], rfl⟩ rfl
  · rw [ho] at h
    dsimp only at h
    unfold evLit at h
    split at h
    case h_2 => cases h
    rename_i e he
    split at h
    case h_2 => cases h
    rename_i ty hty
    split at h
    case h_2 => cases h
    rename_i rows hrows
    split at h
    case h_2 => cases h
    rename_i hh2
    simp only [Bool.and_eq_true] at hh2
    obtain ⟨hlen, hl1, hl2⟩ := hh2
    have hl1 := Nat.le_of_ble_eq_true hl1
    obtain ⟨vs2, hr2, hvs, hrl, hrn⟩ := lit_run (o := o) hT hR ho he hty hrows (Nat.eq_of_beq_eq_true hlen) hl1 (Nat.le_of_ble_eq_true hl2) V
    obtain ⟨rfl, rfl, rfl⟩ := made_eq (x := .ok ()) hrun hr2
    rw [hV] at *
    obtain ⟨z, hinfo, hz, hzl, hb0, hsz⟩ := info_of W hT hty
    split at h
    · rename_i hfl
      split at h
      case h_2 => cases h
      rename_i xs s2 hsol
      obtain ⟨hd1, hj, h2⟩ := fresh_some h
      obtain ⟨E1, _, _, k3, k4⟩ := solid_rep 0 false ty rows E s hR (Later.refl _) hvs hsol
      have k5 : Reps (ty.kd.M W 0 fun _ => False) ty.kd.sz xs vs.toList := by
        rw [kd_sz]
        rcases (Bool.or_eq_true _ _).mp hfl with hfl | hfl
        · exact k4.imp_ fun p c hp => flat_M ty hfl (ty.kd.K_of_M hp)
        · have hfl := Nat.eq_of_beq_eq_true hfl
          obtain rfl : xs = [] := List.eq_nil_of_length_eq_zero (by omega)
          exact ⟨k4.1, fun j p h => by simp at h⟩
      have h5 := lit_at (W := W) hh k5 (fun _ h => h) (by rw [k3, hrn]; omega)
      rw [k3, hrn] at h5
      obtain ⟨h6, h7⟩ := tok_show (a := .own t ty xs) (d := dstOf o) (v := .slice (some ⟨g, 0, none⟩) len len) hR hg hlt hj (by simp) (by
        show ty.kd.R t W 0 (fun k => (if k = g then Owner.tok (dstOf o) else E.own k) = .tok (dstOf o)) (if dstOf o = dstOf o then _ else _) xs
        rw [if_pos rfl]
        exact R_mono h5 fun k hk => if_pos hk)
      exact fin h2 h6 h7 (fun k hk => if_neg hk) ⟨[], by simp [Env.showTok]⟩ rfl
    · obtain ⟨hd1, hj, h2⟩ := fresh_some h
      have hm := showTok_move (W := W) (d := dstOf o) (v := .slice (some ⟨g, 0, none⟩) len len) hg
      have hlit : All2 (Rep1 (E.showTok g (dstOf o) (.slice (some ⟨g, 0, none⟩) len len)) { s with toks := tokSet s.toks (dstOf o) (.lit t ty rows) } W) rows.flatten vs.toList := by
        refine hvs.imp fun a y _ hy => hm.rep1 (by simp) (fun q _ => ⟨by cases q <;> simp [Root.owner], fun y hy => ?_⟩) hy
        cases q with
        | tok n =>
          have hn : n ≠ dstOf o := fun h => hy.2 (by rw [h]; exact hj)
          have e0 : (⟨s.tmps, tokSet s.toks (dstOf o) (.lit t ty rows), s.boxes⟩ : St).toks n = s.toks n := tokSet_ne _ _ hn
          refine ⟨⟨?_, by rw [e0]; exact hy.2⟩, fun _ _ _ h => e0.trans h⟩
          show _ = (if n = dstOf o then _ else E.rv n)
          rw [if_neg hn]
          exact hy.1
        | cell j c =>
          obtain ⟨b, ty', cl, h1, h2, h3, e1, t1, xs1, h4⟩ := hy
          exact ⟨⟨b, ty', cl, h1, h2, h3, e1, t1, xs1, h4⟩, fun _ _ _ h => h⟩
      obtain ⟨h6, h7⟩ := tok_show (a := .lit t ty rows) (d := dstOf o) (v := .slice (some ⟨g, 0, none⟩) len len) hR hg hlt hj (by simp)
        ⟨g, vs, by show (if dstOf o = dstOf o then _ else _) = _; rw [if_pos rfl, hrn], if_pos rfl, hh, hlit, fun row hrow => by rw [hrl row hrow, hsz], by omega⟩
      exact fin h2 h6 h7 (fun k hk => if_neg hk) ⟨[], by simp [Env.showTok]⟩ rfl
end
end Go.Proofs.YtbakkcdanoopgaaGreatDoor.Ev
set_option linter.unusedVariables false
set_option linter.unusedSimpArgs false
namespace Go.Proofs.YtbakkcdanoopgaaGreatDoor.Ev
open Go Go.RowKit Go.Proofs.YtbakkcdanoopgaaGreatDoorW.PrintWords Go.Proofs.YtbakkcdanoopgaaGreatDoorW.PrintMore Kd
section
variable {P : Program} {ops : Array Oper} {Q : Exit → Act → World → Prop}
theorem Ext.refl (W : World) : Ext W W := fun _ _ => rfl
theorem Ext.trans {W W1 W2 : World} (h : Ext W W1) (hs : W.heap.size ≤ W1.heap.size) (h' : Ext W1 W2) : Ext W W2 := fun k hk => (h' k (by omega)).trans (h k hk)
def YieldsW (P : Program) (ops : Array Oper) (D : World → World → Prop) (o : Oper) (v : Value) (w : World) (a : Act) : Prop :=
  (Region.wanted o (yielded ops a.tmps) = true ∧ ∀ w', D w w' → (execOp a.eval o).run P w' = .ok (.value v) w') ∨
  (Region.wanted o (yielded ops a.tmps) = false ∧ v = undef)
theorem YieldsW.of_same {D : World → World → Prop} {o : Oper} {v : Value} {a a' : Act} {w : World} (hy : YieldsW P ops D o v w a) (he : execOp a'.eval o = execOp a.eval o)
    (hw : Region.wanted o (yielded ops a'.tmps) = Region.wanted o (yielded ops a.tmps)) : YieldsW P ops D o v w a' := by
  unfold YieldsW at *
  rw [he, hw]
  exact hy
theorem YieldsW.on {D : World → World → Prop} (hD : ∀ w w1 w2, D w w1 → D w1 w2 → D w w2) {o : Oper} {v : Value} {a : Act} {w w' : World} (hy : YieldsW P ops D o v w a) (h : D w w') : YieldsW P ops D o v w' a := by
  rcases hy with ⟨h1, h2⟩ | hy
  · exact .inl ⟨h1, fun w2 h3 => h2 w2 (hD _ _ _ h h3)⟩
  · exact .inr hy
theorem wpOp_put' {D : World → World → Prop} {j : Nat} {oi oj : Oper} {v : Value} {w0 : World} (hj : ops[j]? = some oj) (hap : oi.apart ops oj = true)
    (hsi : ∀ cs b, oi.op ≠ .select cs b) (hsj : ∀ cs b, oj.op ≠ .select cs b)
    (hQ : ∀ c a w d v, Q (.panic c) (a.put d v) w → Q (.panic c) a w) {K : Act → World → Prop} {a : Act} {w : World}
    (hy : YieldsW P ops D oi v w0 a) (h : wpOp P ops Q j K (a.put oi.dst v) w) :
    wpOp P ops Q j (fun a' w' => YieldsW P ops D oi v w0 a' ∧ K (a'.put oi.dst v) w') a w := by
  obtain ⟨h1, h2, h3⟩ := Oper.apart_spec hap
  have keep : ∀ (a : Act), YieldsW P ops D oi v w0 a → ∀ u, YieldsW P ops D oi v w0 (a.put oj.dst u) := fun a hy u =>
    hy.of_same (execOp_put oi hsi a oj.dst u h3) (wanted_put oi a oj.dst u h3)
  have keepD : ∀ d, YieldsW P ops D oi v w0 { a with defers := d :: a.defers } := fun d => hy.of_same rfl rfl
  unfold wpOp at *
  simp only [hj] at *
  rw [wanted_put oj a oi.dst v h1] at h
  split
  · rename_i hw
    simp only [hw, if_true] at h
    rcases h with h | ⟨hasks, hlets⟩
    case inr => exact .inr ⟨by unfold Oper.asks at *; rw [execOp_put oj hsj a oi.dst v h1] at hasks; exact hasks, hlets⟩
    refine .inl ?_
    unfold Oper.wp at *
    rw [execOp_put oj hsj a oi.dst v h1] at h
    generalize (execOp a.eval oj).run P w = r at *
    cases r with
    | ok n w' =>
      cases n <;> simp only [Oper.upon] at h ⊢
      case value u => exact ⟨keep a hy u, by rw [← Act.put_comm a v u h2]; exact h⟩
      case skip => exact ⟨keep a hy _, by rw [← Act.put_comm a v undef h2]; exact h⟩
      case defer d =>
        refine ⟨keep _ (keepD d) _, ?_⟩
        rw [← Act.put_comm _ v undef h2, ← Act.put_defers]
        exact h
      case enter f args =>
        refine Calls.mono h fun e w'' he => ?_
        cases e with
        | returned u => exact ⟨keep a hy u, by rw [← Act.put_comm a v u h2]; exact he⟩
        | panicked c => exact hQ _ _ _ _ _ he
        | outgrown => exact he
      case row row args => exact Rows.mono h fun u w'' he => ⟨keep a hy u, by rw [← Act.put_comm a v u h2]; exact he⟩
    | halt x w' =>
      cases x <;> simp only [Oper.upon] at h ⊢
      case panic u => exact hQ _ _ _ _ _ h
  · rename_i hw
    simp only [hw] at h
    exact ⟨keep a hy _, by rw [← Act.put_comm a v undef h2]; exact h⟩
def wpAnyX (P : Program) (ops : Array Oper) (Q : Exit → Act → World → Prop) (Lk : Nat → World → World → Prop) : Nat → Array Bool → Act → World → Prop
  | 0, listed, a, w => Region.ready .any ops listed = [] ∧ Q .normal a w
  | fuel + 1, listed, a, w => (Region.ready .any ops listed = [] → Q .normal a w) ∧
    ∀ i ∈ Region.ready .any ops listed, wpOp P ops Q i (fun a' w' => Lk i w w' ∧ wpAnyX P ops Q Lk fuel (listed.setIfInBounds i true) a' w') a w
theorem wpAny_of_X {Lk : Nat → World → World → Prop} : ∀ (fuel : Nat) (listed : Array Bool) (a : Act) (w : World), wpAnyX P ops Q Lk fuel listed a w → wpAny P .any ops Q fuel listed a w
  | 0, _, _, _, h => h
  | fuel + 1, _, _, _, h => ⟨h.1, fun i hi => wpOp_mono (fun a' w' hh => wpAny_of_X fuel _ a' w' hh.2) (h.2 i hi)⟩
theorem wpAnyX_mono {Lk Lk' : Nat → World → World → Prop} (hL : ∀ i w w', Lk i w w' → Lk' i w w') : ∀ (fuel : Nat) (listed : Array Bool) (a : Act) (w : World), wpAnyX P ops Q Lk fuel listed a w → wpAnyX P ops Q Lk' fuel listed a w
  | 0, _, _, _, h => h
  | fuel + 1, _, _, _, h => ⟨h.1, fun i hi => wpOp_mono (fun a' w' hh => ⟨hL _ _ _ hh.1, wpAnyX_mono hL fuel _ a' w' hh.2⟩) (h.2 i hi)⟩
structure Waits (ops : Array Oper) (M : Nat → Nat) : Prop where
  wait : ∀ j o, ops[j]? = some o → ∀ k, (M j).testBit k = true ↔ ∃ e, e ∈ o.after ∧ Region.binds .any e = true ∧ (e.on = k ∨ (M e.on).testBit k = true)
def Down (M : Nat → Nat) (listed : Array Bool) : Prop := ∀ j, listed.getD j false = true → ∀ k, (M j).testBit k = true → listed.getD k false = true
theorem ready_waits {M : Nat → Nat} (hM : Waits ops M) {listed : Array Bool} (hd : Down M listed) {j : Nat} (hj : j ∈ Region.ready .any ops listed) : ∀ k, (M j).testBit k = true → listed.getD k false = true := fun k hk => by
  obtain ⟨-, o, ho, hall⟩ := mem_ready.1 hj
  obtain ⟨e, he, hb, h⟩ := (hM.wait j o ho k).mp hk
  have h1 := hall e he hb
  rcases h with rfl | h
  · exact h1
  · exact hd _ h1 k h
theorem Down.set {M : Nat → Nat} (hM : Waits ops M) {listed : Array Bool} (hd : Down M listed) {j : Nat} (hj : j ∈ Region.ready .any ops listed) : Down M (listed.setIfInBounds j true) := fun i hi k hk => by
  refine getD_set_true ?_
  by_cases hij : j = i
  · subst hij
    exact ready_waits hM hd hj k hk
  · rw [getD_set_ne false hij] at hi
    exact hd i hi k hk
theorem any_first {M : Nat → Nat} (hM : Waits ops M) {D : World → World → Prop} (hD0 : ∀ w, D w w) (hD : ∀ w w1 w2, D w w1 → D w1 w2 → D w w2) {Lk : Nat → World → World → Prop} {i : Nat} {oi : Oper} {v : Value} (hi : ops[i]? = some oi) (hLi : ∀ w, Lk i w w) (hsel : ∀ (j : Nat) (o : Oper) cs b, ops[j]? = some o → o.op ≠ .select cs b)
    (hQ : ∀ c a w d v, Q (.panic c) (a.put d v) w → Q (.panic c) a w) :
    ∀ (fuel : Nat) (listed : Array Bool) (a : Act) (w : World), Down M listed →
      (∀ j oj, ops[j]? = some oj → j ≠ i → listed.getD j true = false → (M j).testBit i = false → oi.apart ops oj = true ∧ ∀ w w', Lk j w w' → D w w') →
      i ∈ Region.ready .any ops listed → YieldsW P ops D oi v w a →
      wpAnyX P ops Q Lk fuel (listed.setIfInBounds i true) (a.put oi.dst v) w → wpAnyX P ops Q Lk (fuel + 1) listed a w := by
  have self : ∀ (a : Act) (w : World) {K : Act → World → Prop}, YieldsW P ops D oi v w a → K (a.put oi.dst v) w → wpOp P ops Q i K a w := by
    intro a w K hy h
    unfold wpOp
    simp only [hi]
    rcases hy with ⟨hw, hv⟩ | ⟨hw, rfl⟩
    · simp only [hw, if_true, Oper.wp, hv w (hD0 w), Oper.upon]; exact .inl h
    · simp only [hw, Bool.false_eq_true, if_false]; exact h
  intro fuel
  induction fuel with
  | zero =>
    intro listed a w _ _ hr hy H
    refine ⟨fun h => (by rw [h] at hr; cases hr), fun j hj => ?_⟩
    by_cases hji : j = i
    · subst hji; exact self a w hy ⟨hLi w, H⟩
    · have := ready_mono hj hji
      rw [H.1] at this
      cases this
  | succ fuel ih =>
    intro listed a w hd hfree hr hy H
    refine ⟨fun h => (by rw [h] at hr; cases hr), fun j hj => ?_⟩
    by_cases hji : j = i
    · subst hji; exact self a w hy ⟨hLi w, H⟩
    · have h1 := H.2 j (ready_mono hj hji)
      obtain ⟨hjun, oj, hoj, hall⟩ := mem_ready.1 hj
      have hun := (mem_ready.1 hr).1
      have hnot : (M j).testBit i = false := by
        cases hb : (M j).testBit i with
        | false => rfl
        | true =>
          have h3 := ready_waits hM hd hj i hb
          rcases Nat.lt_or_ge i listed.size with h' | h'
          · simp [h'] at hun h3; rw [hun] at h3; cases h3
          · simp [Array.getElem?_eq_none h'] at h3
      have hfj := hfree j oj hoj hji hjun hnot
      have h2 := wpOp_put' hoj hfj.1 (fun cs b => hsel i oi cs b hi) (fun cs b => hsel j oj cs b hoj) hQ hy h1
      have hfree' : ∀ k ok, ops[k]? = some ok → k ≠ i → (listed.setIfInBounds j true).getD k true = false → (M k).testBit i = false → oi.apart ops ok = true ∧ ∀ w w', Lk k w w' → D w w' := fun k ok hk hki hun hno => by
        refine hfree k ok hk hki ?_ hno
        by_cases hjk : j = k
        · subst hjk; exact hjun
        · rw [getD_set_ne true hjk] at hun; exact hun
      refine wpOp_mono (fun a' w' h3 => ⟨h3.2.1, ?_⟩) h2
      refine ih (listed.setIfInBounds j true) a' w' (hd.set hM hj) hfree' (ready_mono hr (Ne.symm hji)) (h3.1.on hD (hfj.2 _ _ h3.2.1)) ?_
      rw [Array.setIfInBounds_comm _ _ hji]
      exact h3.2.2
end
end Go.Proofs.YtbakkcdanoopgaaGreatDoor.Ev
set_option linter.unusedVariables false
set_option linter.unusedSimpArgs false
namespace Go.Proofs.YtbakkcdanoopgaaGreatDoor.Ev
open Go Go.RowKit Go.Proofs.YtbakkcdanoopgaaGreatDoorW.PrintWords Go.Proofs.YtbakkcdanoopgaaGreatDoorW.PrintMore Kd
theorem maskOf_bit (ms : List Nat) (k : Nat) : ∀ l : List Edge, (maskOf ms l).testBit k = true ↔ ∃ e, e ∈ l ∧ Region.binds .any e = true ∧ (e.on = k ∨ (nthN ms e.on).testBit k = true)
  | [] => by simp [maskOf]
  | e :: l => by
    have ih := maskOf_bit ms k l
    unfold maskOf
    split
    · rename_i hb
      show ((2 ^ e.on ||| nthN ms e.on) ||| maskOf ms l).testBit k = true ↔ _
      rw [Nat.testBit_or, Nat.testBit_or, Bool.or_eq_true, Bool.or_eq_true, ih, Nat.testBit_two_pow]
      constructor
      · rintro ((h | h) | ⟨e', h1, h2⟩)
        · exact ⟨e, List.mem_cons_self, hb, .inl (by simpa using h)⟩
        · exact ⟨e, List.mem_cons_self, hb, .inr h⟩
        · exact ⟨e', List.mem_cons_of_mem _ h1, h2⟩
      · rintro ⟨e', h1, h2, h3⟩
        rcases List.mem_cons.mp h1 with rfl | h1
        · rcases h3 with h3 | h3
          · exact .inl (.inl (by simpa using h3))
          · exact .inl (.inr h3)
        · exact .inr ⟨e', h1, h2, h3⟩
    · rename_i hb
      rw [ih]
      constructor
      · rintro ⟨e', h1, h2⟩; exact ⟨e', List.mem_cons_of_mem _ h1, h2⟩
      · rintro ⟨e', h1, h2, h3⟩
        rcases List.mem_cons.mp h1 with rfl | h1
        · rw [hb] at h2; cases h2
        · exact ⟨e', h1, h2, h3⟩
theorem land_sub (m d : Nat) : Nat.beq (Nat.land m d) m = true ↔ ∀ k, m.testBit k = true → d.testBit k = true := by
  constructor
  · intro h k hk
    have h1 : m &&& d = m := Nat.eq_of_beq_eq_true h
    have h2 : (m &&& d).testBit k = m.testBit k := by rw [h1]
    rw [Nat.testBit_and, hk] at h2
    simpa using h2
  · intro h
    have h1 : m &&& d = m := by
      apply Nat.eq_of_testBit_eq
      intro k
      rw [Nat.testBit_and]
      cases hk : m.testBit k with
      | false => rfl
      | true => rw [h k hk]; rfl
    exact (congrArg (Nat.beq · m) h1).trans (Nat.beq_refl m)
theorem usesOf_eq (ops : Array Oper) (o : Oper) : usesOf ops.toList o = o.looksAt ops := by
  unfold usesOf Oper.looksAt
  rw [tmpsOf_eq]
  congr 1
  cases hg : o.guard with
  | none => rfl
  | some g =>
    dsimp only
    unfold guardT
    rw [Array.getElem?_toList]
    cases ops[g.1]? with
    | none => rfl
    | some x => cases hd : x.dst <;> simp [hd]
theorem apartB_spec {ops : Array Oper} {a b : Oper} (h : apartB ops.toList a b = true) : a.apart ops b = true := by
  unfold apartB at h
  simp only [Bool.and_eq_true, Bool.not_eq_true', usesOf_eq] at h
  obtain ⟨h1, h2, h3⟩ := h
  unfold Oper.apart
  cases ha : a.dst <;> cases hb : b.dst <;> simp [ha, hb, touches] at h1 h2 h3 ⊢
  · exact h2
  · exact h1
  · exact ⟨⟨h1, fun h => h3 h.symm⟩, h2⟩
structure Left_ (ops : Array Oper) (M : Nat → Nat) (listed : Array Bool) (done : Nat) (l : List PI) : Prop where
  size : listed.size = ops.size
  bits : ∀ j, listed.getD j false = done.testBit j
  left : ∀ j o, ops[j]? = some o → listed.getD j true = false → ∃ x, x ∈ l ∧ x.i = j
  mem : ∀ x, x ∈ l → ops[x.i]? = some x.o ∧ x.m = M x.i ∧ listed.getD x.i true = false
  nodup : (l.map (·.i)).Nodup
  down : Down M listed
theorem Left_.ready {ops : Array Oper} {M : Nat → Nat} (hM : Waits ops M) {listed : Array Bool} {done : Nat} {l : List PI} (h : Left_ ops M listed done l) {x : PI} (hx : x ∈ l) : readyM done x = true ↔ x.i ∈ Region.ready .any ops listed := by
  obtain ⟨h1, h2, h3⟩ := h.mem x hx
  unfold readyM
  rw [land_sub, h2]
  constructor
  · intro h4
    rw [mem_ready]
    refine ⟨h3, x.o, h1, fun e he hb => ?_⟩
    rw [h.bits]
    exact h4 _ ((hM.wait _ _ h1 _).mpr ⟨e, he, hb, .inl rfl⟩)
  · intro hr k hk
    rw [← h.bits]
    exact ready_waits hM h.down hr k hk
theorem takeQ_spec {done : Nat} : ∀ {l : List PI} {x : PI} {r : List PI}, takeQ done l = some (x, r) → readyM done x = true ∧ qB x.o = true ∧ l.Perm (x :: r)
  | [], x, r, h => by cases h
  | y :: l, x, r, h => by
    unfold takeQ at h
    split at h
    · rename_i hc
      simp only [Bool.and_eq_true] at hc
      simp only [Option.some.injEq, Prod.mk.injEq] at h
      obtain ⟨rfl, rfl⟩ := h
      exact ⟨hc.1, hc.2, List.Perm.refl _⟩
    · split at h
      · rename_i z r' hz
        simp only [Option.some.injEq, Prod.mk.injEq] at h
        obtain ⟨rfl, rfl⟩ := h
        obtain ⟨h1, h2, h3⟩ := takeQ_spec hz
        exact ⟨h1, h2, (h3.cons y).trans (List.Perm.swap _ _ _)⟩
      · cases h
theorem takeF_spec {done : Nat} : ∀ {l : List PI} {x : PI} {r : List PI}, takeF done l = some (x, r) → readyM done x = true ∧ l.Perm (x :: r)
  | [], x, r, h => by cases h
  | y :: l, x, r, h => by
    unfold takeF at h
    split at h
    · rename_i hc
      simp only [Option.some.injEq, Prod.mk.injEq] at h
      obtain ⟨rfl, rfl⟩ := h
      exact ⟨hc, List.Perm.refl _⟩
    · split at h
      · rename_i z r' hz
        simp only [Option.some.injEq, Prod.mk.injEq] at h
        obtain ⟨rfl, rfl⟩ := h
        obtain ⟨h1, h3⟩ := takeF_spec hz
        exact ⟨h1, (h3.cons y).trans (List.Perm.swap _ _ _)⟩
      · cases h
theorem takeN_spec {done : Nat} : ∀ {l : List PI} {x : PI} {r : List PI}, takeN done l = some (x, r) → readyM done x = true ∧ l.Perm (x :: r)
  | [], x, r, h => by cases h
  | y :: l, x, r, h => by
    unfold takeN at h
    split at h
    · rename_i hc
      simp only [Bool.and_eq_true] at hc
      simp only [Option.some.injEq, Prod.mk.injEq] at h
      obtain ⟨rfl, rfl⟩ := h
      exact ⟨hc.1, List.Perm.refl _⟩
    · split at h
      · rename_i z r' hz
        simp only [Option.some.injEq, Prod.mk.injEq] at h
        obtain ⟨rfl, rfl⟩ := h
        obtain ⟨h1, h3⟩ := takeN_spec hz
        exact ⟨h1, (h3.cons y).trans (List.Perm.swap _ _ _)⟩
      · cases h
theorem takeR_spec {done : Nat} {l : List PI} {x : PI} {r : List PI} (h : takeR done l = some (x, r)) : readyM done x = true ∧ l.Perm (x :: r) := by
  unfold takeR at h
  split at h
  · rename_i v hv
    obtain rfl := Option.some.inj h
    exact takeN_spec hv
  · exact takeF_spec h
theorem takeQ_none {done : Nat} : ∀ {l : List PI}, takeQ done l = none → ∀ x, x ∈ l → readyM done x = true → qB x.o = false
  | [], h, x, hx, hr => by cases hx
  | y :: l, h, x, hx, hr => by
    unfold takeQ at h
    split at h
    · cases h
    · rename_i hc
      split at h
      · cases h
      · rename_i hz
        rcases List.mem_cons.mp hx with rfl | hx
        · rw [hr] at hc; simpa using hc
        · exact takeQ_none hz x hx hr
theorem Left_.take {ops : Array Oper} {M : Nat → Nat} (hM : Waits ops M) {listed : Array Bool} {done : Nat} {l : List PI} (h : Left_ ops M listed done l) {x : PI} {r : List PI} (hp : l.Perm (x :: r)) (hr : x.i ∈ Region.ready .any ops listed) : Left_ ops M (listed.setIfInBounds x.i true) (Nat.lor done (Nat.pow 2 x.i)) r := by
  have hn : ((x :: r).map (·.i)).Nodup := (hp.map (·.i)).nodup_iff.mp h.nodup
  obtain ⟨hn1, hn2⟩ := List.nodup_cons.mp hn
  have hx : x ∈ l := hp.mem_iff.mpr List.mem_cons_self
  have hlt : x.i < listed.size := by
    rw [h.size]
    exact (Array.getElem?_eq_some_iff.1 (h.mem x hx).1).1
  refine ⟨by simp [h.size], fun j => ?_, fun j o ho hj => ?_, fun y hy => ?_, hn2, h.down.set hM hr⟩
  · show _ = (done ||| 2 ^ x.i).testBit j
    rw [Nat.testBit_or, Nat.testBit_two_pow]
    by_cases hij : x.i = j
    · subst hij
      simp [hlt]
    · rw [getD_set_ne false hij, h.bits]
      simp [hij]
  · by_cases hij : x.i = j
    · subst hij
      simp [hlt] at hj
    · rw [getD_set_ne true hij] at hj
      obtain ⟨y, hy, rfl⟩ := h.left j o ho hj
      rcases List.mem_cons.mp (hp.mem_iff.mp hy) with rfl | hy
      · exact absurd rfl hij
      · exact ⟨y, hy, rfl⟩
  · obtain ⟨h1, h2, h3⟩ := h.mem y (hp.mem_iff.mpr (List.mem_cons_of_mem _ hy))
    refine ⟨h1, h2, ?_⟩
    have hne : x.i ≠ y.i := fun he => hn1 (by show x.i ∈ _; rw [he]; exact List.mem_map_of_mem (f := fun x : PI => x.i) hy)
    rw [getD_set_ne true hne]
    exact h3
theorem nthN_eq : ∀ (l : List Nat) (n : Nat), nthN l n = l.getD n 0
  | [], n => by simp [nthN]
  | _ :: _, 0 => rfl
  | _ :: r, n + 1 => by simpa [nthN] using nthN_eq r n
def masks : List Oper → List Nat → List Nat
  | [], ms => ms
  | o :: r, ms => masks r (ms ++ [maskOf ms o.after.toList])
theorem masks_pre : ∀ (l : List Oper) (ms : List Nat), ∃ t, masks l ms = ms ++ t ∧ t.length = l.length
  | [], ms => ⟨[], by simp [masks]⟩
  | o :: l, ms => by
    obtain ⟨t, h1, h2⟩ := masks_pre l (ms ++ [maskOf ms o.after.toList])
    exact ⟨maskOf ms o.after.toList :: t, by rw [masks, h1]; simp, by simp [h2]⟩
theorem itemsOf_spec : ∀ (l : List Oper) (k : Nat) (ms : List Nat), ms.length = k → (∀ x, x ∈ itemsOf l k ms → k ≤ x.i ∧ l[x.i - k]? = some x.o ∧ x.m = nthN (masks l ms) x.i) ∧ (∀ j o, l[j]? = some o → ∃ x, x ∈ itemsOf l k ms ∧ x.i = k + j) ∧ ((itemsOf l k ms).map (·.i)).Nodup ∧ (itemsOf l k ms).length = l.length ∧
    ∀ j o, l[j]? = some o → ∃ ms', ms'.length = k + j ∧ (∃ t, masks l ms = ms' ++ t) ∧ nthN (masks l ms) (k + j) = maskOf ms' o.after.toList
  | [], k, ms, _ => by simp [itemsOf]
  | o :: l, k, ms, hk => by
    obtain ⟨h1, h2, h3, h4, h5⟩ := itemsOf_spec l (k + 1) (ms ++ [maskOf ms o.after.toList]) (by simp [hk])
    have hnth : nthN (masks (o :: l) ms) k = maskOf ms o.after.toList := by
      obtain ⟨t, g1, -⟩ := masks_pre l (ms ++ [maskOf ms o.after.toList])
      rw [nthN_eq, masks, g1, List.append_assoc, List.getD_eq_getElem?_getD, List.getElem?_append_right (by omega), hk]
      simp
    refine ⟨fun x hx => ?_, fun j o' hj => ?_, ?_, by simp [itemsOf, h4], fun j o' hj => ?_⟩
    · unfold itemsOf at hx
      rcases List.mem_cons.mp hx with rfl | hx
      · refine ⟨Nat.le_refl _, by simp, hnth.symm⟩
      · obtain ⟨g1, g2, g3⟩ := h1 x hx
        refine ⟨by omega, ?_, g3⟩
        rw [show x.i - k = (x.i - (k + 1)) + 1 by omega]
        simpa using g2
    · unfold itemsOf
      cases j with
      | zero =>
        obtain rfl : o = o' := by simpa using hj
        exact ⟨_, List.mem_cons_self, rfl⟩
      | succ j =>
        obtain ⟨x, hx, hxi⟩ := h2 j o' (by simpa using hj)
        exact ⟨x, List.mem_cons_of_mem _ hx, by omega⟩
    · unfold itemsOf
      dsimp only
      rw [List.map_cons, List.nodup_cons]
      refine ⟨fun hm => ?_, h3⟩
      obtain ⟨x, hx, hxi⟩ := List.mem_map.mp hm
      have := (h1 x hx).1
      dsimp only at hxi
      omega
    · cases j with
      | zero =>
        obtain rfl : o = o' := by simpa using hj
        obtain ⟨t, g1, -⟩ := masks_pre (o :: l) ms
        exact ⟨ms, by omega, ⟨t, g1⟩, hnth⟩
      | succ j =>
        obtain ⟨ms', g1, g2, g3⟩ := h5 j o' (by simpa using hj)
        refine ⟨ms', by omega, g2, ?_⟩
        rw [show k + (j + 1) = k + 1 + j by omega]
        exact g3
end Go.Proofs.YtbakkcdanoopgaaGreatDoor.Ev
set_option linter.unusedVariables false
set_option linter.unusedSimpArgs false
namespace Go.Proofs.YtbakkcdanoopgaaGreatDoor.Ev
open Go Go.RowKit Go.Proofs.YtbakkcdanoopgaaGreatDoorW.PrintWords Go.Proofs.YtbakkcdanoopgaaGreatDoorW.PrintMore Kd
section
variable {P : Program} {E E' : Env} {s s' : St} {act : Act} {W W' : World} {ρ : Type} {C : Ctx} {r : ρ}
def SameL (Ex : Env) (Wx : World) : Rd → World → World → Prop
  | .free, w, w' => ∀ k, k < Wx.heap.size → Ex.own k = .free → w'.heap[k]? = w.heap[k]?
  | .box j off n, w, w' => ∀ g, Ex.adr[j]? = some g → ∀ i, i < n → ∀ v, w.cell? ⟨g, off + i, none⟩ = some v → w'.cell? ⟨g, off + i, none⟩ = some v
  | .any, w, w' => ∀ k, k < Wx.heap.size → w'.heap[k]? = w.heap[k]?
theorem SameL.refl (Ex : Env) (Wx : World) (d : Rd) (w : World) : SameL Ex Wx d w w := by
  cases d with
  | free => exact fun _ _ _ => rfl
  | box j off n => exact fun _ _ _ _ _ h => h
  | any => exact fun _ _ => rfl
theorem SameL.trans {Ex : Env} {Wx : World} {d : Rd} {w w1 w2 : World} (h : SameL Ex Wx d w w1) (h' : SameL Ex Wx d w1 w2) : SameL Ex Wx d w w2 := by
  cases d with
  | free => exact fun k hk hf => (h' k hk hf).trans (h k hk hf)
  | box j off n => exact fun g hg i hi v hv => h' g hg i hi v (h g hg i hi v hv)
  | any => exact fun k hk => (h' k hk).trans (h k hk)
theorem SameL.toR {d : Rd} (h : SameL E W d W W') : SameR E W W' d := by cases d <;> exact h
structure Gh where
  i : Nat
  d : Rd
  E : Env
  W : World
def Lk (M : Nat → Nat) (G : List Gh) (j : Nat) (w w' : World) : Prop := ∀ e, e ∈ G → (M j).testBit e.i = false → SameL e.E e.W e.d w w'
theorem setT_same : ∀ (l : List AV) (g : Nat), setT l g (getT l g) = l
  | [], _ => rfl
  | _ :: _, 0 => rfl
  | x :: r, g + 1 => by simp only [getT, setT, setT_same r g]
theorem tmps_same {g : Nat} {a : AV} (h : getT s.tmps g = a) : ({ s with tmps := setT s.tmps g a } : St) = s := by
  rw [← h, setT_same]
theorem protOf_spec {x : PI} : ∀ {rds : List (Nat × Rd)} {pr : List Cl}, protOf C x rds = some pr → ∀ e, e ∈ rds → x.m.testBit e.1 = false → (match e.2 with | .free => True | .box j off n => spB C x.o = true ∧ (⟨j, off, n⟩ : Cl) ∈ pr | .any => keepB C x.o = true)
  | y :: rds, pr, h, e, he, hb => by
    unfold protOf at h
    split at h
    · rename_i hy
      rcases List.mem_cons.mp he with rfl | he
      · rw [hb] at hy; cases hy
      · exact protOf_spec h e he hb
    · split at h
      · rename_i hd
        rcases List.mem_cons.mp he with rfl | he
        · rw [hd]; trivial
        · exact protOf_spec h e he hb
      · rename_i j off n hd
        split at h
        · rename_i hs
          split at h
          · rename_i l hl
            obtain rfl := Option.some.inj h
            rcases List.mem_cons.mp he with rfl | he
            · rw [hd]; exact ⟨hs, List.mem_cons_self⟩
            · have := protOf_spec hl e he hb
              revert this
              cases e.2 with
              | box j' off' n' => exact fun ⟨h1, h2⟩ => ⟨h1, List.mem_cons_of_mem _ h2⟩
              | _ => exact id
          · cases h
        · cases h
      · rename_i hd
        split at h
        · rename_i hk
          rcases List.mem_cons.mp he with rfl | he
          · rw [hd]; exact hk
          · exact protOf_spec h e he hb
        · cases h
theorem evG_q (hT : TabOK P C.D) {insts : Nat → List Inst} {sem : Sem ρ} {pr : List Cl} {ops : Array Oper} {o : Oper} {κ : Bool → St → Option ρ} {π : AV → St → Option ρ} (hR : Rep E s act W) (hq : qB o = true) (h : evG C insts sem pr ops.toList o s κ π = some r) :
    ∃ v s' ran, κ ran s' = some r ∧ Rep E s' (act.put o.dst v) W ∧ ((ran = true ∧ YieldsW P ops (SameL E W (rdOf C s o)) o v W act) ∨ (ran = false ∧ YieldsW P ops (fun _ _ => True) o v W act)) := by
  unfold evG at h
  have run : Region.wanted o (yielded ops act.tmps) = true → evOp C insts sem pr s o (fun a s1 => κ true (s1.put o.dst a)) π = some r → ∃ v s' ran, κ ran s' = some r ∧ Rep E s' (act.put o.dst v) W ∧ ((ran = true ∧ YieldsW P ops (SameL E W (rdOf C s o)) o v W act) ∨ (ran = false ∧ YieldsW P ops (fun _ _ => True) o v W act)) := fun hw h0 => by
    obtain ⟨a', h1, y, hy, hrun⟩ := sim_q (P := P) hT hR hq h0
    exact ⟨y, _, true, h1, put_rep hR hy, .inl ⟨rfl, .inl ⟨hw, fun w' hw' => hrun w' hw'.toR⟩⟩⟩
  have skip : Region.wanted o (yielded ops act.tmps) = false → κ false (s.put o.dst (.v undef)) = some r → ∃ v s' ran, κ ran s' = some r ∧ Rep E s' (act.put o.dst v) W ∧ ((ran = true ∧ YieldsW P ops (SameL E W (rdOf C s o)) o v W act) ∨ (ran = false ∧ YieldsW P ops (fun _ _ => True) o v W act)) := fun hw h0 =>
    ⟨undef, _, false, h0, put_rep hR rfl, .inr ⟨rfl, .inr ⟨hw, rfl⟩⟩⟩
  split at h
  · rename_i hg
    exact run (by unfold Region.wanted; rw [hg]) h
  · rename_i j want hg
    split at h
    · rename_i g hj
      split at h
      · rename_i b hb
        have hw := guard_wanted hR hg hj hb
        cases want with
        | true =>
          cases b with
          | true => rw [tmps_same hb] at h; exact run hw h
          | false => rw [tmps_same hb] at h; exact skip hw h
        | false =>
          cases b with
          | true => rw [tmps_same hb] at h; exact skip hw h
          | false => rw [tmps_same hb] at h; exact run hw h
      · rename_i l hb
        exact skip (guard_none hR hg hj hb) h
      · cases h
    · cases h
theorem planGo_nil {ops : List Oper} {n done : Nat} : planGo ops n done [] = some [] := by cases n <;> rfl
theorem planGo_some {ops : List Oper} {n done : Nat} {z : PI} {l p : List PI} (h : planGo ops (n + 1) done (z :: l) = some p) :
    (∃ x r p', takeQ done (z :: l) = some (x, r) ∧ r.all (freeB ops x) = true ∧ planGo ops n (Nat.lor done (Nat.pow 2 x.i)) r = some p' ∧ p = x :: p') ∨
    (∃ x r p', takeQ done (z :: l) = none ∧ takeR done (z :: l) = some (x, r) ∧ r.all (fun y => !readyM done y || earlyB ops x r y) = true ∧ planGo ops n (Nat.lor done (Nat.pow 2 x.i)) r = some p' ∧ p = x :: p') := by
  unfold planGo at h
  split at h
  · rename_i x r hx
    split at h
    · rename_i hf
      split at h
      · rename_i p' hp
        exact .inl ⟨x, r, p', hx, hf, hp, (Option.some.inj h).symm⟩
      · cases h
    · cases h
  · rename_i hq
    split at h
    · rename_i x r hx
      split at h
      · rename_i hf
        split at h
        · rename_i p' hp
          exact .inr ⟨x, r, p', hq, hx, hf, hp, (Option.some.inj h).symm⟩
        · cases h
      · cases h
    · cases h
def rdsOf (G : List Gh) : List (Nat × Rd) := G.map fun e => (e.i, e.d)
structure Lat (E : Env) (W : World) (E' : Env) (W' : World) : Prop where
  size : W.heap.size ≤ W'.heap.size
  adr : ∃ l, E'.adr = E.adr ++ l
  free : ∀ k, k < W.heap.size → E.own k = .free → E'.own k = .free
theorem Lat.refl (E : Env) (W : World) : Lat E W E W := ⟨Nat.le_refl _, ⟨[], by simp⟩, fun _ _ h => h⟩
theorem Lat.trans {E E1 E2 : Env} {W W1 W2 : World} (h : Lat E W E1 W1) (h' : Lat E1 W1 E2 W2) : Lat E W E2 W2 := ⟨Nat.le_trans h.size h'.size, by
    obtain ⟨l, hl⟩ := h.adr
    obtain ⟨l', hl'⟩ := h'.adr
    exact ⟨l ++ l', by rw [hl', hl, List.append_assoc]⟩, fun k hk hf => h'.free k (Nat.lt_of_lt_of_le hk h.size) (h.free k hk hf)⟩
theorem Aft.lat {E E' : Env} {W W' : World} (h : Aft E W E' W') : Lat E W E' W' := ⟨h.size, h.adr, fun k hk hf => ((h.free k hk (.inl hf)).1).trans hf⟩
theorem lk_of {M : Nat → Nat} {G : List Gh} {x : PI} {pr : List Cl} (hm : x.m = M x.i) (hG : ∀ e, e ∈ G → Lat e.E e.W E W) (hp : protOf C x (rdsOf G) = some pr) (hA : Aft E W E' W') (hK : KeepsP C pr x.o E W W') : Lk M G x.i W W' := fun e he hb => by
  have h1 := protOf_spec hp (e.i, e.d) (List.mem_map_of_mem he) (by rw [hm]; exact hb)
  have h2 := hG e he
  cases hd : e.d with
  | free =>
    intro k hk hf
    have h3 := h2.free k hk hf
    exact (hA.free k (Nat.lt_of_lt_of_le hk h2.size) (.inl h3)).2
  | box j off n =>
    rw [hd] at h1
    obtain ⟨h3, h4⟩ := h1
    intro g hg i hi v hv
    obtain ⟨l, hl⟩ := h2.adr
    exact hK.2 h3 _ h4 g (by show E.adr[j]? = some g; rw [hl, List.getElem?_append_left (List.getElem?_eq_some_iff.mp hg).1]; exact hg) i hi v hv
  | any =>
    rw [hd] at h1
    exact fun k hk => hK.1 h1 k (Nat.lt_of_lt_of_le hk h2.size)
theorem lk_alloc {M : Nat → Nat} {G : List Gh} {j : Nat} {ob : Obj} (hG : ∀ e, e ∈ G → Lat e.E e.W E W) : Lk M G j W (W.alloc ob) := fun e he hb => by
  have h2 := hG e he
  have hB : Below W.heap.size W (W.alloc ob) := below_alloc (Below.refl _ _) _
  cases hd : e.d with
  | free => exact fun k hk hf => hB.block k (Nat.lt_of_lt_of_le hk h2.size)
  | box j off n =>
    intro g hg i hi v hv
    have hlt := cell_lt hv
    rw [← hv]
    simp only [World.cell?, hB.block g hlt]
  | any => exact fun k hk => hB.block k (Nat.lt_of_lt_of_le hk h2.size)
theorem junk_rep : ∀ (l : List PI) {s : St}, Rep E s act W → Rep E (s.junkMk l) act W
  | [], s, h => h
  | x :: l, s, h => by
    unfold St.junkMk
    split
    · refine junk_rep l ?_
      cases x.o.dst with
      | none => exact h
      | some d =>
        have h1 := set_tmp h (g := d) (a := .junk) (y := (act.tmps[d]?).getD undef) trivial
        have e : act.tmps.setIfInBounds d ((act.tmps[d]?).getD undef) = act.tmps := by
          apply Array.ext
          · simp
          · intro i h1 h2
            rw [Array.getElem_setIfInBounds]
            split
            · rename_i hid
              subst hid
              simp [h2]
            · rfl
        rw [e] at h1
        exact h1
    · exact junk_rep l h
theorem setT_get {l : List AV} {g : Nat} {a : AV} (k : Nat) : getT (setT l g a) k = if k = g then (if k < l.length then a else getT l k) else getT l k := by
  induction l generalizing g k with
  | nil => simp [setT]
  | cons x r ih =>
    cases g with
    | zero => cases k <;> simp [setT, getT]
    | succ g => cases k with
      | zero => simp [setT, getT]
      | succ k =>
        simp only [setT, getT, ih]
        by_cases h : k = g <;> simp [h]
theorem getT_out : ∀ {l : List AV} {k : Nat}, l.length ≤ k → getT l k = .junk
  | [], _, _ => rfl
  | x :: l, 0, h => by simp at h
  | x :: l, k + 1, h => getT_out (l := l) (by simpa using h)
theorem put_junk_get {d : Option Nat} {k : Nat} (h : getT s.tmps k = .junk ∨ d = some k) : getT (s.put d .junk).tmps k = .junk := by
  cases d with
  | none => exact h.resolve_right (by simp)
  | some d =>
    show getT (setT s.tmps d .junk) k = _
    rw [setT_get]
    split
    · split
      · rfl
      · rename_i h2
        exact getT_out (by omega)
    · rename_i hk
      exact h.resolve_right fun h => hk (Option.some.inj h).symm
theorem junk_keep : ∀ (l : List PI) {s : St} {k : Nat}, getT s.tmps k = .junk → getT (s.junkMk l).tmps k = .junk
  | [], s, k, h => h
  | x :: l, s, k, h => by
    unfold St.junkMk
    split
    · exact junk_keep l (put_junk_get (.inl h))
    · exact junk_keep l h
theorem junk_get (l : List PI) {x : PI} (hm : mkB x.o = true) {d : Nat} (hd : x.o.dst = some d) : ∀ {s : St}, x ∈ l → getT (s.junkMk l).tmps d = .junk := by
  induction l with
  | nil => intro s hx; cases hx
  | cons z l ih =>
    intro s hx
    unfold St.junkMk
    by_cases hxz : x = z
    · subst hxz
      rw [hm]
      exact junk_keep l (put_junk_get (.inr hd))
    · have hx' : x ∈ l := (List.mem_cons.mp hx).resolve_left hxz
      split
      · exact ih hx'
      · exact ih hx'
theorem junk_id : ∀ (l : List PI) {s : St}, (∀ x, x ∈ l → mkB x.o = true → ∀ d, x.o.dst = some d → getT s.tmps d = .junk) → s.junkMk l = s
  | [], s, h => rfl
  | z :: l, s, h => by
    unfold St.junkMk
    split
    · rename_i hm
      have e : s.put z.o.dst .junk = s := by
        cases hd : z.o.dst with
        | none => rfl
        | some d =>
          show ({ s with tmps := setT s.tmps d .junk } : St) = s
          have := h z List.mem_cons_self hm d hd
          rw [← this, setT_self]
      rw [e]
      exact junk_id l fun x hx => h x (List.mem_cons_of_mem _ hx)
    · exact junk_id l fun x hx => h x (List.mem_cons_of_mem _ hx)
theorem junk_twice (l : List PI) (s : St) : (s.junkMk l).junkMk l = s.junkMk l := junk_id l fun x hx hm d hd => junk_get l hm hd hx
theorem evD_junk {insts : Nat → List Inst} {sem : Sem ρ} {ops : List Oper} {x : PI} {l : List PI} {rds : List (Nat × Rd)} {κ : St → Option ρ} {π : AV → St → Option ρ} : evD C insts sem ops (x :: l) rds (s.junkMk (x :: l)) κ π = evD C insts sem ops (x :: l) rds s κ π := by
  unfold evD
  rw [junk_twice]
theorem plan_perm {ops : List Oper} : ∀ (n done : Nat) (l p : List PI), planGo ops n done l = some p → l.Perm p
  | n, done, [], p, h => by
    rw [planGo_nil] at h
    obtain rfl := Option.some.inj h
    exact .refl _
  | 0, done, z :: l, p, h => by cases h
  | n + 1, done, z :: l, p, h => by
    rcases planGo_some h with ⟨x, r', p', hx, -, hp2, rfl⟩ | ⟨x, r', p', -, hx, -, hp2, rfl⟩
    · exact (takeQ_spec hx).2.2.trans ((plan_perm n _ _ _ hp2).cons x)
    · exact (takeR_spec hx).2.trans ((plan_perm n _ _ _ hp2).cons x)
theorem apart_symm {ops : Array Oper} {a b : Oper} (h : a.apart ops b = true) : b.apart ops a = true := by
  unfold Oper.apart at *
  cases ha : a.dst <;> cases hb : b.dst <;> simp [ha, hb] at h ⊢
  · exact h
  · exact h
  · exact ⟨⟨h.2, fun e => h.1.2 e.symm⟩, h.1.1⟩
structure Ahead (P : Program) (ops : Array Oper) (M : Nat → Nat) (W0 : World) (L D : Array Bool) (done : Nat) (l : List PI) (Y : List (PI × Nat)) (U : List PI) (E : Env) (act : Act) (W : World) : Prop where
  size : L.size = D.size
  bits : ∀ j, L.getD j false = true ↔ D.getD j false = true ∨ ∃ y, y ∈ Y ∧ y.1.i = j
  down : Down M L
  perm : l.Perm (Y.map (·.1) ++ U)
  blocks : (Y.map (·.2)).Nodup
  item : ∀ y, y ∈ Y → readyM done y.1 = true ∧ mkB y.1.o = true ∧ Made P act W y.1.o y.2 ∧ E.own y.2 = .hid ∧ W0.heap.size ≤ y.2
theorem getD_tf {A : Array Bool} {j : Nat} (h : j < A.size) : A.getD j true = A.getD j false := by
  simp [Array.getD_eq_getD_getElem?, h]
theorem getD_lt {A : Array Bool} {j : Nat} (h : A.getD j false = true) : j < A.size := by
  rcases Nat.lt_or_ge j A.size with h' | h'
  · exact h'
  · simp [Array.getD_eq_getD_getElem?, h'] at h
end
end Go.Proofs.YtbakkcdanoopgaaGreatDoor.Ev
set_option linter.unusedVariables false
set_option linter.unusedSimpArgs false
namespace Go.Proofs.YtbakkcdanoopgaaGreatDoor.Ev
open Go Go.RowKit Go.Proofs.YtbakkcdanoopgaaGreatDoorW.PrintWords Go.Proofs.YtbakkcdanoopgaaGreatDoorW.PrintMore Kd
section
variable {P : Program} {E E' : Env} {s s' : St} {act : Act} {W W' : World} {ρ : Type} {C : Ctx} {r : ρ}
section
variable {ops : Array Oper} {M : Nat → Nat} {W0 : World} {L D : Array Bool} {done : Nat} {l : List PI} {Y : List (PI × Nat)} {U : List PI}
theorem Ahead.mem (h : Ahead P ops M W0 L D done l Y U E act W) {x : PI} (hx : x ∈ l) : (∃ g, (x, g) ∈ Y) ∨ x ∈ U := by
  rcases List.mem_append.mp (h.perm.mem_iff.mp hx) with h1 | h1
  · obtain ⟨y, hy, rfl⟩ := List.mem_map.mp h1
    exact .inl ⟨y.2, hy⟩
  · exact .inr h1
theorem Ahead.inl (h : Ahead P ops M W0 L D done l Y U E act W) {x : PI} (hx : x ∈ U) : x ∈ l := h.perm.mem_iff.mpr (List.mem_append_right _ hx)
theorem Ahead.iny (h : Ahead P ops M W0 L D done l Y U E act W) {y : PI × Nat} (hy : y ∈ Y) : y.1 ∈ l := h.perm.mem_iff.mpr (List.mem_append_left _ (List.mem_map_of_mem hy))
theorem Ahead.apart (h : Ahead P ops M W0 L D done l Y U E act W) (hL : Left_ ops M D done l) {x : PI} (hx : x ∈ U) {y : PI × Nat} (hy : y ∈ Y) : y.1.i ≠ x.i := by
  have hn := (h.perm.map (·.i)).nodup_iff.mp hL.nodup
  rw [List.map_append] at hn
  exact (List.nodup_append.mp hn).2.2 _ (List.mem_map_of_mem (List.mem_map_of_mem hy)) _ (List.mem_map_of_mem hx)
theorem Ahead.unlisted (h : Ahead P ops M W0 L D done l Y U E act W) (hL : Left_ ops M D done l) {x : PI} (hx : x ∈ U) : L.getD x.i true = false := by
  obtain ⟨m1, m2, m3⟩ := hL.mem x (h.inl hx)
  have hlt : x.i < L.size := by
    rw [h.size, hL.size]
    exact (Array.getElem?_eq_some_iff.1 m1).1
  rw [getD_tf hlt]
  cases hb : L.getD x.i false with
  | false => rfl
  | true =>
    rcases (h.bits _).mp hb with h1 | ⟨y, hy, h1⟩
    · rw [getD_tf (by rw [← h.size]; exact hlt)] at m3
      rw [m3] at h1
      cases h1
    · exact absurd h1 (h.apart hL hx hy)
theorem Ahead.listed (h : Ahead P ops M W0 L D done l Y U E act W) {j : Nat} (hj : D.getD j false = true) : L.getD j false = true := (h.bits j).mpr (.inl hj)
theorem Ahead.ready (h : Ahead P ops M W0 L D done l Y U E act W) (hL : Left_ ops M D done l) {x : PI} (hx : x ∈ U) (hr : x.i ∈ Region.ready .any ops D) : x.i ∈ Region.ready .any ops L := by
  obtain ⟨-, o, ho, hall⟩ := mem_ready.mp hr
  exact mem_ready.mpr ⟨h.unlisted hL hx, o, ho, fun e he hb => h.listed (hall e he hb)⟩
theorem Ahead.left (h : Ahead P ops M W0 L D done l Y U E act W) (hL : Left_ ops M D done l) {j : Nat} {o : Oper} (ho : ops[j]? = some o) (hj : L.getD j true = false) : ∃ y, y ∈ U ∧ y.i = j ∧ y.o = o := by
  have hlt : j < L.size := by
    rw [h.size, hL.size]
    exact (Array.getElem?_eq_some_iff.1 ho).1
  rw [getD_tf hlt] at hj
  have h2 : D.getD j true = false := by
    rw [getD_tf (by rw [← h.size]; exact hlt)]
    cases hd : D.getD j false with
    | false => rfl
    | true => rw [h.listed hd] at hj; cases hj
  obtain ⟨y, hy, hyj⟩ := hL.left j o ho h2
  refine ⟨y, ?_, hyj, ?_⟩
  · rcases h.mem hy with ⟨g, hg⟩ | h3
    · rw [(h.bits j).mpr (.inr ⟨_, hg, hyj⟩)] at hj
      cases hj
    · exact h3
  · obtain ⟨n1, -, -⟩ := hL.mem y hy
    rw [hyj, ho] at n1
    exact (Option.some.inj n1).symm
theorem Ahead.step (h : Ahead P ops M W0 L D done l Y U E act W) (hL : Left_ ops M D done l) {x : PI} {r : List PI} (hp : l.Perm (x :: r)) (hx : x ∈ U) (hri : x.i ∈ Region.ready .any ops L) {E' : Env} {act' : Act} {W' : World} (hE : ∀ y, y ∈ Y → E'.own y.2 = .hid) (hM' : ∀ y, y ∈ Y → Made P act' W' y.1.o y.2) (hMw : Waits ops M) :
    ∃ U', U.length = U'.length + 1 ∧ Ahead P ops M W0 (L.setIfInBounds x.i true) (D.setIfInBounds x.i true) (Nat.lor done (Nat.pow 2 x.i)) r Y U' E' act' W' := by
  obtain ⟨a, b, hU⟩ := List.append_of_mem hx
  have hlt : x.i < L.size := by
    rw [h.size, hL.size]
    exact (Array.getElem?_eq_some_iff.1 (hL.mem x (h.inl hx)).1).1
  refine ⟨a ++ b, by rw [hU]; simp; omega, by simp [h.size], fun j => ?_, h.down.set hMw hri, ?_, h.blocks, fun y hy => ?_⟩
  · by_cases hj : x.i = j
    · subst hj
      have hlt2 : x.i < D.size := by rw [← h.size]; exact hlt
      simp [Array.getD_eq_getD_getElem?, hlt, hlt2]
    · rw [getD_set_ne false hj, getD_set_ne false hj]
      exact h.bits j
  · have h1 := hp.symm.trans h.perm
    rw [hU] at h1
    have h2 : (Y.map (·.1) ++ (a ++ x :: b)).Perm (x :: (Y.map (·.1) ++ (a ++ b))) := by
      rw [← List.append_assoc, ← List.append_assoc]
      exact List.perm_middle
    exact (h1.trans h2).cons_inv
  · obtain ⟨i1, i2, i3, i4, i5⟩ := h.item y hy
    refine ⟨?_, i2, hM' y hy, hE y hy, i5⟩
    unfold readyM at i1 ⊢
    rw [land_sub] at i1 ⊢
    intro k hk
    show (done ||| 2 ^ x.i).testBit k = true
    rw [Nat.testBit_or, i1 k hk]
    rfl
end
end
end Go.Proofs.YtbakkcdanoopgaaGreatDoor.Ev
