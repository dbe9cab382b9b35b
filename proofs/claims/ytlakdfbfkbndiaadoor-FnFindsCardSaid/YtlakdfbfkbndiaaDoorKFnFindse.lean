/- What the row of FnFinds rests on, and the row: for every input that can be read the call returns true and the input reads as it did; condition: what the row lists of the library reads as the program lays it. -/
import Derived.Test.YtlakdfbfkbndiaaDoorKFnFindsd
set_option linter.unusedVariables false
set_option linter.unusedSimpArgs false
set_option linter.unusedSectionVars false
namespace Go.Proofs.YtlakdfbfkbndiaaDoor.Q
open Go.RowKit Go.Proofs.YtlakdfbfkbndiaaDoor.Re Go.Proofs.YtlakdfbfkbndiaaDoorW.PrintWords Go.Proofs.YtlakdfbfkbndiaaDoorW.PrintLast Go.Proofs.YtlakdfbfkbndiaaDoorW.PrintMore
open Go.ChangeMaps (setBlock)
set_option maxRecDepth 100000 in
set_option maxHeartbeats 8000000 in
theorem ends_step {l : List S49} {s : ByteArray} {A0 : Option Addr} {c0 Bm Bf : Nat} {w0 : World} (hB : Base l s A0 c0 w0) (n : Nat) (hn : n < l.length) (ih : ∀ m, m < n → EndsAt l s A0 c0 Bm Bf w0 m) : EndsAt l s A0 c0 Bm Bf w0 n := by
  intro i hi w hM
  have HBase := Aside0.mk hB
  have HIH := Aside0.mk ih
  have HM := Aside0.mk hM
  clear hB ih hM
  have hl200 := HBase.out.ok.len
  have hs500 := HBase.out.sz
  go_enter Tryd.func61, Tryd.ntmps61
  go_wp2_with fail
  obtain ⟨w1, hw1⟩ : ∃ w1, w1 = w.alloc (.cells #[.int .i64 n, .int .i64 i] 72) := ⟨_, rfl⟩
  rw [← hw1]
  have HM1 : Aside0 (Mem l s A0 c0 Bm Bf w0 w1) := ⟨HM.out.move (by rw [hw1]; exact (Below.refl _ _).alloc (Nat.le_refl _) _)⟩
  have HG1 : Aside0 (w.grownBy w1 (some Bf)) := ⟨by rw [hw1]; exact World.grownBy_alloc w _ _⟩
  have HK1 : Aside0 (w1.heap[w.heap.size]? = some (.cells #[.int .i64 n, .int .i64 i] 72 (0, 0))) := ⟨by rw [hw1]; exact heap_alloc_new w _⟩
  have HZ1 : Aside0 (w1.heap.size = w.heap.size + 1) := ⟨by rw [hw1]; simp⟩
  have HF1 : Aside0 (∀ r, r < w.heap.size → Free Bf r w → Free Bf r w1) := ⟨fun r _ hf => hf.same (by rw [hw1]; exact Below.heap_alloc w _ _ (Array.getElem?_eq_some_iff.mp HM.out.map.choose_spec.choose_spec.1).1)⟩
  clear hw1
  have hk0 : w1.cell? ⟨w.heap.size, 0, none⟩ = some (.int .i64 n) := by simp [World.cell?, HK1.out]
  have hk1 : w1.cell? ⟨w.heap.size, 1, none⟩ = some (.int .i64 i) := by simp [World.cell?, HK1.out]
  obtain ⟨hc0, hc1, hc2⟩ := HM1.out.cell
  have hlook := HM1.out.map.look (by omega) (by omega) hn hi
  unfold pkey at hlook
  have HL := Aside0.mk hl200
  have HS := Aside0.mk hs500
  have HI := Aside0.mk hi
  have HN := Aside0.mk hn
  clear hl200 hs500 hi hn
  rcases hlook with hlook | ⟨b, ws, hlook, hb0, hbw, hbS, hbF⟩
  · obtain ⟨ad, A3, c3, e0, hx0, hx1, hx2, hx3, hl3, hi3⟩ := at_T49 HBase.out.rd (n : Int) (by omega) (by have := HN.out; omega)
    simp only [Int.toNat_natCast] at hx0 hx1 hx2 hx3
    have HX : Aside0 (∃ x, x = rd_T49 l n) := ⟨_, rfl⟩
    obtain ⟨x, hxe⟩ := HX.out
    rw [← hxe] at hx0 hx1 hx2 hx3 hl3 hi3
    have HXE : Aside0 (nodeAt l n = x) := ⟨hxe.symm⟩
    have HRK := Aside0.mk hi3
    have HCK := Aside0.mk hl3
    clear hxe HX hi3 hl3
    replace hx0 := (HM1.out.below.cell (World.block_lt_of_cell? w0 _ hx0)).trans hx0
    replace hx1 := (HM1.out.below.cell (World.block_lt_of_cell? w0 _ hx1)).trans hx1
    replace hx2 := (HM1.out.below.cell (World.block_lt_of_cell? w0 _ hx2)).trans hx2
    replace hx3 := (HM1.out.below.cell (World.block_lt_of_cell? w0 _ hx3)).trans hx3
    subst e0
    have p0 : ((0 : Int) ≤ (n : Int)) = True := eq_true (by omega)
    have p1 : ((n : Int) < (l.length : Int)) = True := eq_true (by have := HN.out; omega)
    go_quiet (fail)
    go_upto_block 0 with fail
    obtain ⟨w2, hw2⟩ : ∃ w2, w2 = ((w1.drewN nq).alloc (.cells #[.int .u64 0, .int .u64 0, .int .u64 0, .int .u64 0, .int .u64 0, .int .u64 0, .int .u64 0, .int .u64 0] 113)).alloc (.cells #[.int .i64 x.f0, .bool x.f1, .string x.f2, .slice A3 x.f3.length c3] 49) := ⟨_, rfl⟩
    rw [← hw2]
    have hBe : Below w1.heap.size w1 w2 := by rw [hw2]; exact below_alloc (below_alloc (pw_below_drewN (Below.refl _ _) _) _) _
    have HWk : Aside0 (Work l s (some ad) c0 Bm Bf w0 w n i (w1.heap.size + 1) x A3 c3 w2) := ⟨{
      mem := HM1.out.move hBe
      lo := HM.out.below.size
      grown := HG1.out.trans ⟨hBe.os, hBe.tape, hBe.output, hBe.size, fun k hk _ => hBe.block k hk⟩
      key := (hBe.block _ (Array.getElem?_eq_some_iff.mp HK1.out).1).trans HK1.out
      loc := by
        have e : ((w1.drewN nq).alloc (.cells #[.int .u64 0, .int .u64 0, .int .u64 0, .int .u64 0, .int .u64 0, .int .u64 0, .int .u64 0, .int .u64 0] 113)).heap.size = w1.heap.size + 1 := by simp
        rw [hw2, ← e]; exact heap_alloc_new _ _
      free := fun r hr hf => (HF1.out r hr hf).same (hBe.block _ (map_lt HM1.out)) }⟩
    have HOw : Aside0 (Own Bf w w1.heap.size (fun _ => False) (fun _ => 0) w2) := ⟨{
      lo := HG1.out.size
      obj := by rw [hw2, Below.heap_alloc _ _ _ (by simp)]; exact heap_alloc_new _ _
      free := (HM1.out.map.free (Nat.le_refl _)).same (hBe.block _ (map_lt HM1.out))
      set := IsSet.empty }⟩
    clear hBe hw2
    go_cut [10] (fun v10 wc => ∃ b ws, v10 = .pointer (some ⟨b, 0, none⟩) ∧ Aside0 (Work l s (some ad) c0 Bm Bf w0 w n i (w1.heap.size + 1) x A3 c3 wc) ∧ Aside0 (Own Bf w b (meets l s n i) ws wc))
    case first =>
      have hkd := HBase.out.ok.kd n HN.out
      rw [HXE.out] at hkd
      have hcl := HWk.out.loc
      have hn0 : w2.cell? ⟨w1.heap.size + 1, 0, none⟩ = some (.int .i64 x.f0) := by simp [World.cell?, hcl]
      have hn1 : w2.cell? ⟨w1.heap.size + 1, 1, none⟩ = some (.bool x.f1) := by simp [World.cell?, hcl]
      have hn2 : w2.cell? ⟨w1.heap.size + 1, 2, none⟩ = some (.string x.f2) := by simp [World.cell?, hcl]
      have hn3 : w2.cell? ⟨w1.heap.size + 1, 3, none⟩ = some (.slice A3 x.f3.length c3) := by simp [World.cell?, hcl]
      obtain ⟨hm0, hm1, hm2⟩ := HWk.out.mem.cell
      have HMeet := Aside0.mk (meets_eq HBase.out.ok s n HN.out)
      rw [HXE.out] at HMeet
      have HOk := Aside0.mk HBase.out.ok
      clear hk0 hk1 hc0 hc1 hc2 hx0 hx1 hx2 hx3 hlook hcl
      obtain ⟨f0, f1, f2, f3⟩ := x
      dsimp only at hkd hn0 hn1 hn2 hn3 HMeet HRK HCK
      have hcase : f0 = 0 ∨ f0 = 1 ∨ f0 = 2 ∨ f0 = 3 ∨ f0 = 4 ∨ f0 = 7 ∨ f0 = 5 ∨ f0 = 6 := by omega
      clear hkd
      rcases hcase with rfl | rfl | rfl | rfl | rfl | rfl | rfl | rfl
      · as_aux_lemma =>
        have HS2 : Aside0 (∀ j, meets l s n i j ↔ i < s.size ∧ inS ⟨0, f1, f2, f3⟩ (bt s i) = true ∧ j = i + 1) := ⟨fun j => by rw [HMeet.out, if_pos (by decide)]; simp [leafR]⟩
        by_cases h0 : i < s.size
        · have h0i : ((i : Int) < (s.size : Int)) = True := eq_true (by omega)
          have h0n : ((0 : Int) ≤ (i : Int)) = True := eq_true (by omega)
          have H0 := Aside0.mk h0
          have hbt := Aside0.mk (bt_nat h0)
          have he := HOk.out.even n HN.out (by rw [HXE.out])
          have ht := HOk.out.txt n HN.out
          rw [HXE.out] at he ht
          have hin := inSet_eq ⟨0, f1, f2, f3⟩ (bt s i) he ht
          generalize hq : inS ⟨0, f1, f2, f3⟩ (bt s i) = q at hin HS2
          have hcall := fun W hW => impl_inSet.calls _ 0 f1 f2 A3 c3 f3 (bt s i) q W hW HCK.out hin
          rw [hbt.out] at hcall
          have HCall := Aside0.mk hcall
          clear he ht hin hcall hq
          go_upto_region 25 with fail
          go_still_tail 15, (by kernel_rfl)
          change wpList _ _ _ _ _ w2.drew
          have hdr : Below w2.heap.size w2 w2.drew := (Below.refl _ _).drew
          replace HOw : Aside0 (Own Bf w w1.heap.size (fun _ => False) (fun _ => 0) w2.drew) := ⟨HOw.out.move HWk.out.mem hdr⟩
          replace HWk := Aside0.mk (HWk.out.move hdr)
          clear hdr
          have hcallW := HCall.out w2.drew (Kd.C_below HRK.out HWk.out.mem.below)
          clear HCall
          generalize w2.drew = w4 at *
          go_wp2_with fail
          refine hcallW.mono ?_
          rintro e w5 ⟨rfl, hbel⟩
          dsimp only
          clear hcallW
          replace HOw : Aside0 (Own Bf w w1.heap.size (fun _ => False) (fun _ => 0) w5) := ⟨HOw.out.move HWk.out.mem hbel⟩
          replace HWk := Aside0.mk (HWk.out.move hbel)
          clear hbel
          have hi5 : (i : Int) ≤ 500 := by have := HS.out; omega
          cases q with
          | true =>
            have hcall := add_succ_calls w1.heap.size i (by omega) _ _ HOw.out.set w5 HOw.out.obj
            go_wp2_with fail
            refine hcall.mono ?_
            rintro e w' ⟨r, rfl, _, ws, hS', hw', hg', -⟩
            have hF := HOw.out.free.same (hg'.block _ (map_lt HWk.out.mem) (fun e => map_ne HWk.out.mem HOw.out.obj (Option.some.inj e).symm))
            have HW' := Aside0.mk (HWk.out.set HOw.out hg')
            have HO' : Aside0 (Own Bf w w1.heap.size (meets l s n i) ws w') := ⟨⟨HOw.out.lo, hw', hF, hS'.congr fun j _ => by rw [HS2.out]; simp [h0]⟩⟩
            clear hS' hw' hg' hF
            go_wp2_with fail
            go_meet
            exact ⟨_, ws, rfl, HW', HO'⟩
          | false =>
            have HO' : Aside0 (Own Bf w w1.heap.size (meets l s n i) (fun _ => 0) w5) := ⟨⟨HOw.out.lo, HOw.out.obj, HOw.out.free, HOw.out.set.congr fun j _ => by rw [HS2.out]; simp⟩⟩
            go_wp2_with fail
            go_meet
            exact ⟨_, _, rfl, HWk, HO'⟩
        · have h0i : ((i : Int) < (s.size : Int)) = False := eq_false (by omega)
          have HO' : Aside0 (Own Bf w w1.heap.size (meets l s n i) (fun _ => 0) w2) := ⟨⟨HOw.out.lo, HOw.out.obj, HOw.out.free, HOw.out.set.congr fun j _ => by rw [HS2.out]; simp [h0]⟩⟩
          go_upto_region 25 with fail
          go_quiet (fail)
          have HO2 : Aside0 (Own Bf w w1.heap.size (meets l s n i) (fun _ => 0) (w2.drewN nq)) := ⟨HO'.out.move HWk.out.mem (pw_below_drewN (Below.refl _ _) _)⟩
          go_wp2_with fail
          go_meet
          exact ⟨_, _, rfl, ⟨HWk.out.move (pw_below_drewN (Below.refl _ _) _)⟩, HO2⟩
      · as_aux_lemma =>
        have HS2 : Aside0 (∀ j, meets l s n i j ↔ i = 0 ∧ j = 0) := ⟨fun j => by rw [HMeet.out, if_pos (by decide)]; simp [leafR]⟩
        by_cases h0 : i = 0
        · subst h0
          have hcall := add_zero_calls w1.heap.size _ _ HOw.out.set w2 HOw.out.obj
          go_wp2_with fail
          refine hcall.mono ?_
          rintro e w' ⟨r, rfl, _, ws, hS', hw', hg', -⟩
          have hF := HOw.out.free.same (hg'.block _ (map_lt HWk.out.mem) (fun e => map_ne HWk.out.mem HOw.out.obj (Option.some.inj e).symm))
          have HW' := Aside0.mk (HWk.out.set HOw.out hg')
          have HO' : Aside0 (Own Bf w w1.heap.size (meets l s n 0) ws w') := ⟨⟨HOw.out.lo, hw', hF, hS'.congr fun j _ => by rw [HS2.out]; simp⟩⟩
          clear hS' hw' hg' hF
          go_wp2_with fail
          go_meet
          exact ⟨_, ws, rfl, HW', HO'⟩
        · have h0i : ((i : Int) == 0) = false := beq_eq_false_iff_ne.mpr (by omega)
          have HO' : Aside0 (Own Bf w w1.heap.size (meets l s n i) (fun _ => 0) w2) := ⟨⟨HOw.out.lo, HOw.out.obj, HOw.out.free, HOw.out.set.congr fun j _ => by rw [HS2.out]; simp [h0]⟩⟩
          go_wp2_with fail
          go_meet
          exact ⟨_, _, rfl, HWk, HO'⟩
      · as_aux_lemma =>
        have HS2 : Aside0 (∀ j, meets l s n i j ↔ i = s.size ∧ j = i) := ⟨fun j => by rw [HMeet.out, if_pos (by decide)]; simp [leafR]⟩
        by_cases h0 : i = s.size
        · have h0i : ((i : Int) == (s.size : Int)) = true := beq_iff_eq.mpr (by omega)
          have H0 := Aside0.mk h0
          clear h0
          have hcall := add_calls w1.heap.size i (by have := HI.out; have := HS.out; omega) _ _ HOw.out.set w2 HOw.out.obj
          go_wp2_with fail
          refine hcall.mono ?_
          rintro e w' ⟨r, rfl, _, ws, hS', hw', hg', -⟩
          have hF := HOw.out.free.same (hg'.block _ (map_lt HWk.out.mem) (fun e => map_ne HWk.out.mem HOw.out.obj (Option.some.inj e).symm))
          have HW' := Aside0.mk (HWk.out.set HOw.out hg')
          have HO' : Aside0 (Own Bf w w1.heap.size (meets l s n i) ws w') := ⟨⟨HOw.out.lo, hw', hF, hS'.congr fun j _ => by rw [HS2.out]; simp [H0.out]⟩⟩
          clear hS' hw' hg' hF
          go_wp2_with fail
          go_meet
          exact ⟨_, ws, rfl, HW', HO'⟩
        · have h0i : ((i : Int) == (s.size : Int)) = false := beq_eq_false_iff_ne.mpr (by omega)
          have HO' : Aside0 (Own Bf w w1.heap.size (meets l s n i) (fun _ => 0) w2) := ⟨⟨HOw.out.lo, HOw.out.obj, HOw.out.free, HOw.out.set.congr fun j _ => by rw [HS2.out]; simp [h0]⟩⟩
          go_wp2_with fail
          go_meet
          exact ⟨_, _, rfl, HWk, HO'⟩
      · as_aux_lemma =>
        have HKid := Aside0.mk (HOk.out.kid n HN.out)
        rw [HXE.out] at HKid
        have HS2 : Aside0 (∀ j, meets l s n i j ↔ seqR (f3.map fun k => meets l s k.toNat) i j) := ⟨fun j => by
          have e : kidsR l s n = f3.map fun k => meets l s k.toNat := by unfold kidsR; rw [HXE.out]
          rw [HMeet.out, if_neg (by decide), if_pos rfl, e]⟩
        have HFw : Aside0 (∀ j y, seqR ((f3.take j).map fun k => meets l s k.toNat) i y → y ≤ s.size) := ⟨fun j y hy => (fwd_seq s.size _ (fun R hR => by
          obtain ⟨k, hk, rfl⟩ := List.mem_map.mp hR
          have hk := HKid.out k (List.mem_of_mem_take hk)
          exact meets_fwd HOk.out s k.toNat (by have := HN.out; omega)) i y HI.out hy).2⟩
        have HL3 : Aside0 (f3.length ≤ 9223372036854775807) := ⟨HRK.out.2.1⟩
        have HT0 := Aside0.mk HBase.out.tabs
        have hcall := add_calls w1.heap.size i (by have := HI.out; have := HS.out; omega) _ _ HOw.out.set w2 HOw.out.obj
        go_wp2_with fail
        refine hcall.mono ?_
        rintro e w' ⟨r, rfl, _, ws, hS', hw', hg', -⟩
        have hF := HOw.out.free.same (hg'.block _ (map_lt HWk.out.mem) (fun e => map_ne HWk.out.mem HOw.out.obj (Option.some.inj e).symm))
        have HW' := Aside0.mk (HWk.out.set HOw.out hg')
        have HO' : Aside0 (Own Bf w w1.heap.size (seqR ((f3.take 0).map fun k => meets l s k.toNat) i) ws w') := ⟨⟨HOw.out.lo, hw', hF, hS'.congr fun j _ => by simp [seqR, eq_comm]⟩⟩
        have hcl := HW'.out.loc
        have hn3' : w'.cell? ⟨w1.heap.size + 1, 3, none⟩ = some (.slice A3 f3.length c3) := by simp [World.cell?, hcl]
        clear hS' hw' hg' hF hcall hcl hn0 hn1 hn2 hn3 hm0 hm1 hm2
        go_wp2_with fail
        go_loopg [10, 154] f3.length (fun gg v10 v154 wr => ∃ (j b : Nat) (ws : Nat → Nat), v10 = .pointer (some ⟨b, 0, none⟩) ∧ v154 = .int .i64 j ∧ j ≤ f3.length ∧ f3.length - j ≤ gg ∧ Aside0 (Work l s (some ad) c0 Bm Bf w0 w n i (w1.heap.size + 1) ⟨3, f1, f2, f3⟩ A3 c3 wr) ∧ Aside0 (Own Bf w b (seqR ((f3.take j).map fun k => meets l s k.toNat) i) ws wr))
        case atStart => exact ⟨0, _, _, rfl, rfl, by omega, by omega, HW', HO'⟩
        case round =>
          clear HWk HOw HW' HO' hn3'
          obtain ⟨j, b, ws, rfl, rfl, hj, hg, HWk, HOw⟩ := hrel
          by_cases hlt : j < f3.length
          · have HLt := Aside0.mk hlt
            have hlt0 : (j : Int) < (f3.length : Int) := by omega
            obtain ⟨ad3, c, e0, _, hK, hcell⟩ := Kd.C_get (Kd.C_below HRK.out HWk.out.mem.below) (0 : Int) j (by omega) (by omega)
            subst e0
            have hK : c = [.int .i64 (f3.getD ((j : Int)).toNat 0)] := hK
            subst hK
            have hce := hcell 0 _ rfl
            replace hce : wr.cell? (ad3.add j) = some (.int .i64 (f3.getD j 0)) := by simpa [Kd.int, Kd.scalar] using hce
            clear hcell
            have HMem3 : Aside0 (f3.getD j 0 ∈ f3 ∧ f3.take (j + 1) = f3.take j ++ [f3.getD j 0]) := ⟨by
              rw [List.getD_eq_getElem?_getD, List.getElem?_eq_getElem hlt]
              exact ⟨List.getElem_mem hlt, by rw [List.take_add_one, List.getElem?_eq_getElem hlt]; rfl⟩⟩
            generalize f3.getD j 0 = z at *
            have hz := HKid.out z HMem3.out.1
            obtain ⟨m, rfl⟩ : ∃ m : Nat, z = (m : Int) := ⟨z.toNat, by omega⟩
            have HMn : Aside0 (m < n) := ⟨by omega⟩
            clear hz
            go_upto_region 39 with fail
            obtain ⟨w3, hw3⟩ : ∃ w3, w3 = wr.alloc (.cells #[.int .u64 0, .int .u64 0, .int .u64 0, .int .u64 0, .int .u64 0, .int .u64 0, .int .u64 0, .int .u64 0] 113) := ⟨_, rfl⟩
            rw [← hw3]
            have hBe : Below wr.heap.size wr w3 := by rw [hw3]; exact below_alloc (Below.refl _ _) _
            have HWk3 := Aside0.mk (HWk.out.move hBe)
            have HOw3 := Aside0.mk (HOw.out.move HWk.out.mem hBe)
            have HNx : Aside0 (Own Bf w wr.heap.size (fun _ => False) (fun _ => 0) w3) := ⟨{
              lo := HWk.out.grown.size
              obj := by rw [hw3]; exact heap_alloc_new _ _
              free := (HWk.out.mem.map.free (Nat.le_refl _)).same (hBe.block _ (map_lt HWk.out.mem))
              set := IsSet.empty }⟩
            have HNN : Aside0 (b ≠ wr.heap.size) := ⟨fun e => by have := (Array.getElem?_eq_some_iff.mp HOw.out.obj).1; omega⟩
            clear hBe hw3 hce HWk HOw
            have hlist := list_calls b ws _ HOw3.out.set w3 HOw3.out.obj (HT0.out.below HWk3.out.mem.below)
            go_wp2_with fail
            refine hlist.mono ?_
            rintro e w4 ⟨v4, rfl, hR4, hB4⟩
            dsimp only
            obtain ⟨L, hL⟩ : ∃ L, L = upto (seqR ((f3.take j).map fun k => meets l s k.toNat) i) 512 := ⟨_, rfl⟩
            rw [← hL] at hR4
            have HLm : Aside0 (∀ y, y ∈ L ↔ y < 512 ∧ seqR ((f3.take j).map fun k => meets l s k.toNat) i y) := ⟨fun y => by rw [hL]; exact mem_upto⟩
            have HLl : Aside0 (L.length ≤ 512) := ⟨by rw [hL]; exact upto_len _ _⟩
            obtain ⟨A4, c4, rfl, hl4, hC4⟩ := Kd.R_reads hR4
            rw [nats_len] at hR4 hl4 ⊢
            have HR4 := Aside0.mk hR4
            have HWk4 := Aside0.mk (HWk3.out.move hB4)
            have HNx4 := Aside0.mk (HNx.out.move HWk3.out.mem hB4)
            obtain ⟨nx, hnx⟩ : ∃ nx, nx = wr.heap.size := ⟨_, rfl⟩
            rw [← hnx] at HNx4 HNN ⊢
            obtain ⟨bs, hbs⟩ : ∃ bs, bs = w3.heap.size := ⟨_, rfl⟩
            rw [← hbs] at HR4
            clear hlist hL hR4 hB4 hl4 hC4 HWk3 HOw3 HNx hnx hbs
            go_wp2_with fail
            go_loopg [163] L.length (fun g2 v163 wr2 => ∃ (p : Nat) (vs : Nat → Nat), v163 = .int .i64 p ∧ p ≤ L.length ∧ L.length - p ≤ g2 ∧ Aside0 (Work l s (some ad) c0 Bm Bf w0 w n i (w1.heap.size + 1) ⟨3, f1, f2, f3⟩ (some ad3) c3 wr2) ∧ Aside0 (Own Bf w nx (fun y => ∃ x, x ∈ L.take p ∧ meets l s m x y) vs wr2) ∧ Aside0 (Kd.R (Kd.int .i64) 3 wr2 bs (fun _ => True) (.slice A4 L.length c4) (nats L)))
            case atStart => exact ⟨0, _, rfl, by omega, by omega, HWk4, ⟨⟨HNx4.out.lo, HNx4.out.obj, HNx4.out.free, HNx4.out.set.congr fun y _ => by simp⟩⟩, HR4⟩
            case round =>
              clear HWk4 HNx4 HR4
              obtain ⟨p, vs, rfl, hp, hg2, HWk, HNx, HR4⟩ := hrel
              by_cases hpl : p < L.length
              · have hpl0 : (p : Int) < (L.length : Int) := by omega
                have HPl := Aside0.mk hpl
                obtain ⟨ad4, e4, hcp⟩ := row_get HR4.out p (by rw [nats_len]; exact hpl)
                subst e4
                rw [nats_get L p hpl] at hcp
                obtain ⟨htk, hmem⟩ := take_next L p hpl
                generalize L.getD p 0 = x at hcp htk hmem
                have HTk := Aside0.mk htk
                have HXs : Aside0 (x ≤ s.size) := ⟨HFw.out j x ((HLm.out x).mp hmem).2⟩
                have hcall := HIH.out m HMn.out x HXs.out wr HWk.out.mem
                clear htk hmem
                go_wp2_with fail
                refine hcall.mono ?_
                rintro e w5 ⟨b2, ws2, rfl, hb0, hbw, hbS, hM3, hG3, hnF, hFr⟩
                dsimp only
                have HNx5 := Aside0.mk (HNx.out.call HWk.out.mem hG3 hFr)
                have HR5 := Aside0.mk (row_call HR4.out HWk.out.mem hG3)
                have HWk5 := Aside0.mk (HWk.out.call hM3 hG3 hFr)
                have HB2 : Aside0 (w5.heap[b2]? = some (wobj ws2)) := ⟨hbw⟩
                have HS3 : Aside0 (IsSet ws2 (meets l s m x)) := ⟨hbS⟩
                have HNe : Aside0 (b2 ≠ nx) := ⟨fun e => hnF (e ▸ HNx5.out.free)⟩
                clear hcall hb0 hbw hbS hM3 hG3 hnF hFr HNx HWk HR4 hcp
                go_wp2_with fail
                go_loopg [171] 8 (fun g3 v171 wr3 => ∃ (q : Nat), v171 = .int .i64 q ∧ q ≤ 8 ∧ 8 - q ≤ g3 ∧ Aside0 (Work l s (some ad) c0 Bm Bf w0 w n i (w1.heap.size + 1) ⟨3, f1, f2, f3⟩ (some ad3) c3 wr3) ∧ Aside0 (wr3.heap[b2]? = some (wobj ws2)) ∧ Aside0 (wr3.heap[nx]? = some (wobj (part vs ws2 q)) ∧ Free Bf nx wr3) ∧ Aside0 (Kd.R (Kd.int .i64) 3 wr3 bs (fun _ => True) (.slice (some ad4) L.length c4) (nats L)))
                case atStart => exact ⟨0, rfl, by omega, by omega, HWk5, HB2, ⟨by rw [part_zero]; exact HNx5.out.obj, HNx5.out.free⟩, HR5⟩
                case round =>
                  clear HWk5 HB2 HR5
                  obtain ⟨q, rfl, hq, hg3, HWk4, HB4, HO4, HR4⟩ := hrel
                  by_cases hq8 : q < 8
                  · have hq0 : (q : Int) < 8 := by omega
                    have hq1 : (0 : Int) ≤ (q : Int) := by omega
                    have hcb := wobj_cell HB4.out q hq8
                    have hco := wobj_cell HO4.out.1 q hq8
                    have hfo := wobj_frozen HO4.out.1 q
                    have hpq : part vs ws2 q q = vs q := if_neg (by omega)
                    rw [hpq] at hco
                    have hor := part_lt HNx5.out.set HS3.out q hq8
                    clear hpq
                    go_wp2_with fail
                    go_quiet (fail)
                    go_wp2_with fail
                    go_region
                    go_wp2_with fail
                    have HJ := HWk4.out.join HNx5.out.lo HNe.out hq8 HB4.out HO4.out (nq + 1)
                    have HR6 := Aside0.mk (row_put (q := q) (u := .int .u64 ((vs q ||| ws2 q : Nat) : Int)) (Kd.R_drewN HR4.out (nq + 1)) HO4.out.1)
                    go_roundg (8 - (q + 1))
                    case measure => omega
                    case rel => exact ⟨q + 1, by go_num, by omega, by omega, ⟨HJ.1⟩, ⟨HJ.2.1⟩, ⟨HJ.2.2⟩, HR6⟩
                  · obtain rfl : q = 8 := by omega
                    have hq0 : ¬ ((8 : Nat) : Int) < 8 := by omega
                    have HTx : Aside0 (∀ y, (∃ x', x' ∈ L.take (p + 1) ∧ meets l s m x' y) ↔ (∃ x', x' ∈ L.take p ∧ meets l s m x' y) ∨ meets l s m x y) := ⟨fun y => by
                      rw [HTk.out]
                      constructor
                      · rintro ⟨k, hk, hm⟩
                        rcases List.mem_append.mp hk with h | h
                        · exact .inl ⟨k, h, hm⟩
                        · have h : k = x := by simpa using h
                          subst h
                          exact .inr hm
                      · rintro (⟨k, hk, hm⟩ | hm)
                        · exact ⟨k, List.mem_append_left _ hk, hm⟩
                        · exact ⟨x, List.mem_append_right _ (by simp), hm⟩⟩
                    have HO5 : Aside0 (Own Bf w nx (fun y => ∃ x', x' ∈ L.take (p + 1) ∧ meets l s m x' y) (part vs ws2 8) wr) := ⟨⟨HNx5.out.lo, HO4.out.1, HO4.out.2, (part_set HNx5.out.set HS3.out).congr fun y _ => (HTx.out y).symm⟩⟩
                    have hpi : (p : Int) + 1 ≤ 513 := by have := HPl.out; have := HLl.out; omega
                    go_wp2_with fail
                    go_roundg (L.length - (p + 1))
                    case measure => have := HPl.out; omega
                    case rel => exact ⟨p + 1, _, by go_num, HPl.out, Nat.le_refl _, HWk4, HO5, HR4⟩
              · obtain rfl : p = L.length := by omega
                have hpl0 : ¬ (L.length : Int) < (L.length : Int) := by omega
                have HO5 : Aside0 (Own Bf w nx (seqR ((f3.take (j + 1)).map fun k => meets l s k.toNat) i) vs wr) := ⟨⟨HNx.out.lo, HNx.out.obj, HNx.out.free, HNx.out.set.congr fun y _ => by
                  rw [List.take_length, HMem3.out.2, List.map_append, List.map_cons, List.map_nil, seqR_snoc]
                  constructor
                  · rintro ⟨x', hx', hm⟩
                    exact ⟨x', ((HLm.out x').mp hx').2, by simpa using hm⟩
                  · rintro ⟨x', hx', hm⟩
                    exact ⟨x', (HLm.out x').mpr ⟨by have := HFw.out j x' hx'; have := HS.out; omega, hx'⟩, by simpa using hm⟩⟩⟩
                go_wp2_with fail
                go_roundg (f3.length - (j + 1))
                case measure => have := HLt.out; omega
                case rel => exact ⟨j + 1, nx, _, rfl, congrArg (Value.int .i64) (by have h1 := HLt.out; have h2 := HL3.out; unfold wrap64; omega), HLt.out, Nat.le_refl _, HWk, HO5⟩
          · obtain rfl : j = f3.length := by omega
            have hlt0 : ¬ (f3.length : Int) < (f3.length : Int) := by omega
            have HO6 : Aside0 (Own Bf w b (meets l s n i) ws wr) := ⟨⟨HOw.out.lo, HOw.out.obj, HOw.out.free, HOw.out.set.congr fun y _ => by rw [List.take_length]; exact (HS2.out y).symm⟩⟩
            go_wp2_with fail
            go_meet
            exact ⟨b, ws, rfl, HWk, HO6⟩
      · as_aux_lemma =>
        have HS2 : Aside0 (∀ j, meets l s n i j ↔ ∃ k, k ∈ f3 ∧ meets l s k.toNat i j) := ⟨fun j => by rw [HMeet.out, if_neg (by decide), if_neg (by decide), if_pos rfl]⟩
        have HKid := Aside0.mk (HOk.out.kid n HN.out)
        rw [HXE.out] at HKid
        have HL3 : Aside0 (f3.length ≤ 9223372036854775807) := ⟨HRK.out.2.1⟩
        go_wp2_with fail
        go_loopg [196] f3.length (fun gg v196 wr => ∃ (j : Nat) (ws : Nat → Nat), v196 = .int .i64 j ∧ j ≤ f3.length ∧ f3.length - j ≤ gg ∧ Aside0 (Work l s (some ad) c0 Bm Bf w0 w n i (w1.heap.size + 1) ⟨4, f1, f2, f3⟩ A3 c3 wr) ∧ Aside0 (Own Bf w w1.heap.size (fun y => ∃ k, k ∈ f3.take j ∧ meets l s k.toNat i y) ws wr))
        case atStart => exact ⟨0, _, rfl, by omega, by omega, HWk, ⟨⟨HOw.out.lo, HOw.out.obj, HOw.out.free, HOw.out.set.congr fun j _ => by simp⟩⟩⟩
        case round =>
          clear HWk HOw hn0 hn1 hn2 hn3 hm0 hm1 hm2
          obtain ⟨j, ws, rfl, hj, hg, HWk, HOw⟩ := hrel
          by_cases hlt : j < f3.length
          · have HLt := Aside0.mk hlt
            have hlt0 : (j : Int) < (f3.length : Int) := by omega
            obtain ⟨ad3, c, e0, _, hK, hcell⟩ := Kd.C_get (Kd.C_below HRK.out HWk.out.mem.below) (0 : Int) j (by omega) (by omega)
            subst e0
            have hK : c = [.int .i64 (f3.getD ((j : Int)).toNat 0)] := hK
            subst hK
            have hce := hcell 0 _ rfl
            replace hce : wr.cell? (ad3.add j) = some (.int .i64 (f3.getD j 0)) := by simpa [Kd.int, Kd.scalar] using hce
            clear hcell
            have HMem3 : Aside0 (f3.getD j 0 ∈ f3 ∧ f3.take (j + 1) = f3.take j ++ [f3.getD j 0]) := ⟨by
              rw [List.getD_eq_getElem?_getD, List.getElem?_eq_getElem hlt]
              exact ⟨List.getElem_mem hlt, by rw [List.take_add_one, List.getElem?_eq_getElem hlt]; rfl⟩⟩
            generalize f3.getD j 0 = z at *
            have hz := HKid.out z HMem3.out.1
            obtain ⟨m, rfl⟩ : ∃ m : Nat, z = (m : Int) := ⟨z.toNat, by omega⟩
            have hcall := HIH.out m (by omega) i HI.out wr HWk.out.mem
            clear hz
            go_wp2_with fail
            refine hcall.mono ?_
            rintro e w3 ⟨b2, ws2, rfl, hb0, hbw, hbS, hM3, hG3, hnF, hFr⟩
            dsimp only
            have HOw3 := Aside0.mk (HOw.out.call HWk.out.mem hG3 hFr)
            have HWk3 := Aside0.mk (HWk.out.call hM3 hG3 hFr)
            have HB2 : Aside0 (w3.heap[b2]? = some (wobj ws2)) := ⟨hbw⟩
            have HS3 : Aside0 (IsSet ws2 (meets l s m i)) := ⟨hbS⟩
            have HNe : Aside0 (b2 ≠ w1.heap.size) := ⟨fun e => hnF (e ▸ HOw3.out.free)⟩
            clear hcall hb0 hbw hbS hM3 hG3 hnF hFr HOw HWk hce
            go_wp2_with fail
            go_loopg [204] 8 (fun g2 v204 wr2 => ∃ (q : Nat), v204 = .int .i64 q ∧ q ≤ 8 ∧ 8 - q ≤ g2 ∧ Aside0 (Work l s (some ad) c0 Bm Bf w0 w n i (w1.heap.size + 1) ⟨4, f1, f2, f3⟩ (some ad3) c3 wr2) ∧ Aside0 (wr2.heap[b2]? = some (wobj ws2)) ∧ Aside0 (wr2.heap[w1.heap.size]? = some (wobj (part ws ws2 q)) ∧ Free Bf w1.heap.size wr2))
            case atStart => exact ⟨0, rfl, by omega, by omega, HWk3, HB2, ⟨by rw [part_zero]; exact HOw3.out.obj, HOw3.out.free⟩⟩
            case round =>
              clear HWk3 HB2
              obtain ⟨q, rfl, hq, hg2, HWk4, HB4, HO4⟩ := hrel
              by_cases hq8 : q < 8
              · have hq0 : (q : Int) < 8 := by omega
                have hq1 : (0 : Int) ≤ (q : Int) := by omega
                have hcb := wobj_cell HB4.out q hq8
                have hco := wobj_cell HO4.out.1 q hq8
                have hfo := wobj_frozen HO4.out.1 q
                have hpq : part ws ws2 q q = ws q := if_neg (by omega)
                rw [hpq] at hco
                have hor := part_lt HOw3.out.set HS3.out q hq8
                clear hpq
                go_wp2_with fail
                go_quiet (fail)
                go_wp2_with fail
                go_region
                go_wp2_with fail
                have HJ := HWk4.out.join HOw3.out.lo HNe.out hq8 HB4.out HO4.out (nq + 1)
                go_roundg (8 - (q + 1))
                case measure => omega
                case rel => exact ⟨q + 1, by go_num, by omega, by omega, ⟨HJ.1⟩, ⟨HJ.2.1⟩, ⟨HJ.2.2⟩⟩
              · obtain rfl : q = 8 := by omega
                have hq0 : ¬ ((8 : Nat) : Int) < 8 := by omega
                have HTk : Aside0 (∀ y, (∃ k, k ∈ f3.take (j + 1) ∧ meets l s k.toNat i y) ↔ (∃ k, k ∈ f3.take j ∧ meets l s k.toNat i y) ∨ meets l s m i y) := ⟨fun y => by
                  rw [HMem3.out.2]
                  constructor
                  · rintro ⟨k, hk, hm⟩
                    rcases List.mem_append.mp hk with h | h
                    · exact .inl ⟨k, h, hm⟩
                    · have h : k = (m : Int) := by simpa using h
                      subst h
                      exact .inr (by simpa using hm)
                  · rintro (⟨k, hk, hm⟩ | hm)
                    · exact ⟨k, List.mem_append_left _ hk, hm⟩
                    · exact ⟨m, List.mem_append_right _ (by simp), by simpa using hm⟩⟩
                have HO5 : Aside0 (Own Bf w w1.heap.size (fun y => ∃ k, k ∈ f3.take (j + 1) ∧ meets l s k.toNat i y) (part ws ws2 8) wr) := ⟨⟨HOw3.out.lo, HO4.out.1, HO4.out.2, (part_set HOw3.out.set HS3.out).congr fun y _ => (HTk.out y).symm⟩⟩
                go_wp2_with fail
                go_roundg (f3.length - (j + 1))
                case measure => have := HLt.out; omega
                case rel => exact ⟨j + 1, _, congrArg (Value.int .i64) (by have h1 := HLt.out; have h2 := HL3.out; unfold wrap64; omega), HLt.out, Nat.le_refl _, HWk4, HO5⟩
          · obtain rfl : j = f3.length := by omega
            have hlt0 : ¬ (f3.length : Int) < (f3.length : Int) := by omega
            have hcl := HWk.out.loc
            have hn0 : wr.cell? ⟨w1.heap.size + 1, 0, none⟩ = some (.int .i64 4) := by simp [World.cell?, hcl]
            have HO5 : Aside0 (Own Bf w w1.heap.size (fun y => ∃ k, k ∈ f3 ∧ meets l s k.toNat i y) ws wr) := ⟨⟨HOw.out.lo, HOw.out.obj, HOw.out.free, HOw.out.set.congr fun y _ => by rw [List.take_length]⟩⟩
            clear hcl
            have HO6 : Aside0 (Own Bf w w1.heap.size (meets l s n i) ws wr) := ⟨⟨HO5.out.lo, HO5.out.obj, HO5.out.free, HO5.out.set.congr fun y _ => (HS2.out y).symm⟩⟩
            go_wp2_with fail
            go_meet
            exact ⟨_, ws, rfl, HWk, HO6⟩
      · as_aux_lemma =>
        have HOne := HOk.out.one n HN.out (by rw [HXE.out]; show (5 : Int) ≤ 7; decide)
        rw [HXE.out] at HOne
        have HS2 : Aside0 (∀ j, meets l s n i j ↔ (∃ k, k ∈ f3 ∧ meets l s k.toNat i j) ∨ j = i) := ⟨fun j => by
          obtain ⟨k1, hk1⟩ := HOne
          have hk1 : f3 = [k1] := hk1
          rw [HMeet.out, if_neg (by decide), if_neg (by decide), if_neg (by decide), if_neg (by decide), if_neg (by decide), hk1]
          simp only [List.headD_cons, List.mem_singleton, exists_eq_left]
          constructor
          · rintro (e | h)
            · exact .inr e.symm
            · exact .inl h
          · rintro (h | e)
            · exact .inr h
            · exact .inl e.symm⟩
        clear HOne
        have HKid := Aside0.mk (HOk.out.kid n HN.out)
        rw [HXE.out] at HKid
        have HL3 : Aside0 (f3.length ≤ 9223372036854775807) := ⟨HRK.out.2.1⟩
        go_wp2_with fail
        go_loopg [196] f3.length (fun gg v196 wr => ∃ (j : Nat) (ws : Nat → Nat), v196 = .int .i64 j ∧ j ≤ f3.length ∧ f3.length - j ≤ gg ∧ Aside0 (Work l s (some ad) c0 Bm Bf w0 w n i (w1.heap.size + 1) ⟨7, f1, f2, f3⟩ A3 c3 wr) ∧ Aside0 (Own Bf w w1.heap.size (fun y => ∃ k, k ∈ f3.take j ∧ meets l s k.toNat i y) ws wr))
        case atStart => exact ⟨0, _, rfl, by omega, by omega, HWk, ⟨⟨HOw.out.lo, HOw.out.obj, HOw.out.free, HOw.out.set.congr fun j _ => by simp⟩⟩⟩
        case round =>
          clear HWk HOw hn0 hn1 hn2 hn3 hm0 hm1 hm2
          obtain ⟨j, ws, rfl, hj, hg, HWk, HOw⟩ := hrel
          by_cases hlt : j < f3.length
          · have HLt := Aside0.mk hlt
            have hlt0 : (j : Int) < (f3.length : Int) := by omega
            obtain ⟨ad3, c, e0, _, hK, hcell⟩ := Kd.C_get (Kd.C_below HRK.out HWk.out.mem.below) (0 : Int) j (by omega) (by omega)
            subst e0
            have hK : c = [.int .i64 (f3.getD ((j : Int)).toNat 0)] := hK
            subst hK
            have hce := hcell 0 _ rfl
            replace hce : wr.cell? (ad3.add j) = some (.int .i64 (f3.getD j 0)) := by simpa [Kd.int, Kd.scalar] using hce
            clear hcell
            have HMem3 : Aside0 (f3.getD j 0 ∈ f3 ∧ f3.take (j + 1) = f3.take j ++ [f3.getD j 0]) := ⟨by
              rw [List.getD_eq_getElem?_getD, List.getElem?_eq_getElem hlt]
              exact ⟨List.getElem_mem hlt, by rw [List.take_add_one, List.getElem?_eq_getElem hlt]; rfl⟩⟩
            generalize f3.getD j 0 = z at *
            have hz := HKid.out z HMem3.out.1
            obtain ⟨m, rfl⟩ : ∃ m : Nat, z = (m : Int) := ⟨z.toNat, by omega⟩
            have hcall := HIH.out m (by omega) i HI.out wr HWk.out.mem
            clear hz
            go_wp2_with fail
            refine hcall.mono ?_
            rintro e w3 ⟨b2, ws2, rfl, hb0, hbw, hbS, hM3, hG3, hnF, hFr⟩
            dsimp only
            have HOw3 := Aside0.mk (HOw.out.call HWk.out.mem hG3 hFr)
            have HWk3 := Aside0.mk (HWk.out.call hM3 hG3 hFr)
            have HB2 : Aside0 (w3.heap[b2]? = some (wobj ws2)) := ⟨hbw⟩
            have HS3 : Aside0 (IsSet ws2 (meets l s m i)) := ⟨hbS⟩
            have HNe : Aside0 (b2 ≠ w1.heap.size) := ⟨fun e => hnF (e ▸ HOw3.out.free)⟩
            clear hcall hb0 hbw hbS hM3 hG3 hnF hFr HOw HWk hce
            go_wp2_with fail
            go_loopg [204] 8 (fun g2 v204 wr2 => ∃ (q : Nat), v204 = .int .i64 q ∧ q ≤ 8 ∧ 8 - q ≤ g2 ∧ Aside0 (Work l s (some ad) c0 Bm Bf w0 w n i (w1.heap.size + 1) ⟨7, f1, f2, f3⟩ (some ad3) c3 wr2) ∧ Aside0 (wr2.heap[b2]? = some (wobj ws2)) ∧ Aside0 (wr2.heap[w1.heap.size]? = some (wobj (part ws ws2 q)) ∧ Free Bf w1.heap.size wr2))
            case atStart => exact ⟨0, rfl, by omega, by omega, HWk3, HB2, ⟨by rw [part_zero]; exact HOw3.out.obj, HOw3.out.free⟩⟩
            case round =>
              clear HWk3 HB2
              obtain ⟨q, rfl, hq, hg2, HWk4, HB4, HO4⟩ := hrel
              by_cases hq8 : q < 8
              · have hq0 : (q : Int) < 8 := by omega
                have hq1 : (0 : Int) ≤ (q : Int) := by omega
                have hcb := wobj_cell HB4.out q hq8
                have hco := wobj_cell HO4.out.1 q hq8
                have hfo := wobj_frozen HO4.out.1 q
                have hpq : part ws ws2 q q = ws q := if_neg (by omega)
                rw [hpq] at hco
                have hor := part_lt HOw3.out.set HS3.out q hq8
                clear hpq
                go_wp2_with fail
                go_quiet (fail)
                go_wp2_with fail
                go_region
                go_wp2_with fail
                have HJ := HWk4.out.join HOw3.out.lo HNe.out hq8 HB4.out HO4.out (nq + 1)
                go_roundg (8 - (q + 1))
                case measure => omega
                case rel => exact ⟨q + 1, by go_num, by omega, by omega, ⟨HJ.1⟩, ⟨HJ.2.1⟩, ⟨HJ.2.2⟩⟩
              · obtain rfl : q = 8 := by omega
                have hq0 : ¬ ((8 : Nat) : Int) < 8 := by omega
                have HTk : Aside0 (∀ y, (∃ k, k ∈ f3.take (j + 1) ∧ meets l s k.toNat i y) ↔ (∃ k, k ∈ f3.take j ∧ meets l s k.toNat i y) ∨ meets l s m i y) := ⟨fun y => by
                  rw [HMem3.out.2]
                  constructor
                  · rintro ⟨k, hk, hm⟩
                    rcases List.mem_append.mp hk with h | h
                    · exact .inl ⟨k, h, hm⟩
                    · have h : k = (m : Int) := by simpa using h
                      subst h
                      exact .inr (by simpa using hm)
                  · rintro (⟨k, hk, hm⟩ | hm)
                    · exact ⟨k, List.mem_append_left _ hk, hm⟩
                    · exact ⟨m, List.mem_append_right _ (by simp), by simpa using hm⟩⟩
                have HO5 : Aside0 (Own Bf w w1.heap.size (fun y => ∃ k, k ∈ f3.take (j + 1) ∧ meets l s k.toNat i y) (part ws ws2 8) wr) := ⟨⟨HOw3.out.lo, HO4.out.1, HO4.out.2, (part_set HOw3.out.set HS3.out).congr fun y _ => (HTk.out y).symm⟩⟩
                go_wp2_with fail
                go_roundg (f3.length - (j + 1))
                case measure => have := HLt.out; omega
                case rel => exact ⟨j + 1, _, congrArg (Value.int .i64) (by have h1 := HLt.out; have h2 := HL3.out; unfold wrap64; omega), HLt.out, Nat.le_refl _, HWk4, HO5⟩
          · obtain rfl : j = f3.length := by omega
            have hlt0 : ¬ (f3.length : Int) < (f3.length : Int) := by omega
            have hcl := HWk.out.loc
            have hn0 : wr.cell? ⟨w1.heap.size + 1, 0, none⟩ = some (.int .i64 7) := by simp [World.cell?, hcl]
            have HO5 : Aside0 (Own Bf w w1.heap.size (fun y => ∃ k, k ∈ f3 ∧ meets l s k.toNat i y) ws wr) := ⟨⟨HOw.out.lo, HOw.out.obj, HOw.out.free, HOw.out.set.congr fun y _ => by rw [List.take_length]⟩⟩
            clear hcl
            have hcall := add_calls w1.heap.size i (by have := HI.out; have := HS.out; omega) _ _ HO5.out.set wr HO5.out.obj
            go_wp2_with fail
            refine hcall.mono ?_
            rintro e w' ⟨r, rfl, _, ws', hS', hw', hg', -⟩
            have hF := HO5.out.free.same (hg'.block _ (map_lt HWk.out.mem) (fun e => map_ne HWk.out.mem HO5.out.obj (Option.some.inj e).symm))
            have HW' := Aside0.mk (HWk.out.set HO5.out hg')
            have HO' : Aside0 (Own Bf w w1.heap.size (meets l s n i) ws' w') := ⟨⟨HO5.out.lo, hw', hF, hS'.congr fun y _ => (HS2.out y).symm⟩⟩
            clear hS' hw' hg' hF
            go_wp2_with fail
            go_meet
            exact ⟨_, ws', rfl, HW', HO'⟩
      · as_aux_lemma =>
        have HOne := HOk.out.one n HN.out (by rw [HXE.out]; show (5 : Int) ≤ 5; decide)
        have HKid := HOk.out.kid n HN.out
        rw [HXE.out] at HOne HKid
        obtain ⟨k1, hk1⟩ := HOne
        have hk1 : f3 = [k1] := hk1
        subst hk1
        have hz := HKid k1 (by simp)
        obtain ⟨m, rfl⟩ : ∃ m : Nat, k1 = (m : Int) := ⟨k1.toNat, by omega⟩
        have HMn : Aside0 (m < n) := ⟨by omega⟩
        clear hz HKid
        have HFw : Aside0 (Fwd (meets l s m) s.size) := ⟨meets_fwd HOk.out s m (by have := HN.out; have := HMn.out; omega)⟩
        have HS2 : Aside0 (∀ j, meets l s n i j ↔ Plus (meets l s m) i j ∨ j = i) := ⟨fun j => by
          rw [HMeet.out, if_neg (by decide), if_neg (by decide), if_neg (by decide), if_pos rfl]
          show Star (meets l s ((m : Int)).toNat) i j ↔ _
          rw [Int.toNat_natCast]
          exact plus_star⟩
        have HT0 := Aside0.mk HBase.out.tabs
        obtain ⟨ad3, c, e0, _, hK, hcell⟩ := Kd.C_get (Kd.C_below HRK.out HWk.out.mem.below) (0 : Int) 0 (by omega) (by simp)
        subst e0
        have hK : c = [.int .i64 (([(m : Int)] : List Int).getD ((0 : Int)).toNat 0)] := hK
        subst hK
        have hce := hcell 0 _ rfl
        have hce2 : w2.cell? ad3 = some (.int .i64 m) := by simpa [Kd.int, Kd.scalar, Addr.add] using hce
        replace hce : w2.cell? (ad3.add 0) = some (.int .i64 m) := by simpa [Kd.int, Kd.scalar] using hce
        clear hcell
        have hcall := HIH.out m HMn.out i HI.out w2 HWk.out.mem
        go_wp2_with fail
        refine hcall.mono ?_
        rintro e w3 ⟨b2, ws2, rfl, hb0, hbw, hbS, hM3, hG3, hnF, hFr⟩
        dsimp only
        have HOw3 := Aside0.mk (HOw.out.call HWk.out.mem hG3 hFr)
        have HWk3 := Aside0.mk (HWk.out.call hM3 hG3 hFr)
        have hlist := list_calls b2 ws2 _ hbS w3 hbw (HT0.out.below HWk3.out.mem.below)
        clear hcall hb0 hbw hbS hM3 hG3 hnF hFr HOw HWk hce hce2 hn0 hn1 hn2 hn3 hm0 hm1 hm2
        go_wp2_with fail
        refine hlist.mono ?_
        rintro e w4 ⟨v4, rfl, hR4, hB4⟩
        dsimp only
        obtain ⟨Q0, hQ0⟩ : ∃ Q0, Q0 = upto (meets l s m i) (s.size + 1) := ⟨_, rfl⟩
        rw [upto_big (n := s.size + 1) (fun y hy => by have := HFw.out i y HI.out hy; omega) (by have := HS.out; omega), ← hQ0] at hR4
        have HQ0 : Aside0 (Re.Queue (meets l s m) i (s.size + 1) Q0 0) := ⟨by rw [hQ0]; exact Queue.start fun y hy => by have := HFw.out i y HI.out hy; omega⟩
        have HQl : Aside0 (Q0.length ≤ 501) := ⟨by have := HQ0.out.len; have := HS.out; omega⟩
        obtain ⟨A4, c4, rfl, hl4, hC4⟩ := Kd.R_reads hR4
        rw [nats_len] at hR4 hl4 ⊢
        have HR4 := Aside0.mk hR4
        have HOw4 := Aside0.mk (HOw3.out.move HWk3.out.mem hB4)
        have HWk4 := Aside0.mk (HWk3.out.move hB4)
        replace HR4 := Aside0.mk (Kd.R_lower HR4.out HWk3.out.grown.size)
        clear hlist hQ0 hR4 hB4 hl4 hC4 HWk3 HOw3
        go_wp2_with fail
        go_loopg [61] Q0.length (fun g2 v61 wr2 => ∃ (p : Nat) (vs : Nat → Nat), v61 = .int .i64 p ∧ p ≤ Q0.length ∧ Q0.length - p ≤ g2 ∧ Aside0 (Work l s (some ad) c0 Bm Bf w0 w n i (w1.heap.size + 1) ⟨5, f1, f2, [(m : Int)]⟩ (some ad3) c3 wr2) ∧ Aside0 (Own Bf w w1.heap.size (fun y => y ∈ Q0.take p) vs wr2) ∧ Aside0 (Kd.R (Kd.int .i64) 3 wr2 w.heap.size (fun _ => True) (.slice A4 Q0.length c4) (nats Q0)))
        case atStart => exact ⟨0, _, rfl, by omega, by omega, HWk4, ⟨⟨HOw4.out.lo, HOw4.out.obj, HOw4.out.free, HOw4.out.set.congr fun y _ => by simp⟩⟩, HR4⟩
        case round =>
          clear HWk4 HOw4 HR4
          obtain ⟨p, vs, rfl, hp, hg2, HWk, HOw, HR4⟩ := hrel
          by_cases hpl : p < Q0.length
          · have hpl0 : (p : Int) < (Q0.length : Int) := by omega
            have HPl := Aside0.mk hpl
            obtain ⟨ad4, e4, hcp⟩ := row_get HR4.out p (by rw [nats_len]; exact hpl)
            subst e4
            rw [nats_get Q0 p hpl] at hcp
            obtain ⟨htk, hmem⟩ := take_next Q0 p hpl
            generalize Q0.getD p 0 = x at hcp htk hmem
            have hxl := HQ0.out.lt x hmem
            have hcall := add_calls w1.heap.size x (by have := HS.out; omega) _ _ HOw.out.set wr HOw.out.obj
            have HTk := Aside0.mk htk
            clear htk hmem hxl
            go_wp2_with fail
            refine hcall.mono ?_
            rintro e w' ⟨r, rfl, _, ws', hS', hw', hg', -⟩
            dsimp only
            have hF := HOw.out.free.same (hg'.block _ (map_lt HWk.out.mem) (fun e => map_ne HWk.out.mem HOw.out.obj (Option.some.inj e).symm))
            have HW' := Aside0.mk (HWk.out.set HOw.out hg')
            have HR' := Aside0.mk (row_grown2 HR4.out HOw.out.obj hg')
            have HO' : Aside0 (Own Bf w w1.heap.size (fun y => y ∈ Q0.take (p + 1)) ws' w') := ⟨⟨HOw.out.lo, hw', hF, hS'.congr fun y _ => by rw [HTk.out]; simp⟩⟩
            have hpi : (p : Int) + 1 ≤ 513 := by have := HPl.out; have := HQl.out; omega
            clear hS' hw' hg' hF hcp hcall
            go_wp2_with fail
            go_roundg (Q0.length - (p + 1))
            case measure => have := HPl.out; omega
            case rel => exact ⟨p + 1, _, by go_num, HPl.out, Nat.le_refl _, HW', HO', HR'⟩
          · obtain rfl : p = Q0.length := by omega
            have hpl0 : ¬ (Q0.length : Int) < (Q0.length : Int) := by omega
            have HOw5 : Aside0 (Own Bf w w1.heap.size (fun y => y ∈ Q0) vs wr) := ⟨⟨HOw.out.lo, HOw.out.obj, HOw.out.free, HOw.out.set.congr fun y _ => by rw [List.take_length]⟩⟩
            clear HOw
            go_wp2_with fail
            go_loopg [22, 25] 513 (fun gg v22 v25 wr => ∃ (i' : Nat) (Q : List Nat) (ws : Nat → Nat), v25 = .int .i64 i' ∧ 513 - i' ≤ gg ∧ i' ≤ Q.length ∧ Aside0 (Re.Queue (meets l s m) i (s.size + 1) Q i') ∧ Aside0 (Work l s (some ad) c0 Bm Bf w0 w n i (w1.heap.size + 1) ⟨5, f1, f2, [(m : Int)]⟩ (some ad3) c3 wr) ∧ Aside0 (Own Bf w w1.heap.size (fun y => y ∈ Q) ws wr) ∧ Aside0 (Kd.R (Kd.int .i64) 3 wr w.heap.size (fun _ => True) v22 (nats Q)))
            case atStart => exact ⟨0, Q0, vs, rfl, by omega, by omega, HQ0, HWk, HOw5, HR4⟩
            case round =>
              clear HWk HOw5 HR4 HQ0
              obtain ⟨i', Q, ws, rfl, hg, hi', HQ, HWk, HOw, HR⟩ := hrel
              obtain ⟨A5, c5, hv, _, _⟩ := Kd.R_reads HR.out
              rw [nats_len] at hv
              subst hv
              have HQ5 : Aside0 (Q.length ≤ 501) := ⟨by have := HQ.out.len; have := HS.out; omega⟩
              have hcl := HWk.out.loc
              have hn3 : wr.cell? ⟨w1.heap.size + 1, 3, none⟩ = some (.slice (some ad3) 1 c3) := by simp [World.cell?, hcl]
              have hn0 : wr.cell? ⟨w1.heap.size + 1, 0, none⟩ = some (.int .i64 5) := by simp [World.cell?, hcl]
              clear hcl
              by_cases hlt : i' < Q.length
              · have hlt0 : (i' : Int) < (Q.length : Int) := by omega
                have HLt := Aside0.mk hlt
                obtain ⟨ad5, e5, hcq⟩ := row_get HR.out i' (by rw [nats_len]; exact hlt)
                subst e5
                rw [nats_get Q i' hlt] at hcq
                have HStep := Aside0.mk (HQ.out.step hlt (fun q x hq hx => by have := HFw.out q x (by omega) hx; omega))
                have hmem := (take_next Q i' hlt).2
                have HXq : Aside0 (∃ x, Q.getD i' 0 = x) := ⟨_, rfl⟩
                obtain ⟨x, hx⟩ := HXq.out
                rw [hx] at hcq HStep hmem
                replace HXq : Aside0 (Q.getD i' 0 = x) := ⟨hx⟩
                clear hx
                have HXs : Aside0 (x ≤ s.size) := ⟨by have := HQ.out.lt x hmem; omega⟩
                obtain ⟨ad3', cc, e0, _, hK, hcell⟩ := Kd.C_get (Kd.C_below HRK.out HWk.out.mem.below) (0 : Int) 0 (by omega) (by simp)
                obtain rfl : ad3 = ad3' := Option.some.inj e0
                have hK : cc = [.int .i64 (([(m : Int)] : List Int).getD ((0 : Int)).toNat 0)] := hK
                subst hK
                have hce := hcell 0 _ rfl
                replace hce : wr.cell? ad3 = some (.int .i64 m) := by simpa [Kd.int, Kd.scalar, Addr.add] using hce
                clear hcell e0 hmem
                go_upto_region 16 with fail
                refine wp_region_aside_at (v := .int .i64 0) 9 12 (by kernel_rfl) rfl (by kernel_rfl) (by kernel_rfl) (by kernel_rfl) (fun _ _ _ h => h) (Or.inl ⟨by rfl, fun w => ?_⟩) (by kernel_rfl) (by kernel_rfl) ?_
                · first | rfl | (go_simp; done)
                simp only [List.take_succ_cons, List.take_zero, List.drop_succ_cons, List.drop_zero]
                repeat still_step
                try refine wpStill_nil ?_
                change wpList _ _ _ _ _ wr.drew
                have hdr : Below wr.heap.size wr wr.drew := (Below.refl _ _).drew
                replace HOw := Aside0.mk (HOw.out.move HWk.out.mem hdr)
                replace HWk := Aside0.mk (HWk.out.move hdr)
                replace HR := Aside0.mk (Kd.R_below HR.out hdr)
                clear hdr hce hcq hn3 hn0
                generalize wr.drew = w6 at *
                have hcall := HIH.out m HMn.out x HXs.out w6 HWk.out.mem
                go_wp2_with fail
                refine hcall.mono ?_
                rintro e w7 ⟨b2, ws2, rfl, hb0, hbw, hbS, hM3, hG3, hnF, hFr⟩
                dsimp only
                replace HR := Aside0.mk (row_call HR.out HWk.out.mem hG3)
                replace HOw := Aside0.mk (HOw.out.call HWk.out.mem hG3 hFr)
                replace HWk := Aside0.mk (HWk.out.call hM3 hG3 hFr)
                have hlist := list_calls b2 ws2 _ hbS w7 hbw (HT0.out.below HWk.out.mem.below)
                clear hcall hb0 hbw hbS hM3 hG3 hnF hFr
                go_wp2_with fail
                refine hlist.mono ?_
                rintro e w8 ⟨v4, rfl, hR4, hB4⟩
                dsimp only
                obtain ⟨L, hL⟩ : ∃ L, L = upto (meets l s m x) (s.size + 1) := ⟨_, rfl⟩
                rw [upto_big (n := s.size + 1) (fun y hy => by have := HFw.out x y HXs.out hy; omega) (by have := HS.out; omega), ← hL] at hR4
                rw [← hL] at HStep
                have HLb : Aside0 (L.length ≤ 501 ∧ ∀ y, y ∈ L → y ≤ s.size) := ⟨by rw [hL]; have := upto_len (meets l s m x) (s.size + 1); have := HS.out; omega, fun y hy => by rw [hL] at hy; have := (mem_upto.mp hy).1; omega⟩
                obtain ⟨inner, hown⟩ := Kd.R_own HR.out
                have hR5 := Kd.R_mono (Kd.R_new hR4 hown) (fun k hk => hk.2)
                obtain ⟨A6, c6, rfl, hl6, hC6⟩ := Kd.R_reads hR4
                rw [nats_len L] at hR5 hl6 ⊢
                have HL5 := Aside0.mk hR5
                replace HR := Aside0.mk (Kd.R_below HR.out hB4)
                replace HOw := Aside0.mk (HOw.out.move HWk.out.mem hB4)
                replace HWk := Aside0.mk (HWk.out.move hB4)
                obtain ⟨bl, hbl⟩ : ∃ bl, bl = w7.heap.size := ⟨_, rfl⟩
                rw [← hbl] at HL5
                clear hlist hL hR4 hR5 hB4 hl6 hC6 hown hbl
                go_wp2_with fail
                go_loopg [22, 87] L.length (fun g2 v22 v87 wr2 => ∃ (p : Nat) (vs : Nat → Nat), v87 = .int .i64 p ∧ p ≤ L.length ∧ L.length - p ≤ g2 ∧ Aside0 (Work l s (some ad) c0 Bm Bf w0 w n i (w1.heap.size + 1) ⟨5, f1, f2, [(m : Int)]⟩ (some ad3) c3 wr2) ∧ Aside0 (Own Bf w w1.heap.size (fun y => y ∈ ext Q (L.take p)) vs wr2) ∧ Aside0 (Kd.R (Kd.int .i64) 3 wr2 w.heap.size (fun _ => True) v22 (nats (ext Q (L.take p)))) ∧ Aside0 (Kd.R (Kd.int .i64) 3 wr2 bl (fun k => some k ≠ v22.ownBlock) (.slice A6 L.length c6) (nats L)) ∧ Aside0 ((ext Q (L.take p)).length ≤ 501 + p))
                case atStart => exact ⟨0, ws, rfl, by omega, by omega, HWk, HOw, HR, HL5, HQ5⟩
                case round =>
                  clear HWk HOw HR HL5
                  obtain ⟨p, vs, rfl, hp, hg2, HWk, HOw, HR, HL5, HEl⟩ := hrel
                  by_cases hpl : p < L.length
                  · have hpl0 : (p : Int) < (L.length : Int) := by omega
                    have HPl := Aside0.mk hpl
                    obtain ⟨ad6, e6, hcp⟩ := row_get (row_true HL5.out) p (by rw [nats_len]; exact hpl)
                    subst e6
                    rw [nats_get L p hpl] at hcp
                    have hext := ext_take Q L p hpl
                    have hmem := (take_next L p hpl).2
                    generalize L.getD p 0 = z at hcp hext hmem
                    have hzl := HLb.out.2 z hmem
                    have hcall := add_calls w1.heap.size z (by have := HS.out; omega) _ _ HOw.out.set wr HOw.out.obj
                    have HExt := Aside0.mk hext
                    have hpi : (p : Int) + 1 ≤ 513 := by have := HLb.out.1; omega
                    clear hext hmem hzl
                    go_wp2_with fail
                    refine hcall.mono ?_
                    rintro e w' ⟨r, rfl, hr, ws', hS', hw', hg', -⟩
                    dsimp only
                    have hF := HOw.out.free.same (hg'.block _ (map_lt HWk.out.mem) (fun e => map_ne HWk.out.mem HOw.out.obj (Option.some.inj e).symm))
                    have HW' := Aside0.mk (HWk.out.set HOw.out hg')
                    have HR' := Aside0.mk (row_grown2 HR.out HOw.out.obj hg')
                    have HL' := Aside0.mk (row_grown2 HL5.out HOw.out.obj hg')
                    have HO' : Aside0 (Own Bf w w1.heap.size (fun y => y ∈ ext Q (L.take (p + 1))) ws' w') := ⟨⟨HOw.out.lo, hw', hF, hS'.congr fun y _ => by
                      rw [HExt.out]
                      split
                      · rename_i h
                        constructor
                        · rintro (h1 | h1)
                          · exact h1
                          · rw [h1]; exact h
                        · exact .inl
                      · simp⟩⟩
                    clear hS' hw' hg' hF hcp hcall HWk HOw HR HL5
                    cases r with
                    | false =>
                      have hin : z ∈ ext Q (L.take p) := Classical.byContradiction fun h => absurd (hr.mpr h) (by decide)
                      have HE : Aside0 (ext Q (L.take (p + 1)) = ext Q (L.take p)) := ⟨by rw [HExt.out, if_pos hin]⟩
                      clear hr hin
                      go_wp2_with fail
                      go_roundg (L.length - (p + 1))
                      case measure => have := HPl.out; omega
                      case rel => exact ⟨p + 1, _, by go_num, HPl.out, Nat.le_refl _, HW', HO', ⟨by rw [HE.out]; exact HR'.out⟩, HL', ⟨by rw [HE.out]; have := HEl.out; omega⟩⟩
                    | true =>
                      have hout := hr.mp rfl
                      have HE : Aside0 (ext Q (L.take (p + 1)) = ext Q (L.take p) ++ [z]) := ⟨by rw [HExt.out, if_neg hout]⟩
                      have HLN : Aside0 ((nats (ext Q (L.take p))).length < 17592186044415) := ⟨by rw [nats_len]; have := HEl.out; have := HPl.out; have := HLb.out.1; omega⟩
                      have HBsz : Aside0 (w.heap.size ≤ w'.heap.size) := ⟨HW'.out.grown.size⟩
                      clear hr hout
                      go_wp2_with (first | ((with_reducible refine gate_builtin (b := .append) (xs := #[.tmp 94, .tmp 96]) rfl ?_); at_builtin; refine Kd.R_append (Kd.int .i64) (w0 := w') w.heap.size rfl (.tmp 94) (.tmp 96) 31 3 (.int .i64 0) 8 rfl Tryd.underlying31 info3 rfl (by decide) (by omega) _ (nats (ext Q (L.take p))) (z : Int) [.int .i64 (z : Int)] (fun _ => True) (fun _ => False) rfl rfl ?aP (fun _ hk => hk.elim) (fun _ _ => trivial) ?aO ?aB ?aS ?aL ?_; (case aP => exact rfl); (case aO => exact HR'.out); (case aB => exact Below.refl _ _); (case aS => exact HBsz.out); (case aL => have := HLN.out; omega); intro v159 w24 ho hb hg hat; rw [← nats_snoc] at ho; have HO2 := Aside0.mk ho; have HG2 := Aside0.mk hg; have HA2 := Aside0.mk hat; clear ho hb hg hat))
                      have HWn := Aside0.mk (HW'.out.row HR'.out (Nat.le_refl _) HG2.out)
                      have HOn := Aside0.mk (HO'.out.row HW'.out.mem HR'.out HG2.out)
                      have HLn := Aside0.mk (row_row HL'.out HG2.out HA2.out)
                      go_wp2_with fail
                      go_roundg (L.length - (p + 1))
                      case measure => have := HPl.out; omega
                      case rel => exact ⟨p + 1, _, by go_num, HPl.out, Nat.le_refl _, HWn, HOn, ⟨by rw [HE.out]; exact HO2.out⟩, HLn, ⟨by rw [HE.out, List.length_append, List.length_singleton]; have := HEl.out; omega⟩⟩
                  · obtain rfl : p = L.length := by omega
                    have hpl0 : ¬ (L.length : Int) < (L.length : Int) := by omega
                    have HOn : Aside0 (Own Bf w w1.heap.size (fun y => y ∈ ext Q L) vs wr) := ⟨⟨HOw.out.lo, HOw.out.obj, HOw.out.free, HOw.out.set.congr fun y _ => by rw [List.take_length]⟩⟩
                    have HRn : Aside0 (Kd.R (Kd.int .i64) 3 wr w.heap.size (fun _ => True) u22 (nats (ext Q L))) := ⟨by have h := HR.out; rw [List.take_length] at h; exact h⟩
                    have HLe : Aside0 (i' + 1 ≤ (ext Q L).length) := ⟨by
                      obtain ⟨m', hm'⟩ := ext_head L Q
                      rw [hm', List.length_append]
                      have := HLt.out
                      omega⟩
                    have hii : (i' : Int) + 1 ≤ 513 := by have := HLt.out; have := HQ5.out; omega
                    clear HOw HR
                    go_wp2_with fail
                    go_roundg (513 - (i' + 1))
                    case measure => have := HLt.out; have := HQ5.out; omega
                    case rel => exact ⟨i' + 1, _, _, by go_num, Nat.le_refl _, HLe.out, HStep, HWk, HOn, HRn⟩
              · obtain rfl : i' = Q.length := by omega
                have hlt0 : ¬ (Q.length : Int) < (Q.length : Int) := by omega
                have HDone := Aside0.mk (fun y => HQ.out.done y)
                have HO5 : Aside0 (Own Bf w w1.heap.size (fun y => Plus (meets l s m) i y) ws wr) := ⟨⟨HOw.out.lo, HOw.out.obj, HOw.out.free, HOw.out.set.congr fun y _ => HDone.out y⟩⟩
                clear HOw
                have hcall := add_calls w1.heap.size i (by have := HI.out; have := HS.out; omega) _ _ HO5.out.set wr HO5.out.obj
                go_wp2_with fail
                refine hcall.mono ?_
                rintro e w' ⟨r, rfl, _, ws', hS', hw', hg', -⟩
                dsimp only
                have hF := HO5.out.free.same (hg'.block _ (map_lt HWk.out.mem) (fun e => map_ne HWk.out.mem HO5.out.obj (Option.some.inj e).symm))
                have HW' := Aside0.mk (HWk.out.set HO5.out hg')
                have HO' : Aside0 (Own Bf w w1.heap.size (meets l s n i) ws' w') := ⟨⟨HO5.out.lo, hw', hF, hS'.congr fun y _ => (HS2.out y).symm⟩⟩
                clear hS' hw' hg' hF
                go_wp2_with fail
                go_meet
                exact ⟨_, ws', rfl, HW', HO'⟩
      · as_aux_lemma =>
        have HOne := HOk.out.one n HN.out (by rw [HXE.out]; show (5 : Int) ≤ 6; decide)
        have HKid := HOk.out.kid n HN.out
        rw [HXE.out] at HOne HKid
        obtain ⟨k1, hk1⟩ := HOne
        have hk1 : f3 = [k1] := hk1
        subst hk1
        have hz := HKid k1 (by simp)
        obtain ⟨m, rfl⟩ : ∃ m : Nat, k1 = (m : Int) := ⟨k1.toNat, by omega⟩
        have HMn : Aside0 (m < n) := ⟨by omega⟩
        clear hz HKid
        have HFw : Aside0 (Fwd (meets l s m) s.size) := ⟨meets_fwd HOk.out s m (by have := HN.out; have := HMn.out; omega)⟩
        have HS2 : Aside0 (∀ j, meets l s n i j ↔ Plus (meets l s m) i j) := ⟨fun j => by
          rw [HMeet.out, if_neg (by decide), if_neg (by decide), if_neg (by decide), if_neg (by decide), if_pos rfl]
          show Plus (meets l s ((m : Int)).toNat) i j ↔ _
          rw [Int.toNat_natCast]⟩
        have HT0 := Aside0.mk HBase.out.tabs
        obtain ⟨ad3, c, e0, _, hK, hcell⟩ := Kd.C_get (Kd.C_below HRK.out HWk.out.mem.below) (0 : Int) 0 (by omega) (by simp)
        subst e0
        have hK : c = [.int .i64 (([(m : Int)] : List Int).getD ((0 : Int)).toNat 0)] := hK
        subst hK
        have hce := hcell 0 _ rfl
        have hce2 : w2.cell? ad3 = some (.int .i64 m) := by simpa [Kd.int, Kd.scalar, Addr.add] using hce
        replace hce : w2.cell? (ad3.add 0) = some (.int .i64 m) := by simpa [Kd.int, Kd.scalar] using hce
        clear hcell
        have hcall := HIH.out m HMn.out i HI.out w2 HWk.out.mem
        go_wp2_with fail
        refine hcall.mono ?_
        rintro e w3 ⟨b2, ws2, rfl, hb0, hbw, hbS, hM3, hG3, hnF, hFr⟩
        dsimp only
        have HOw3 := Aside0.mk (HOw.out.call HWk.out.mem hG3 hFr)
        have HWk3 := Aside0.mk (HWk.out.call hM3 hG3 hFr)
        have hlist := list_calls b2 ws2 _ hbS w3 hbw (HT0.out.below HWk3.out.mem.below)
        clear hcall hb0 hbw hbS hM3 hG3 hnF hFr HOw HWk hce hce2 hn0 hn1 hn2 hn3 hm0 hm1 hm2
        go_wp2_with fail
        refine hlist.mono ?_
        rintro e w4 ⟨v4, rfl, hR4, hB4⟩
        dsimp only
        obtain ⟨Q0, hQ0⟩ : ∃ Q0, Q0 = upto (meets l s m i) (s.size + 1) := ⟨_, rfl⟩
        rw [upto_big (n := s.size + 1) (fun y hy => by have := HFw.out i y HI.out hy; omega) (by have := HS.out; omega), ← hQ0] at hR4
        have HQ0 : Aside0 (Re.Queue (meets l s m) i (s.size + 1) Q0 0) := ⟨by rw [hQ0]; exact Queue.start fun y hy => by have := HFw.out i y HI.out hy; omega⟩
        have HQl : Aside0 (Q0.length ≤ 501) := ⟨by have := HQ0.out.len; have := HS.out; omega⟩
        obtain ⟨A4, c4, rfl, hl4, hC4⟩ := Kd.R_reads hR4
        rw [nats_len] at hR4 hl4 ⊢
        have HR4 := Aside0.mk hR4
        have HOw4 := Aside0.mk (HOw3.out.move HWk3.out.mem hB4)
        have HWk4 := Aside0.mk (HWk3.out.move hB4)
        replace HR4 := Aside0.mk (Kd.R_lower HR4.out HWk3.out.grown.size)
        clear hlist hQ0 hR4 hB4 hl4 hC4 HWk3 HOw3
        go_wp2_with fail
        go_loopg [61] Q0.length (fun g2 v61 wr2 => ∃ (p : Nat) (vs : Nat → Nat), v61 = .int .i64 p ∧ p ≤ Q0.length ∧ Q0.length - p ≤ g2 ∧ Aside0 (Work l s (some ad) c0 Bm Bf w0 w n i (w1.heap.size + 1) ⟨6, f1, f2, [(m : Int)]⟩ (some ad3) c3 wr2) ∧ Aside0 (Own Bf w w1.heap.size (fun y => y ∈ Q0.take p) vs wr2) ∧ Aside0 (Kd.R (Kd.int .i64) 3 wr2 w.heap.size (fun _ => True) (.slice A4 Q0.length c4) (nats Q0)))
        case atStart => exact ⟨0, _, rfl, by omega, by omega, HWk4, ⟨⟨HOw4.out.lo, HOw4.out.obj, HOw4.out.free, HOw4.out.set.congr fun y _ => by simp⟩⟩, HR4⟩
        case round =>
          clear HWk4 HOw4 HR4
          obtain ⟨p, vs, rfl, hp, hg2, HWk, HOw, HR4⟩ := hrel
          by_cases hpl : p < Q0.length
          · have hpl0 : (p : Int) < (Q0.length : Int) := by omega
            have HPl := Aside0.mk hpl
            obtain ⟨ad4, e4, hcp⟩ := row_get HR4.out p (by rw [nats_len]; exact hpl)
            subst e4
            rw [nats_get Q0 p hpl] at hcp
            obtain ⟨htk, hmem⟩ := take_next Q0 p hpl
            generalize Q0.getD p 0 = x at hcp htk hmem
            have hxl := HQ0.out.lt x hmem
            have hcall := add_calls w1.heap.size x (by have := HS.out; omega) _ _ HOw.out.set wr HOw.out.obj
            have HTk := Aside0.mk htk
            clear htk hmem hxl
            go_wp2_with fail
            refine hcall.mono ?_
            rintro e w' ⟨r, rfl, _, ws', hS', hw', hg', -⟩
            dsimp only
            have hF := HOw.out.free.same (hg'.block _ (map_lt HWk.out.mem) (fun e => map_ne HWk.out.mem HOw.out.obj (Option.some.inj e).symm))
            have HW' := Aside0.mk (HWk.out.set HOw.out hg')
            have HR' := Aside0.mk (row_grown2 HR4.out HOw.out.obj hg')
            have HO' : Aside0 (Own Bf w w1.heap.size (fun y => y ∈ Q0.take (p + 1)) ws' w') := ⟨⟨HOw.out.lo, hw', hF, hS'.congr fun y _ => by rw [HTk.out]; simp⟩⟩
            have hpi : (p : Int) + 1 ≤ 513 := by have := HPl.out; have := HQl.out; omega
            clear hS' hw' hg' hF hcp hcall
            go_wp2_with fail
            go_roundg (Q0.length - (p + 1))
            case measure => have := HPl.out; omega
            case rel => exact ⟨p + 1, _, by go_num, HPl.out, Nat.le_refl _, HW', HO', HR'⟩
          · obtain rfl : p = Q0.length := by omega
            have hpl0 : ¬ (Q0.length : Int) < (Q0.length : Int) := by omega
            have HOw5 : Aside0 (Own Bf w w1.heap.size (fun y => y ∈ Q0) vs wr) := ⟨⟨HOw.out.lo, HOw.out.obj, HOw.out.free, HOw.out.set.congr fun y _ => by rw [List.take_length]⟩⟩
            clear HOw
            go_wp2_with fail
            go_loopg [22, 25] 513 (fun gg v22 v25 wr => ∃ (i' : Nat) (Q : List Nat) (ws : Nat → Nat), v25 = .int .i64 i' ∧ 513 - i' ≤ gg ∧ i' ≤ Q.length ∧ Aside0 (Re.Queue (meets l s m) i (s.size + 1) Q i') ∧ Aside0 (Work l s (some ad) c0 Bm Bf w0 w n i (w1.heap.size + 1) ⟨6, f1, f2, [(m : Int)]⟩ (some ad3) c3 wr) ∧ Aside0 (Own Bf w w1.heap.size (fun y => y ∈ Q) ws wr) ∧ Aside0 (Kd.R (Kd.int .i64) 3 wr w.heap.size (fun _ => True) v22 (nats Q)))
            case atStart => exact ⟨0, Q0, vs, rfl, by omega, by omega, HQ0, HWk, HOw5, HR4⟩
            case round =>
              clear HWk HOw5 HR4 HQ0
              obtain ⟨i', Q, ws, rfl, hg, hi', HQ, HWk, HOw, HR⟩ := hrel
              obtain ⟨A5, c5, hv, _, _⟩ := Kd.R_reads HR.out
              rw [nats_len] at hv
              subst hv
              have HQ5 : Aside0 (Q.length ≤ 501) := ⟨by have := HQ.out.len; have := HS.out; omega⟩
              have hcl := HWk.out.loc
              have hn3 : wr.cell? ⟨w1.heap.size + 1, 3, none⟩ = some (.slice (some ad3) 1 c3) := by simp [World.cell?, hcl]
              have hn0 : wr.cell? ⟨w1.heap.size + 1, 0, none⟩ = some (.int .i64 6) := by simp [World.cell?, hcl]
              clear hcl
              by_cases hlt : i' < Q.length
              · have hlt0 : (i' : Int) < (Q.length : Int) := by omega
                have HLt := Aside0.mk hlt
                obtain ⟨ad5, e5, hcq⟩ := row_get HR.out i' (by rw [nats_len]; exact hlt)
                subst e5
                rw [nats_get Q i' hlt] at hcq
                have HStep := Aside0.mk (HQ.out.step hlt (fun q x hq hx => by have := HFw.out q x (by omega) hx; omega))
                have hmem := (take_next Q i' hlt).2
                generalize Q.getD i' 0 = x at hcq HStep hmem
                have HXs : Aside0 (x ≤ s.size) := ⟨by have := HQ.out.lt x hmem; omega⟩
                obtain ⟨ad3', cc, e0, _, hK, hcell⟩ := Kd.C_get (Kd.C_below HRK.out HWk.out.mem.below) (0 : Int) 0 (by omega) (by simp)
                obtain rfl : ad3 = ad3' := Option.some.inj e0
                have hK : cc = [.int .i64 (([(m : Int)] : List Int).getD ((0 : Int)).toNat 0)] := hK
                subst hK
                have hce := hcell 0 _ rfl
                replace hce : wr.cell? ad3 = some (.int .i64 m) := by simpa [Kd.int, Kd.scalar, Addr.add] using hce
                clear hcell e0 hmem
                go_upto_region 16 with fail
                refine wp_region_aside_at (v := .int .i64 0) 9 12 (by kernel_rfl) rfl (by kernel_rfl) (by kernel_rfl) (by kernel_rfl) (fun _ _ _ h => h) (Or.inl ⟨by rfl, fun w => ?_⟩) (by kernel_rfl) (by kernel_rfl) ?_
                · first | rfl | (go_simp; done)
                simp only [List.take_succ_cons, List.take_zero, List.drop_succ_cons, List.drop_zero]
                repeat still_step
                try refine wpStill_nil ?_
                change wpList _ _ _ _ _ wr.drew
                have hdr : Below wr.heap.size wr wr.drew := (Below.refl _ _).drew
                replace HOw := Aside0.mk (HOw.out.move HWk.out.mem hdr)
                replace HWk := Aside0.mk (HWk.out.move hdr)
                replace HR := Aside0.mk (Kd.R_below HR.out hdr)
                clear hdr hce hcq hn3 hn0
                generalize wr.drew = w6 at *
                have hcall := HIH.out m HMn.out x HXs.out w6 HWk.out.mem
                go_wp2_with fail
                refine hcall.mono ?_
                rintro e w7 ⟨b2, ws2, rfl, hb0, hbw, hbS, hM3, hG3, hnF, hFr⟩
                dsimp only
                replace HR := Aside0.mk (row_call HR.out HWk.out.mem hG3)
                replace HOw := Aside0.mk (HOw.out.call HWk.out.mem hG3 hFr)
                replace HWk := Aside0.mk (HWk.out.call hM3 hG3 hFr)
                have hlist := list_calls b2 ws2 _ hbS w7 hbw (HT0.out.below HWk.out.mem.below)
                clear hcall hb0 hbw hbS hM3 hG3 hnF hFr
                go_wp2_with fail
                refine hlist.mono ?_
                rintro e w8 ⟨v4, rfl, hR4, hB4⟩
                dsimp only
                obtain ⟨L, hL⟩ : ∃ L, L = upto (meets l s m x) (s.size + 1) := ⟨_, rfl⟩
                rw [upto_big (n := s.size + 1) (fun y hy => by have := HFw.out x y HXs.out hy; omega) (by have := HS.out; omega), ← hL] at hR4
                rw [← hL] at HStep
                have HLb : Aside0 (L.length ≤ 501 ∧ ∀ y, y ∈ L → y ≤ s.size) := ⟨by rw [hL]; have := upto_len (meets l s m x) (s.size + 1); have := HS.out; omega, fun y hy => by rw [hL] at hy; have := (mem_upto.mp hy).1; omega⟩
                obtain ⟨inner, hown⟩ := Kd.R_own HR.out
                have hR5 := Kd.R_mono (Kd.R_new hR4 hown) (fun k hk => hk.2)
                obtain ⟨A6, c6, rfl, hl6, hC6⟩ := Kd.R_reads hR4
                rw [nats_len L] at hR5 hl6 ⊢
                have HL5 := Aside0.mk hR5
                replace HR := Aside0.mk (Kd.R_below HR.out hB4)
                replace HOw := Aside0.mk (HOw.out.move HWk.out.mem hB4)
                replace HWk := Aside0.mk (HWk.out.move hB4)
                obtain ⟨bl, hbl⟩ : ∃ bl, bl = w7.heap.size := ⟨_, rfl⟩
                rw [← hbl] at HL5
                clear hlist hL hR4 hR5 hB4 hl6 hC6 hown hbl
                go_wp2_with fail
                go_loopg [22, 87] L.length (fun g2 v22 v87 wr2 => ∃ (p : Nat) (vs : Nat → Nat), v87 = .int .i64 p ∧ p ≤ L.length ∧ L.length - p ≤ g2 ∧ Aside0 (Work l s (some ad) c0 Bm Bf w0 w n i (w1.heap.size + 1) ⟨6, f1, f2, [(m : Int)]⟩ (some ad3) c3 wr2) ∧ Aside0 (Own Bf w w1.heap.size (fun y => y ∈ ext Q (L.take p)) vs wr2) ∧ Aside0 (Kd.R (Kd.int .i64) 3 wr2 w.heap.size (fun _ => True) v22 (nats (ext Q (L.take p)))) ∧ Aside0 (Kd.R (Kd.int .i64) 3 wr2 bl (fun k => some k ≠ v22.ownBlock) (.slice A6 L.length c6) (nats L)) ∧ Aside0 ((ext Q (L.take p)).length ≤ 501 + p))
                case atStart => exact ⟨0, ws, rfl, by omega, by omega, HWk, HOw, HR, HL5, HQ5⟩
                case round =>
                  clear HWk HOw HR HL5
                  obtain ⟨p, vs, rfl, hp, hg2, HWk, HOw, HR, HL5, HEl⟩ := hrel
                  by_cases hpl : p < L.length
                  · have hpl0 : (p : Int) < (L.length : Int) := by omega
                    have HPl := Aside0.mk hpl
                    obtain ⟨ad6, e6, hcp⟩ := row_get (row_true HL5.out) p (by rw [nats_len]; exact hpl)
                    subst e6
                    rw [nats_get L p hpl] at hcp
                    have hext := ext_take Q L p hpl
                    have hmem := (take_next L p hpl).2
                    generalize L.getD p 0 = z at hcp hext hmem
                    have hzl := HLb.out.2 z hmem
                    have hcall := add_calls w1.heap.size z (by have := HS.out; omega) _ _ HOw.out.set wr HOw.out.obj
                    have HExt := Aside0.mk hext
                    have hpi : (p : Int) + 1 ≤ 513 := by have := HLb.out.1; omega
                    clear hext hmem hzl
                    go_wp2_with fail
                    refine hcall.mono ?_
                    rintro e w' ⟨r, rfl, hr, ws', hS', hw', hg', -⟩
                    dsimp only
                    have hF := HOw.out.free.same (hg'.block _ (map_lt HWk.out.mem) (fun e => map_ne HWk.out.mem HOw.out.obj (Option.some.inj e).symm))
                    have HW' := Aside0.mk (HWk.out.set HOw.out hg')
                    have HR' := Aside0.mk (row_grown2 HR.out HOw.out.obj hg')
                    have HL' := Aside0.mk (row_grown2 HL5.out HOw.out.obj hg')
                    have HO' : Aside0 (Own Bf w w1.heap.size (fun y => y ∈ ext Q (L.take (p + 1))) ws' w') := ⟨⟨HOw.out.lo, hw', hF, hS'.congr fun y _ => by
                      rw [HExt.out]
                      split
                      · rename_i h
                        constructor
                        · rintro (h1 | h1)
                          · exact h1
                          · rw [h1]; exact h
                        · exact .inl
                      · simp⟩⟩
                    clear hS' hw' hg' hF hcp hcall HWk HOw HR HL5
                    cases r with
                    | false =>
                      have hin : z ∈ ext Q (L.take p) := Classical.byContradiction fun h => absurd (hr.mpr h) (by decide)
                      have HE : Aside0 (ext Q (L.take (p + 1)) = ext Q (L.take p)) := ⟨by rw [HExt.out, if_pos hin]⟩
                      clear hr hin
                      go_wp2_with fail
                      go_roundg (L.length - (p + 1))
                      case measure => have := HPl.out; omega
                      case rel => exact ⟨p + 1, _, by go_num, HPl.out, Nat.le_refl _, HW', HO', ⟨by rw [HE.out]; exact HR'.out⟩, HL', ⟨by rw [HE.out]; have := HEl.out; omega⟩⟩
                    | true =>
                      have hout := hr.mp rfl
                      have HE : Aside0 (ext Q (L.take (p + 1)) = ext Q (L.take p) ++ [z]) := ⟨by rw [HExt.out, if_neg hout]⟩
                      have HLN : Aside0 ((nats (ext Q (L.take p))).length < 17592186044415) := ⟨by rw [nats_len]; have := HEl.out; have := HPl.out; have := HLb.out.1; omega⟩
                      have HBsz : Aside0 (w.heap.size ≤ w'.heap.size) := ⟨HW'.out.grown.size⟩
                      clear hr hout
                      go_wp2_with (first | ((with_reducible refine gate_builtin (b := .append) (xs := #[.tmp 94, .tmp 96]) rfl ?_); at_builtin; refine Kd.R_append (Kd.int .i64) (w0 := w') w.heap.size rfl (.tmp 94) (.tmp 96) 31 3 (.int .i64 0) 8 rfl Tryd.underlying31 info3 rfl (by decide) (by omega) _ (nats (ext Q (L.take p))) (z : Int) [.int .i64 (z : Int)] (fun _ => True) (fun _ => False) rfl rfl ?aP (fun _ hk => hk.elim) (fun _ _ => trivial) ?aO ?aB ?aS ?aL ?_; (case aP => exact rfl); (case aO => exact HR'.out); (case aB => exact Below.refl _ _); (case aS => exact HBsz.out); (case aL => have := HLN.out; omega); intro v159 w24 ho hb hg hat; rw [← nats_snoc] at ho; have HO2 := Aside0.mk ho; have HG2 := Aside0.mk hg; have HA2 := Aside0.mk hat; clear ho hb hg hat))
                      have HWn := Aside0.mk (HW'.out.row HR'.out (Nat.le_refl _) HG2.out)
                      have HOn := Aside0.mk (HO'.out.row HW'.out.mem HR'.out HG2.out)
                      have HLn := Aside0.mk (row_row HL'.out HG2.out HA2.out)
                      go_wp2_with fail
                      go_roundg (L.length - (p + 1))
                      case measure => have := HPl.out; omega
                      case rel => exact ⟨p + 1, _, by go_num, HPl.out, Nat.le_refl _, HWn, HOn, ⟨by rw [HE.out]; exact HO2.out⟩, HLn, ⟨by rw [HE.out, List.length_append, List.length_singleton]; have := HEl.out; omega⟩⟩
                  · obtain rfl : p = L.length := by omega
                    have hpl0 : ¬ (L.length : Int) < (L.length : Int) := by omega
                    have HOn : Aside0 (Own Bf w w1.heap.size (fun y => y ∈ ext Q L) vs wr) := ⟨⟨HOw.out.lo, HOw.out.obj, HOw.out.free, HOw.out.set.congr fun y _ => by rw [List.take_length]⟩⟩
                    have HRn : Aside0 (Kd.R (Kd.int .i64) 3 wr w.heap.size (fun _ => True) u22 (nats (ext Q L))) := ⟨by have h := HR.out; rw [List.take_length] at h; exact h⟩
                    have HLe : Aside0 (i' + 1 ≤ (ext Q L).length) := ⟨by
                      obtain ⟨m', hm'⟩ := ext_head L Q
                      rw [hm', List.length_append]
                      have := HLt.out
                      omega⟩
                    have hii : (i' : Int) + 1 ≤ 513 := by have := HLt.out; have := HQ5.out; omega
                    clear HOw HR
                    go_wp2_with fail
                    go_roundg (513 - (i' + 1))
                    case measure => have := HLt.out; have := HQ5.out; omega
                    case rel => exact ⟨i' + 1, _, _, by go_num, Nat.le_refl _, HLe.out, HStep, HWk, HOn, HRn⟩
              · obtain rfl : i' = Q.length := by omega
                have hlt0 : ¬ (Q.length : Int) < (Q.length : Int) := by omega
                have HDone := Aside0.mk (fun y => HQ.out.done y)
                have HO5 : Aside0 (Own Bf w w1.heap.size (fun y => Plus (meets l s m) i y) ws wr) := ⟨⟨HOw.out.lo, HOw.out.obj, HOw.out.free, HOw.out.set.congr fun y _ => HDone.out y⟩⟩
                clear HOw
                have HO' : Aside0 (Own Bf w w1.heap.size (meets l s n i) ws wr) := ⟨⟨HO5.out.lo, HO5.out.obj, HO5.out.free, HO5.out.set.congr fun y _ => (HS2.out y).symm⟩⟩
                go_wp2_with fail
                go_meet
                exact ⟨_, ws, rfl, HWk, HO'⟩
    case rest =>
      obtain ⟨b, ws, rfl, HWc, HOc⟩ := hcut
      have hkc := HWc.out.key
      have hkc0 : wc.cell? ⟨w.heap.size, 0, none⟩ = some (.int .i64 n) := by simp [World.cell?, hkc]
      have hkc1 : wc.cell? ⟨w.heap.size, 1, none⟩ = some (.int .i64 i) := by simp [World.cell?, hkc]
      obtain ⟨hm0, hm1, hm2⟩ := HWc.out.mem.cell
      have hdr : Below wc.heap.size wc wc.drew := (Below.refl _ _).drew
      replace HOc : Aside0 (Own Bf w b (meets l s n i) ws wc.drew) := ⟨HOc.out.move HWc.out.mem hdr⟩
      replace HWc : Aside0 (Work l s (some ad) c0 Bm Bf w0 w n i (w1.heap.size + 1) x A3 c3 wc.drew) := ⟨HWc.out.move hdr⟩
      obtain ⟨o, hst, hM3, hG3, hZ3, hN3, hF3⟩ := HWc.out.mem.map.store (by have := HL.out; omega) (by have := HS.out; omega) HN.out HI.out (Nat.le_trans HWc.out.lo HOc.out.lo) HOc.out.obj HOc.out.set
      have hb3 := hG3.block b (Array.getElem?_eq_some_iff.mp HOc.out.obj).1 (fun e => map_ne HWc.out.mem HOc.out.obj (Option.some.inj e))
      have hbm3 := hG3.block Bm (Array.getElem?_eq_some_iff.mp HWc.out.mem.obj).1 (fun e => map_ne HWc.out.mem HWc.out.mem.obj (Option.some.inj e))
      unfold pkey at hst
      generalize setBlock wc.drew Bf o = w3 at hst hM3 hG3 hZ3 hN3 hF3 hb3 hbm3
      have HRes : Aside0 (w0.heap.size ≤ b ∧ w3.heap[b]? = some (wobj ws) ∧ IsSet ws (meets l s n i) ∧ Mem l s (some ad) c0 Bm Bf w0 w3 ∧ w.grownBy w3 (some Bf) ∧ ¬ Free Bf b w3 ∧ ∀ r, r < w.heap.size → Free Bf r w → Free Bf r w3) := ⟨⟨Nat.le_trans HWc.out.lo HOc.out.lo, hb3.trans HOc.out.obj, HOc.out.set, {
        below := HWc.out.mem.below.grown hG3 HWc.out.mem.below.size (fun k e => by rw [← Option.some.inj e]; exact HWc.out.mem.bf)
        bm := HWc.out.mem.bm
        bf := HWc.out.mem.bf
        obj := hbm3.trans HWc.out.mem.obj
        map := hM3 }, HWc.out.grown.trans hG3, hN3, fun r hr hf => hF3 r (by have := HOc.out.lo; omega) (HWc.out.free r hr hf)⟩⟩
      clear hM3 hG3 hZ3 hN3 hF3 hb3 hbm3 hkc hdr hk0 hk1 hc0 hc1 hc2 hx0 hx1 hx2 hx3 hlook
      go_wp2_with fail
      go_region
      go_wp2_with fail
      go_ret
      exact ⟨b, ws, rfl, HRes.out.1, HRes.out.2.1, HRes.out.2.2.1, HRes.out.2.2.2.1, HRes.out.2.2.2.2.1, HRes.out.2.2.2.2.2.1, HRes.out.2.2.2.2.2.2⟩
  · have HF : Aside0 (w0.heap.size ≤ b ∧ w1.heap[b]? = some (wobj ws) ∧ IsSet ws (meets l s n i) ∧ ¬ Free Bf b w1) := ⟨⟨hb0, hbw, hbS, hbF⟩⟩
    clear hb0 hbw hbS hbF
    go_quiet (fail)
    go_wp2_with fail
    go_ret
    exact ⟨b, ws, rfl, HF.out.1, HF.out.2.1, HF.out.2.2.1, HM1.out.move ⟨rfl, rfl, rfl, Nat.le_refl _, fun _ _ => rfl⟩, ⟨HG1.out.os, HG1.out.tape, HG1.out.output, HG1.out.size, HG1.out.block⟩, HF.out.2.2.2, HF1.out⟩
end Go.Proofs.YtlakdfbfkbndiaaDoor.Q
namespace Go.Proofs.YtlakdfbfkbndiaaDoor.Q
open Go.RowKit Go.Proofs.YtlakdfbfkbndiaaDoor.Re Go.Proofs.YtlakdfbfkbndiaaDoorW.PrintWords Go.Proofs.YtlakdfbfkbndiaaDoorW.PrintLast Go.Proofs.YtlakdfbfkbndiaaDoorW.PrintMore
noncomputable def endsL (l : List S49) (s : ByteArray) (i : Nat) : List Nat := upto (meets l s (l.length - 1) i) (s.size + 1)
noncomputable def findV (l : List S49) (s : ByteArray) : Nat → Nat → Int × Int
  | 0, _ => (-1, 0)
  | d + 1, i => if (endsL l s i).length = 0 then findV l s d (i + 1) else ((i : Int), (((endsL l s i).getD ((endsL l s i).length - 1) 0 : Nat) : Int))
end Go.Proofs.YtlakdfbfkbndiaaDoor.Q
namespace Go.Proofs.YtlakdfbfkbndiaaDoor.Q
open Go.RowKit Go.Proofs.YtlakdfbfkbndiaaDoor.Re Go.Proofs.YtlakdfbfkbndiaaDoorW.PrintWords Go.Proofs.YtlakdfbfkbndiaaDoorW.PrintLast Go.Proofs.YtlakdfbfkbndiaaDoorW.PrintMore
section
variable {l : List S49} {s : ByteArray} {A0 : Option Addr} {c0 Bm Bf : Nat} {w0 : World}
theorem ends_calls (hB : Base l s A0 c0 w0) (n : Nat) : n < l.length → EndsAt l s A0 c0 Bm Bf w0 n := by
  induction n using Nat.strongRecOn with
  | _ n ih => exact fun hn => ends_step hB n hn fun m hm => ih m hm (by omega)
set_option maxRecDepth 100000 in
theorem at_calls (hB : Base l s A0 c0 w0) (i : Nat) (hi : i ≤ s.size) (w : World) (hM : Mem l s A0 c0 Bm Bf w0 w) :
    Calls Tryd.prog 45 #[.pointer (some ⟨Bm, 0, none⟩), .int .i64 i] w fun e w' => ∃ v, e = .returned v ∧ Kd.R (Kd.int .i64) 3 w' w.heap.size (fun _ => True) v (nats (endsL l s i)) ∧ Mem l s A0 c0 Bm Bf w0 w' ∧ w.grownBy w' (some Bf) := by
  have hcall := ends_calls (Bm := Bm) (Bf := Bf) hB (l.length - 1) (by have := hB.ok.pos; omega) i hi w hM
  have e1 : ((l.length - 1 : Nat) : Int) = (l.length : Int) - 1 := by have := hB.ok.pos; omega
  rw [e1] at hcall
  have h1 : (1 : Int) ≤ (l.length : Int) := by have := hB.ok.pos; omega
  have h2 : (l.length : Int) ≤ 200 := by have := hB.ok.len; omega
  obtain ⟨hm0, hm1, hm2⟩ := hM.cell
  have HB := Aside0.mk hB
  have HI := Aside0.mk hi
  clear hB hM hi e1
  go_enter Tryd.func45, Tryd.ntmps45
  go_wp2_with fail
  refine hcall.mono ?_
  rintro e w3 ⟨b2, ws2, rfl, hb0, hbw, hbS, hM3, hG3, hnF, hFr⟩
  dsimp only
  have hlist := list_calls b2 ws2 _ hbS w3 hbw (HB.out.tabs.below hM3.below)
  have HM3 := Aside0.mk hM3
  have HG3 := Aside0.mk hG3
  clear hcall hb0 hbw hbS hM3 hG3 hnF hFr
  go_wp2_with fail
  refine hlist.mono ?_
  rintro e w4 ⟨v4, rfl, hR4, hB4⟩
  dsimp only
  rw [upto_big (n := s.size + 1) (fun y hy => by have := meets_fwd HB.out.ok s (l.length - 1) (by have := HB.out.ok.pos; omega) i y HI.out hy; omega) (by have := HB.out.sz; omega)] at hR4
  have HR := Aside0.mk hR4
  have HM4 := Aside0.mk (HM3.out.move hB4)
  have HG4 : Aside0 (w.grownBy w4 (some Bf)) := ⟨HG3.out.trans ⟨hB4.os, hB4.tape, hB4.output, hB4.size, fun k hk _ => hB4.block k hk⟩⟩
  clear hlist hR4 hB4
  go_wp2_with fail
  go_ret
  exact ⟨v4, rfl, Kd.R_lower HR.out HG3.out.size, HM4.out, HG4.out⟩
end
end Go.Proofs.YtlakdfbfkbndiaaDoor.Q
namespace Go.Proofs.YtlakdfbfkbndiaaDoor.Q
open Go.RowKit Go.Proofs.YtlakdfbfkbndiaaDoor.Re Go.Proofs.YtlakdfbfkbndiaaDoorW.PrintWords Go.Proofs.YtlakdfbfkbndiaaDoorW.PrintLast Go.Proofs.YtlakdfbfkbndiaaDoorW.PrintMore
theorem MapOk.empty {D : Nat → Nat → Nat → Prop} {N L B0 Bf : Nat} {w : World} (h : w.heap[Bf]? = some (.map #[] 0)) : MapOk D N L B0 Bf w :=
  ⟨#[], 0, h, by simp, fun e he => by simp at he⟩
theorem heap_last (w : World) (o : Obj) : (w.alloc o).heap[w.heap.size]? = some o := by
  show (w.heap.push o)[w.heap.size]? = some o
  simp
set_option maxRecDepth 100000 in
theorem new_calls (l : List S49) (s : ByteArray) (A0 : Option Addr) (c0 : Nat) (w : World) (k : Nat) (b : Bool) (hr : Kd.C k49 w A0 l.length l) (hc : l.length ≤ c0) (hok : impl_ReOk.f k l = some b) :
    Calls Tryd.prog 41 #[.slice A0 l.length c0, .string s] w fun e w' =>
      Below w.heap.size w w' ∧ ((b = true ∧ s.size ≤ 500 ∧ ∃ Bm Bf, e = .returned (.pointer (some ⟨Bm, 0, none⟩)) ∧ Mem l s A0 c0 Bm Bf w w') ∨ (¬ (b = true ∧ s.size ≤ 500) ∧ e = .returned (.pointer none))) := by
  have hcall := impl_ReOk.calls k A0 c0 l b w hr hc hok
  have hmm := @run_makeMap Tryd.prog
  have HD := Aside0.mk (Below.refl w.heap.size w)
  cases b with
  | false =>
    go_enter Tryd.func41, Tryd.ntmps41
    go_wp2_with fail
    refine hcall.mono ?_
    rintro e w1 ⟨rfl, hb⟩
    dsimp only
    have HB := Aside0.mk hb
    clear hcall hb
    go_wp2_with fail
    go_ret
    exact ⟨HB.out, .inr ⟨by simp, rfl⟩⟩
  | true =>
    by_cases hs : s.size ≤ 500
    · have hs0 : ((500 : Int) < (s.size : Int)) = False := eq_false (by omega)
      go_enter Tryd.func41, Tryd.ntmps41
      go_wp2_with fail
      refine hcall.mono ?_
      rintro e w1 ⟨rfl, hb⟩
      dsimp only
      have HB := Aside0.mk hb
      clear hcall hb
      go_wp2_with fail
      go_ret
      have h1 : ((w1.alloc (.map #[] 0)).alloc (.cells #[.slice A0 l.length c0, .string s, .map (some w1.heap.size)] 90)).heap[w1.heap.size]? = some (.map #[] 0) := (Below.heap_alloc _ _ _ (by simp)).trans (heap_last w1 _)
      have h2 : ((w1.alloc (.map #[] 0)).alloc (.cells #[.slice A0 l.length c0, .string s, .map (some w1.heap.size)] 90)).heap[w1.heap.size + 1]? = some (.cells #[.slice A0 l.length c0, .string s, .map (some w1.heap.size)] 90 (0, 0)) := by
        have := heap_last (w1.alloc (.map #[] 0)) (.cells #[.slice A0 l.length c0, .string s, .map (some w1.heap.size)] 90)
        rwa [World.size_alloc] at this
      have hB2 := below_alloc (below_alloc HB.out (.map #[] 0)) (.cells #[.slice A0 l.length c0, .string s, .map (some w1.heap.size)] 90)
      exact ⟨hB2, .inl ⟨trivial, hs, w1.heap.size + 1, w1.heap.size, rfl, ⟨hB2, by have := HB.out.size; omega, HB.out.size, h2, MapOk.empty h1⟩⟩⟩
    · have hs0 : ((500 : Int) < (s.size : Int)) = True := eq_true (by omega)
      go_enter Tryd.func41, Tryd.ntmps41
      go_wp2_with fail
      refine hcall.mono ?_
      rintro e w1 ⟨rfl, hb⟩
      dsimp only
      have HB := Aside0.mk hb
      clear hcall hb
      go_wp2_with fail
      go_ret
      exact ⟨HB.out, .inr ⟨fun h => hs h.2, rfl⟩⟩
end Go.Proofs.YtlakdfbfkbndiaaDoor.Q
namespace Go.Proofs.YtlakdfbfkbndiaaDoor.Q
open Go.RowKit Go.Proofs.YtlakdfbfkbndiaaDoor.Re Go.Proofs.YtlakdfbfkbndiaaDoorW.PrintWords Go.Proofs.YtlakdfbfkbndiaaDoorW.PrintLast Go.Proofs.YtlakdfbfkbndiaaDoorW.PrintMore
section
variable {l : List S49} {s : ByteArray} {A0 : Option Addr} {c0 Bm Bf : Nat} {w0 : World}
theorem endsL_len (hB : Base l s A0 c0 w0) (i : Nat) : (endsL l s i).length ≤ 501 := by
  have := upto_len (meets l s (l.length - 1) i) (s.size + 1)
  have := hB.sz
  unfold endsL
  omega
set_option maxRecDepth 100000 in
theorem find_calls (hB : Base l s A0 c0 w0) (i : Nat) (hi : i ≤ s.size + 1) (w : World) (hM : Mem l s A0 c0 Bm Bf w0 w) :
    Calls Tryd.prog 42 #[.pointer (some ⟨Bm, 0, none⟩), .int .i64 i] w fun e w' =>
      e = .returned (.tuple #[.int .i64 (findV l s (s.size + 1 - i) i).1, .int .i64 (findV l s (s.size + 1 - i) i).2]) ∧ Mem l s A0 c0 Bm Bf w0 w' ∧ w.grownBy w' (some Bf) := by
  have HB := Aside0.mk hB
  have HM := Aside0.mk hM
  have HI := Aside0.mk hi
  have HG := Aside0.mk (World.grownBy.refl w (some Bf))
  clear hB hM hi
  go_enter Tryd.func42, Tryd.ntmps42
  go_wp2_with fail
  go_loopg [6] (s.size + 2) (fun g v6 wr => ∃ (j : Nat), v6 = .int .i64 j ∧ s.size + 2 - j ≤ g ∧ j ≤ s.size + 1 ∧ findV l s (s.size + 1 - i) i = findV l s (s.size + 1 - j) j ∧ Aside0 (Mem l s A0 c0 Bm Bf w0 wr) ∧ Aside0 (w.grownBy wr (some Bf)))
  case atStart => exact ⟨i, rfl, by omega, HI.out, rfl, HM, HG⟩
  case round =>
    clear HM HG
    obtain ⟨j, rfl, hg, hj, hv, HM, HG⟩ := hrel
    obtain ⟨hm0, hm1, hm2⟩ := HM.out.cell
    clear hm0 hm2
    have HV := Aside0.mk hv
    clear hv
    by_cases hlt : j ≤ s.size
    · have hlt0 : ((j : Int) ≤ (s.size : Int)) = True := eq_true (by omega)
      have hcall := at_calls HB.out j hlt wr HM.out
      have HLt := Aside0.mk hlt
      have hcap := endsL_len HB.out j
      clear hlt
      go_wp2_with fail
      refine hcall.mono ?_
      rintro e w4 ⟨v4, rfl, hR4, hM4, hG4⟩
      dsimp only
      obtain ⟨A4, c4, rfl, hl4, hC4⟩ := Kd.R_reads hR4
      rw [nats_len] at hR4 hl4 ⊢
      have HR4 := Aside0.mk hR4
      have HM4 := Aside0.mk hM4
      have HG4 := Aside0.mk (HG.out.trans hG4)
      clear hcall hR4 hM4 hG4 hl4 hC4 HM HG
      by_cases hn : (endsL l s j).length = 0
      · have hn0 : ((0 : Int) < ((endsL l s j).length : Int)) = False := eq_false (by omega)
        have hv2 : findV l s (s.size + 1 - j) j = findV l s (s.size + 1 - (j + 1)) (j + 1) := by
          rw [show s.size + 1 - j = (s.size + 1 - (j + 1)) + 1 by have := HLt.out; omega]
          simp only [findV]
          rw [if_pos hn]
        have hji : (j : Int) + 1 ≤ 502 := by have := HB.out.sz; have := HLt.out; omega
        have HV2 := Aside0.mk (HV.out.trans hv2)
        clear HV hv2
        go_wp2_with fail
        go_roundg (s.size + 2 - (j + 1))
        case measure => have := HLt.out; omega
        case rel => exact ⟨j + 1, by go_num, Nat.le_refl _, by have := HLt.out; omega, HV2.out, HM4, HG4⟩
      · have hn0 : ((0 : Int) < ((endsL l s j).length : Int)) = True := eq_true (by omega)
        obtain ⟨n, hnn⟩ : ∃ n, (endsL l s j).length = n + 1 := ⟨(endsL l s j).length - 1, by omega⟩
        have hv2 : findV l s (s.size + 1 - j) j = ((j : Int), (((endsL l s j).getD n 0 : Nat) : Int)) := by
          rw [show s.size + 1 - j = (s.size + 1 - (j + 1)) + 1 by have := HLt.out; omega]
          simp only [findV]
          rw [if_neg hn, hnn]; rfl
        obtain ⟨ad4, e4, hcp⟩ := row_get HR4.out n (by rw [nats_len]; omega)
        subst e4
        rw [nats_get _ n (by omega)] at hcp
        obtain ⟨x, hx⟩ : ∃ x, (endsL l s j).getD n 0 = x := ⟨_, rfl⟩
        rw [hx] at hcp hv2
        clear hx
        have h1 : ((endsL l s j).length : Int) - 1 = (n : Int) := by omega
        have h2 : (0 : Int) ≤ (n : Int) := by omega
        have h3 : ((n : Int) < ((endsL l s j).length : Int)) := by omega
        have HV2 := Aside0.mk (HV.out.trans hv2)
        clear HV hv2
        go_wp2_with fail
        go_region
        go_wp2_with fail
        go_ret2
        rw [HV2.out]
        have hdr : Below w4.heap.size w4 w4.drew := (Below.refl _ _).drew
        exact ⟨rfl, HM4.out.move hdr, HG4.out.trans ⟨hdr.os, hdr.tape, hdr.output, hdr.size, fun k hk _ => hdr.block k hk⟩⟩
    · have hlt0 : ((j : Int) ≤ (s.size : Int)) = False := eq_false (by omega)
      have hv2 : findV l s (s.size + 1 - j) j = (-1, 0) := by
        rw [show s.size + 1 - j = 0 by omega]; rfl
      have HV2 := Aside0.mk (HV.out.trans hv2)
      clear HV hv2
      go_wp2_with fail
      go_ret2
      rw [HV2.out]
      exact ⟨rfl, HM.out, HG.out⟩
end
end Go.Proofs.YtlakdfbfkbndiaaDoor.Q
namespace Go.Proofs.YtlakdfbfkbndiaaDoor.Q
open Go.RowKit Go.Proofs.YtlakdfbfkbndiaaDoor.Re Go.Proofs.YtlakdfbfkbndiaaDoorW.PrintWords Go.Proofs.YtlakdfbfkbndiaaDoorW.PrintLast Go.Proofs.YtlakdfbfkbndiaaDoorW.PrintMore
def kPair : Kd (Int × Int) := Kd.pair (Kd.int .i64) (Kd.int .i64)
theorem kPair_mkM (w : World) (base : Nat) (ok : Nat → Prop) (x : Int × Int) : kPair.M w base ok x [.int .i64 x.1, .int .i64 x.2] := ⟨[.int .i64 x.1], [.int .i64 x.2], rfl, rfl, rfl⟩
theorem infoPair : (Tryd.prog.info? 72).map (fun i => (i.zero, i.size, i.bytes)) = some (some (.agg #[.int .i64 0, .int .i64 0]), 2, 16) := by kernel_rfl
theorem findV_spec (l : List S49) (s : ByteArray) (hV : Valid l) : ∀ (d i : Nat), i + d = s.size + 1 → (findV l s d i = (-1, 0)) ∨ ∃ j x : Nat, findV l s d i = ((j : Int), (x : Int)) ∧ i ≤ j ∧ j ≤ x ∧ x ≤ s.size
  | 0, i, _ => .inl rfl
  | d + 1, i, h => by
    simp only [findV]
    by_cases hn : (endsL l s i).length = 0
    · rw [if_pos hn]
      rcases findV_spec l s hV d (i + 1) (by omega) with h1 | ⟨j, x, h1, h2, h3, h4⟩
      · exact .inl h1
      · exact .inr ⟨j, x, h1, by omega, h3, h4⟩
    · rw [if_neg hn]
      refine .inr ⟨i, (endsL l s i).getD ((endsL l s i).length - 1) 0, rfl, Nat.le_refl _, ?_⟩
      have hm : (endsL l s i).getD ((endsL l s i).length - 1) 0 ∈ endsL l s i := by
        rw [List.getD_eq_getElem?_getD, List.getElem?_eq_getElem (by omega)]
        exact List.getElem_mem _
      have := (mem_upto.mp hm).2
      exact meets_fwd hV s (l.length - 1) (by have := hV.pos; omega) i _ (by omega) this
noncomputable def occV (l : List S49) (s : ByteArray) : Nat → Nat → List (Int × Int)
  | 0, _ => []
  | g + 1, i => if i ≤ s.size then (if (findV l s (s.size + 1 - i) i).1 < 0 then [] else findV l s (s.size + 1 - i) i :: occV l s g (if (findV l s (s.size + 1 - i) i).1 = (findV l s (s.size + 1 - i) i).2 then (findV l s (s.size + 1 - i) i).2.toNat + 1 else (findV l s (s.size + 1 - i) i).2.toNat)) else []
end Go.Proofs.YtlakdfbfkbndiaaDoor.Q
namespace Go.Proofs.YtlakdfbfkbndiaaDoor.Q
open Go.RowKit Go.Proofs.YtlakdfbfkbndiaaDoor.Re Go.Proofs.YtlakdfbfkbndiaaDoorW.PrintWords Go.Proofs.YtlakdfbfkbndiaaDoorW.PrintLast Go.Proofs.YtlakdfbfkbndiaaDoorW.PrintMore
section
variable {l : List S49} {s : ByteArray} {A0 : Option Addr} {c0 Bm Bf : Nat} {w0 w wr w1 : World} {base : Nat} {v : Value} {xs : List (Int × Int)}
theorem pair_ne {k : Nat} {ok : Nat → Prop} {o : Obj} (h : Kd.R kPair 72 wr base ok v xs) (hb : wr.heap[k]? = some o) (ho : ∀ c, o ≠ .cells c 72 (0, 0)) : some k ≠ v.ownBlock := fun e => by
  obtain ⟨c, hc⟩ := Kd.R_typed h k e.symm
  rw [hb] at hc
  exact ho c (Option.some.inj hc)
theorem Mem.pairs (h : Mem l s A0 c0 Bm Bf w0 wr) (hR : Kd.R kPair 72 wr base (fun _ => True) v xs) (hbase : w0.heap.size ≤ base) (hg : wr.grownBy w1 v.ownBlock) : Mem l s A0 c0 Bm Bf w0 w1 := by
  have keep : ∀ {k : Nat} {o : Obj}, wr.heap[k]? = some o → (∀ c, o ≠ .cells c 72 (0, 0)) → w1.heap[k]? = some o := fun {k o} hb ho => (hg.block k (Array.getElem?_eq_some_iff.mp hb).1 (pair_ne hR hb ho)).trans hb
  have hlo : ∀ k, v.ownBlock = some k → w0.heap.size ≤ k := fun k hk => Nat.le_trans hbase (Kd.R_base hR k hk)
  exact {
    below := h.below.grown hg h.below.size (fun k hk => hlo k hk)
    bm := h.bm
    bf := h.bf
    obj := keep h.obj (by simp)
    map := by
      obtain ⟨es, clock, hb, hd, he⟩ := h.map
      refine ⟨es, clock, keep hb (by simp), hd, fun e hm => ?_⟩
      obtain ⟨n', i', b', ws', g1, g2, g3, g4, g5, g6, g7⟩ := he e hm
      exact ⟨n', i', b', ws', g1, g2, g3, g4, g5, keep g6 (by simp [wobj]), g7⟩ }
theorem pairs_call (h : Kd.R kPair 72 wr base (fun _ => True) v xs) (hm : Mem l s A0 c0 Bm Bf w0 wr) (hg : wr.grownBy w1 (some Bf)) : Kd.R kPair 72 w1 base (fun _ => True) v xs := by
  obtain ⟨es, clock, hb, _⟩ := hm.map
  exact Kd.R_mono (Kd.R_grown (Kd.R_mono (ok' := fun k => k ≠ Bf) (Kd.R_mono (Kd.R_bound h) (ok' := fun k => k ≠ Bf) (fun k hk e => by
    obtain ⟨q, _, cells, hc⟩ := hk.2.2.2
    rw [e, hb] at hc
    cases hc)) (fun _ hk => hk)) hg (fun k hk e => hk (Option.some.inj e))) (fun _ _ => trivial)
set_option maxRecDepth 100000 in
theorem occ_calls (hB : Base l s A0 c0 w0) (w : World) (hM : Mem l s A0 c0 Bm Bf w0 w) :
    Calls Tryd.prog 48 #[.pointer (some ⟨Bm, 0, none⟩)] w fun e w' => ∃ v, e = .returned v ∧ Kd.R kPair 72 w' w.heap.size (fun _ => True) v (occV l s (s.size + 2) 0) ∧ Mem l s A0 c0 Bm Bf w0 w' ∧ (occV l s (s.size + 2) 0).length ≤ 502 := by
  have HB := Aside0.mk hB
  have HM := Aside0.mk hM
  have HS := Aside0.mk hB.sz
  generalize hVV : occV l s (s.size + 2) 0 = V
  have HVV := Aside0.mk hVV
  clear hB hM hVV
  go_enter Tryd.func48, Tryd.ntmps48
  go_wp2_with fail
  have h0 : Kd.R kPair 72 (w.alloc (.cells #[] 72)) w.heap.size (fun _ => True) (.slice (some ⟨w.heap.size, 0, none⟩) 0 0) ([] : List (Int × Int)) :=
    ⟨fun _ _ => trivial, [], World.ownsRow_lit (base := w.heap.size) (e := 72) (size := 2) w #[] 0 (Nat.le_refl _) (by unfold maxLen; omega) rfl, rfl, fun j p hj => by simp at hj⟩
  have hb0 : Below w.heap.size w (w.alloc (.cells #[] 72)) := below_alloc (Below.refl _ _) _
  go_loopg [3, 4] (s.size + 2) (fun g v3 v4 wr => ∃ (i : Nat) (L : List (Int × Int)), v4 = .int .i64 i ∧ s.size + 2 - i ≤ g ∧ i ≤ s.size + 1 ∧ L.length ≤ i ∧ Aside0 (Kd.R kPair 72 wr w.heap.size (fun _ => True) v3 L) ∧ Aside0 (Mem l s A0 c0 Bm Bf w0 wr) ∧ Aside0 (w.heap.size ≤ wr.heap.size) ∧ Aside0 (∃ h, s.size + 1 < h + i ∧ V = L ++ occV l s h i))
  case atStart => exact ⟨0, [], rfl, by omega, by omega, Nat.le_refl _, ⟨h0⟩, ⟨HM.out.move hb0⟩, ⟨hb0.size⟩, ⟨s.size + 2, by omega, HVV.out.symm⟩⟩
  case round =>
    clear h0 hb0
    have HSz := Aside0.mk (HM.out.below.size)
    clear HM
    obtain ⟨i, L, rfl, hg, hi, hL, HR, HM, HW, HV⟩ := hrel
    obtain ⟨hm0, hm1, hm2⟩ := HM.out.cell
    clear hm0 hm2
    by_cases hlt : i ≤ s.size
    · have hlt0 : ((i : Int) ≤ (s.size : Int)) = True := eq_true (by omega)
      have hcall := find_calls HB.out i (by omega) wr HM.out
      have HLt := Aside0.mk hlt
      have HLL := Aside0.mk hL
      have hstep : ∃ h, s.size + 1 < h + 1 + i ∧ V = L ++ occV l s (h + 1) i := by
        obtain ⟨h, h1, h2⟩ := HV.out
        exact ⟨h - 1, by omega, by rw [show h - 1 + 1 = h by omega]; exact h2⟩
      obtain ⟨h, h1, h2⟩ := hstep
      simp only [occV] at h2
      rw [if_pos hlt] at h2
      clear hlt HV hL
      rcases findV_spec l s HB.out.ok (s.size + 1 - i) i (by have := HLt.out; omega) with e | ⟨j, x, e, e1, e2, e3⟩
      · rw [e] at hcall h2
        simp only at h2
        rw [if_pos (by omega), List.append_nil] at h2
        have HF := Aside0.mk h2
        clear h2 e h1
        go_wp2_with fail
        refine hcall.mono ?_
        rintro e w4 ⟨rfl, hM4, hG4⟩
        dsimp only
        have HR4 := Aside0.mk (pairs_call HR.out HM.out hG4)
        have HM4 := Aside0.mk hM4
        clear hcall hM4 hG4 HR HM
        go_wp2_with fail
        go_ret
        rw [HF.out]
        exact ⟨_, rfl, HR4.out, HM4.out, by have := HLL.out; have := HLt.out; have := HS.out; omega⟩
      · rw [e] at hcall h2
        simp only at h2
        rw [if_neg (by omega)] at h2
        have HF := Aside0.mk h2
        have H1 := Aside0.mk h1
        have HE := Aside0.mk (And.intro e1 (And.intro e2 e3))
        have hj0 : ((j : Int) < 0) = False := eq_false (by omega)
        clear h2 e h1 e1 e2 e3
        go_wp2_with fail
        refine hcall.mono ?_
        rintro e w4 ⟨rfl, hM4, hG4⟩
        dsimp only
        have HR4 := Aside0.mk (pairs_call HR.out HM.out hG4)
        have HM4 := Aside0.mk hM4
        have HW4 : Aside0 (w.heap.size ≤ w4.heap.size) := ⟨Nat.le_trans HW.out hG4.size⟩
        clear hcall hM4 hG4 HR HM HW
        have hL2 : (L ++ [((j : Int), (x : Int))]).length ≤ x + (if j = x then 1 else 0) := by
          rw [List.length_append, List.length_singleton]
          have := HLL.out; have := HE.out
          split <;> omega
        have HL2 := Aside0.mk hL2
        clear hL2
        by_cases hjx : j = x
        · have hjx0 : ((j : Int) == (x : Int)) = true := by rw [hjx]; simp
          have hxi : (x : Int) + 1 ≤ 502 := by have := HE.out; have := HS.out; omega
          have HJX := Aside0.mk hjx
          clear hjx
          go_wp2_with (first | ((with_reducible refine gate_builtin (b := .append) (xs := #[.tmp 23, .tmp 27]) rfl ?_); at_builtin; refine Kd.R_append kPair (w0 := w4) w.heap.size rfl (.tmp 23) (.tmp 27) 70 72 (.agg #[.int .i64 0, .int .i64 0]) 16 rfl Tryd.underlying70 infoPair rfl (by decide) (by omega) _ L ((j : Int), (x : Int)) [.int .i64 (j : Int), .int .i64 (x : Int)] (fun _ => True) (fun _ => False) rfl rfl ?aP (fun _ hk => hk.elim) (fun _ _ => trivial) ?aO ?aB ?aS ?aL ?_; (case aP => exact kPair_mkM _ _ _ ((j : Int), (x : Int))); (case aO => exact HR4.out); (case aB => exact Below.refl _ _); (case aS => exact HW4.out); (case aL => have := HLL.out; have := HLt.out; have := HS.out; omega); intro v9 w9 ho hb hg hat; have HO2 := Aside0.mk ho; have HG2 := Aside0.mk hg; clear ho hb hg hat))
          have HM9 := Aside0.mk (HM4.out.pairs HR4.out HSz.out HG2.out)
          have HW9 : Aside0 (w.heap.size ≤ w9.heap.size) := ⟨Nat.le_trans HW4.out HG2.out.size⟩
          go_wp2_with fail
          go_roundg (s.size + 2 - (x + 1))
          case measure => have := HE.out; have := HLt.out; omega
          case rel => exact ⟨x + 1, L ++ [((j : Int), (x : Int))], by go_num, Nat.le_refl _, by have := HE.out; omega, by have := HL2.out; rw [if_pos HJX.out] at this; exact this, HO2, HM9, HW9, ⟨h, by have := H1.out; have := HE.out; omega, by
            rw [HF.out, if_pos (by rw [HJX.out]), Int.toNat_natCast, List.append_assoc]; rfl⟩⟩
        · have hjx0 : ((j : Int) == (x : Int)) = false := beq_eq_false_iff_ne.mpr (fun h => hjx (Int.ofNat.inj h))
          have HJX := Aside0.mk hjx
          clear hjx
          go_wp2_with (first | ((with_reducible refine gate_builtin (b := .append) (xs := #[.tmp 23, .tmp 27]) rfl ?_); at_builtin; refine Kd.R_append kPair (w0 := w4) w.heap.size rfl (.tmp 23) (.tmp 27) 70 72 (.agg #[.int .i64 0, .int .i64 0]) 16 rfl Tryd.underlying70 infoPair rfl (by decide) (by omega) _ L ((j : Int), (x : Int)) [.int .i64 (j : Int), .int .i64 (x : Int)] (fun _ => True) (fun _ => False) rfl rfl ?aP (fun _ hk => hk.elim) (fun _ _ => trivial) ?aO ?aB ?aS ?aL ?_; (case aP => exact kPair_mkM _ _ _ ((j : Int), (x : Int))); (case aO => exact HR4.out); (case aB => exact Below.refl _ _); (case aS => exact HW4.out); (case aL => have := HLL.out; have := HLt.out; have := HS.out; omega); intro v9 w9 ho hb hg hat; have HO2 := Aside0.mk ho; have HG2 := Aside0.mk hg; clear ho hb hg hat))
          have HM9 := Aside0.mk (HM4.out.pairs HR4.out HSz.out HG2.out)
          have HW9 : Aside0 (w.heap.size ≤ w9.heap.size) := ⟨Nat.le_trans HW4.out HG2.out.size⟩
          go_wp2_with fail
          go_roundg (s.size + 2 - x)
          case measure => have := HE.out; have := HLt.out; have := HJX.out; omega
          case rel => exact ⟨x, L ++ [((j : Int), (x : Int))], rfl, Nat.le_refl _, by have := HE.out; omega, by have := HL2.out; rw [if_neg HJX.out] at this; exact this, HO2, HM9, HW9, ⟨h, by have := H1.out; have := HE.out; have := HJX.out; omega, by
            rw [HF.out, if_neg (by have := HJX.out; omega), Int.toNat_natCast, List.append_assoc]; rfl⟩⟩
    · have hlt0 : ((i : Int) ≤ (s.size : Int)) = False := eq_false (by omega)
      have hF : V = L := by
        obtain ⟨h, h1, h2⟩ := HV.out
        cases h with
        | zero => exact h2.trans (List.append_nil _)
        | succ h =>
          simp only [occV] at h2
          rw [if_neg hlt, List.append_nil] at h2
          exact h2
      have HF := Aside0.mk hF
      have HLL := Aside0.mk hL
      have HI := Aside0.mk hi
      clear hF HV hL
      go_wp2_with fail
      go_ret
      rw [HF.out]
      exact ⟨_, rfl, HR.out, HM.out, by have := HLL.out; have := HI.out; have := HS.out; omega⟩
end
end Go.Proofs.YtlakdfbfkbndiaaDoor.Q
namespace Go.Proofs.YtlakdfbfkbndiaaDoor.Q
open Go.RowKit Go.Proofs.YtlakdfbfkbndiaaDoor.Re Go.Proofs.YtlakdfbfkbndiaaDoorW.PrintWords Go.Proofs.YtlakdfbfkbndiaaDoorW.PrintLast Go.Proofs.YtlakdfbfkbndiaaDoorW.PrintMore
def okV (l : List S49) : Prop := ∃ k, impl_ReOk.f k l = some true
def sureL (l : List S49) : Prop := (∃ k b, impl_ReOk.f k l = some b) ∧ (okV l → Valid l)
theorem leO_le {α : Type} {f : Nat → Option α} (h : ∀ k, LeO (f k) (f (k + 1))) {k m : Nat} (hk : k ≤ m) {r : α} (hr : f k = some r) : f m = some r := by
  induction hk with
  | refl => exact hr
  | step _ ih => exact h _ _ ih
theorem ok_one {l : List S49} {k : Nat} {b : Bool} (h : impl_ReOk.f k l = some b) : (b = true ↔ okV l) := by
  constructor
  · rintro rfl; exact ⟨k, h⟩
  · rintro ⟨m, hm⟩
    have h1 := leO_le (f := fun k => impl_ReOk.f k l) (fun k => impl_ReOk.mono l k) (Nat.le_max_left k m) h
    have h2 := leO_le (f := fun k => impl_ReOk.f k l) (fun k => impl_ReOk.mono l k) (Nat.le_max_right k m) hm
    exact Option.some.inj (h1.symm.trans h2)
theorem new_any (l : List S49) (s : ByteArray) (A0 : Option Addr) (c0 : Nat) (w : World) (hS : sureL l) (hr : Kd.C k49 w A0 l.length l) (hc : l.length ≤ c0) :
    Calls Tryd.prog 41 #[.slice A0 l.length c0, .string s] w fun e w' =>
      Below w.heap.size w w' ∧ (((okV l ∧ s.size ≤ 500) ∧ ∃ Bm Bf, e = .returned (.pointer (some ⟨Bm, 0, none⟩)) ∧ Mem l s A0 c0 Bm Bf w w') ∨ (¬ (okV l ∧ s.size ≤ 500) ∧ e = .returned (.pointer none))) := by
  obtain ⟨⟨k, b, hk⟩, _⟩ := hS
  refine (new_calls l s A0 c0 w k b hr hc hk).mono ?_
  rintro e w' ⟨hb, h⟩
  refine ⟨hb, ?_⟩
  rcases h with ⟨h1, h2, h3⟩ | ⟨h1, h2⟩
  · exact .inl ⟨⟨(ok_one hk).mp h1, h2⟩, h3⟩
  · exact .inr ⟨fun g => h1 ⟨(ok_one hk).mpr g.1, g.2⟩, h2⟩
noncomputable def findR (l : List S49) (s : ByteArray) : Int × Int :=
  if (findV l s (s.size + 1) 0).1 < 0 then (-1, 0) else ((findV l s (s.size + 1) 0).1, (findV l s (s.size + 1) 0).2 - (findV l s (s.size + 1) 0).1)
open Classical in
noncomputable def impl_ReFind.f (l : List S49) (s : ByteArray) : Option (Int × Int) :=
  if sureL l then (if okV l ∧ s.size ≤ 500 then some (findR l s) else some (-1, 0)) else none
open Classical in
noncomputable def impl_ReTest.f (l : List S49) (s : ByteArray) : Option Bool := (impl_ReFind.f l s).map fun r => decide (0 ≤ r.1)
open Classical in
noncomputable def impl_ReCount.f (l : List S49) (s : ByteArray) : Option Int :=
  if sureL l then (if okV l ∧ s.size ≤ 500 then some ((occV l s (s.size + 2) 0).length : Int) else some (-1)) else none
set_option maxRecDepth 100000 in
theorem impl_ReFind.calls (A0 : Option Addr) (c0 : Nat) (l0 : List S49) (a1 : ByteArray) (r1 r2 : Int) (w : World) (hr0 : Kd.C k49 w A0 l0.length l0) (hc0 : l0.length ≤ c0) (h : impl_ReFind.f l0 a1 = some (r1, r2)) (hT : Tabs w := by first | assumption | (refine Aside0.out (p := Tabs _) ?_; assumption) | (refine Tabs.below (w := ?ww) (Aside0.out ?ha) ?hb; (case ha => assumption); (case hb => repeat (first | (with_reducible first | exact Below.refl _ _ | (refine Aside0.out ?_; assumption) | apply below_alloc | apply pw_below_drewN | apply below_drew1 | (refine below_set ?_ (Aside0.out ?_); (rotate_left; assumption))) | (refine Aside0.out ?_; assumption)))) | (refine Tabs.drewN (w := ?ww) (Aside0.out ?ha) _; (case ha => assumption))) :
    Calls Tryd.prog 14 #[.slice A0 l0.length c0, .string a1] w fun e w' => e = .returned (.tuple #[.int .i64 r1, .int .i64 r2]) ∧ Below w.heap.size w w' := by
  unfold impl_ReFind.f at h
  by_cases hS : sureL l0
  · rw [if_pos hS] at h
    have hcall := new_any l0 a1 A0 c0 w hS hr0 hc0
    by_cases hok : okV l0 ∧ a1.size ≤ 500
    · rw [if_pos hok] at h
      have hBase : Base l0 a1 A0 c0 w := ⟨hS.2 hok.1, hok.2, hr0, hc0, hT⟩
      have HBase := Aside0.mk hBase
      have HOk := Aside0.mk hok
      have hsp := findV_spec l0 a1 hBase.ok (a1.size + 1) 0 (by omega)
      unfold findR at h
      generalize hf : findV l0 a1 (a1.size + 1) 0 = r at h hsp
      have HF := Aside0.mk hf
      clear hf hok hS hT hr0 hc0 hBase
      rcases hsp with e | ⟨j, x, e, e1, e2, e3⟩
      · subst e
        rw [if_pos (by decide)] at h
        cases h
        go_enter Tryd.func14, Tryd.ntmps14
        go_wp2_with fail
        refine hcall.mono ?_
        rintro e w1 ⟨hb, (⟨_, Bm, Bf, rfl, hM⟩ | ⟨hn, _⟩)⟩
        · dsimp only
          have hfind := find_calls HBase.out 0 (by omega) w1 hM
          rw [Nat.sub_zero, HF.out] at hfind
          clear hcall hM hb
          go_wp2_with fail
          refine hfind.mono ?_
          rintro e w4 ⟨rfl, hM4, hG4⟩
          dsimp only
          have HM4 := Aside0.mk hM4
          clear hfind hM4 hG4
          go_wp2_with fail
          go_ret2
          exact ⟨rfl, HM4.out.below⟩
        · exact absurd HOk.out hn
      · subst e
        rw [if_neg (by dsimp only; omega)] at h
        cases h
        have hj0 : ((j : Int) < 0) = False := eq_false (by omega)
        have hw : (0 : Int) ≤ (x : Int) - (j : Int) ∧ (x : Int) - (j : Int) ≤ 500 := by have := HOk.out.2; omega
        obtain ⟨d, hd⟩ : ∃ d : Nat, (x : Int) - (j : Int) = (d : Int) := ⟨x - j, by omega⟩
        rw [hd] at hw
        have hd500 : (d : Int) ≤ 500 := hw.2
        clear hw e1 e2 e3
        go_enter Tryd.func14, Tryd.ntmps14
        go_wp2_with fail
        refine hcall.mono ?_
        rintro e w1 ⟨hb, (⟨_, Bm, Bf, rfl, hM⟩ | ⟨hn, _⟩)⟩
        · dsimp only
          have hfind := find_calls HBase.out 0 (by omega) w1 hM
          rw [Nat.sub_zero, HF.out] at hfind
          clear hcall hM hb
          go_wp2_with fail
          refine hfind.mono ?_
          rintro e w4 ⟨rfl, hM4, hG4⟩
          dsimp only
          have HM4 := Aside0.mk hM4
          clear hfind hM4 hG4
          go_wp2_with fail
          go_ret2
          exact ⟨by first | rfl | (rw [hd]; rfl), HM4.out.below⟩
        · exact absurd HOk.out hn
    · rw [if_neg hok] at h
      cases h
      have HOk := Aside0.mk hok
      clear hok hS hT hr0 hc0
      go_enter Tryd.func14, Tryd.ntmps14
      go_wp2_with fail
      refine hcall.mono ?_
      rintro e w1 ⟨hb, (⟨hn, _⟩ | ⟨_, rfl⟩)⟩
      · exact absurd hn HOk.out
      · dsimp only
        have HB := Aside0.mk hb
        clear hcall hb
        go_wp2_with fail
        go_ret2
        exact ⟨rfl, HB.out⟩
  · rw [if_neg hS] at h; cases h
set_option maxRecDepth 100000 in
theorem impl_ReTest.calls (A0 : Option Addr) (c0 : Nat) (l0 : List S49) (a1 : ByteArray) (r : Bool) (w : World) (hr0 : Kd.C k49 w A0 l0.length l0) (hc0 : l0.length ≤ c0) (h : impl_ReTest.f l0 a1 = some r) (hT : Tabs w := by first | assumption | (refine Aside0.out (p := Tabs _) ?_; assumption) | (refine Tabs.below (w := ?ww) (Aside0.out ?ha) ?hb; (case ha => assumption); (case hb => repeat (first | (with_reducible first | exact Below.refl _ _ | (refine Aside0.out ?_; assumption) | apply below_alloc | apply pw_below_drewN | apply below_drew1 | (refine below_set ?_ (Aside0.out ?_); (rotate_left; assumption))) | (refine Aside0.out ?_; assumption)))) | (refine Tabs.drewN (w := ?ww) (Aside0.out ?ha) _; (case ha => assumption))) :
    Calls Tryd.prog 17 #[.slice A0 l0.length c0, .string a1] w fun e w' => e = .returned (.bool r) ∧ Below w.heap.size w w' := by
  unfold impl_ReTest.f at h
  obtain ⟨⟨r1, r2⟩, hf, rfl⟩ := Option.map_eq_some_iff.mp h
  have hcall := impl_ReFind.calls A0 c0 l0 a1 r1 r2 w hr0 hc0 hf hT
  clear h hf hT hr0 hc0
  go_enter Tryd.func17, Tryd.ntmps17
  go_wp2_with fail
  refine hcall.mono ?_
  rintro e w1 ⟨rfl, hb⟩
  dsimp only
  have HB := Aside0.mk hb
  clear hcall hb
  go_wp2_with fail
  go_ret
  exact ⟨rfl, HB.out⟩
set_option maxRecDepth 100000 in
theorem impl_ReCount.calls (A0 : Option Addr) (c0 : Nat) (l0 : List S49) (a1 : ByteArray) (r : Int) (w : World) (hr0 : Kd.C k49 w A0 l0.length l0) (hc0 : l0.length ≤ c0) (h : impl_ReCount.f l0 a1 = some r) (hT : Tabs w := by first | assumption | (refine Aside0.out (p := Tabs _) ?_; assumption) | (refine Tabs.below (w := ?ww) (Aside0.out ?ha) ?hb; (case ha => assumption); (case hb => repeat (first | (with_reducible first | exact Below.refl _ _ | (refine Aside0.out ?_; assumption) | apply below_alloc | apply pw_below_drewN | apply below_drew1 | (refine below_set ?_ (Aside0.out ?_); (rotate_left; assumption))) | (refine Aside0.out ?_; assumption)))) | (refine Tabs.drewN (w := ?ww) (Aside0.out ?ha) _; (case ha => assumption))) :
    Calls Tryd.prog 25 #[.slice A0 l0.length c0, .string a1] w fun e w' => e = .returned (.int .i64 r) ∧ Below w.heap.size w w' := by
  unfold impl_ReCount.f at h
  by_cases hS : sureL l0
  · rw [if_pos hS] at h
    have hcall := new_any l0 a1 A0 c0 w hS hr0 hc0
    by_cases hok : okV l0 ∧ a1.size ≤ 500
    · rw [if_pos hok] at h
      cases h
      have hBase : Base l0 a1 A0 c0 w := ⟨hS.2 hok.1, hok.2, hr0, hc0, hT⟩
      have HBase := Aside0.mk hBase
      have HOk := Aside0.mk hok
      clear hok hS hT hr0 hc0 hBase
      go_enter Tryd.func25, Tryd.ntmps25
      go_wp2_with fail
      refine hcall.mono ?_
      rintro e w1 ⟨hb, (⟨_, Bm, Bf, rfl, hM⟩ | ⟨hn, _⟩)⟩
      · dsimp only
        have hocc := occ_calls HBase.out w1 hM
        clear hcall hM hb
        go_wp2_with fail
        refine hocc.mono ?_
        rintro e w4 ⟨v4, rfl, hR4, hM4, hL4⟩
        dsimp only
        obtain ⟨A4, c4, rfl, _, _⟩ := Kd.R_reads hR4
        have HM4 := Aside0.mk hM4
        clear hocc hM4 hR4
        go_wp2_with fail
        go_ret
        exact ⟨rfl, HM4.out.below⟩
      · exact absurd HOk.out hn
    · rw [if_neg hok] at h
      cases h
      have HOk := Aside0.mk hok
      clear hok hS hT hr0 hc0
      go_enter Tryd.func25, Tryd.ntmps25
      go_wp2_with fail
      refine hcall.mono ?_
      rintro e w1 ⟨hb, (⟨hn, _⟩ | ⟨_, rfl⟩)⟩
      · exact absurd hn HOk.out
      · dsimp only
        have HB := Aside0.mk hb
        clear hcall hb
        go_wp2_with fail
        go_ret
        exact ⟨rfl, HB.out⟩
  · rw [if_neg hS] at h; cases h
def InOrder (n : Nat) : Nat → List (Int × Int) → Prop
  | _, [] => True
  | i, x :: r => ∃ j y : Nat, x = ((j : Int), (y : Int)) ∧ i ≤ j ∧ j ≤ y ∧ y ≤ n ∧ InOrder n y r
theorem InOrder.mono {n : Nat} {i k : Nat} (hk : k ≤ i) : ∀ {L : List (Int × Int)}, InOrder n i L → InOrder n k L
  | [], _ => trivial
  | _ :: _, ⟨j, y, e, h1, h2⟩ => ⟨j, y, e, by omega, h2⟩
open Classical in
noncomputable def impl_ReEnds.f (l : List S49) (s : ByteArray) (i : Int) : Option (List Int) :=
  if sureL l then (if (okV l ∧ s.size ≤ 500) ∧ 0 ≤ i ∧ i ≤ (s.size : Int) then some (nats (endsL l s i.toNat)) else some []) else none
set_option maxRecDepth 100000 in
theorem impl_ReEnds.calls (A0 : Option Addr) (c0 : Nat) (l0 : List S49) (a1 : ByteArray) (a2 : Int) (r : List Int) (w : World) (hr0 : Kd.C k49 w A0 l0.length l0) (hc0 : l0.length ≤ c0) (h : impl_ReEnds.f l0 a1 a2 = some r) (hT : Tabs w := by first | assumption | (refine Aside0.out (p := Tabs _) ?_; assumption) | (refine Tabs.below (w := ?ww) (Aside0.out ?ha) ?hb; (case ha => assumption); (case hb => repeat (first | (with_reducible first | exact Below.refl _ _ | (refine Aside0.out ?_; assumption) | apply below_alloc | apply pw_below_drewN | apply below_drew1 | (refine below_set ?_ (Aside0.out ?_); (rotate_left; assumption))) | (refine Aside0.out ?_; assumption)))) | (refine Tabs.drewN (w := ?ww) (Aside0.out ?ha) _; (case ha => assumption))) :
    Calls Tryd.prog 19 #[.slice A0 l0.length c0, .string a1, .int .i64 a2] w fun e w' => ∃ v, e = .returned v ∧ Kd.R (Kd.int .i64) 3 w' w.heap.size (fun _ => True) v r ∧ Below w.heap.size w w' := by
  unfold impl_ReEnds.f at h
  by_cases hS : sureL l0
  · rw [if_pos hS] at h
    have hcall := new_any l0 a1 A0 c0 w hS hr0 hc0
    by_cases hok : okV l0 ∧ a1.size ≤ 500
    · have hBase : Base l0 a1 A0 c0 w := ⟨hS.2 hok.1, hok.2, hr0, hc0, hT⟩
      have HBase := Aside0.mk hBase
      have HOk := Aside0.mk hok
      by_cases hi : 0 ≤ a2 ∧ a2 ≤ (a1.size : Int)
      · rw [if_pos ⟨hok, hi⟩] at h
        cases h
        obtain ⟨j, rfl⟩ : ∃ j : Nat, a2 = (j : Int) := ⟨a2.toNat, by omega⟩
        have hj : j ≤ a1.size := by omega
        have hbt : impl_between.f (j : Int) 0 (a1.size : Int) = some true := by
          unfold impl_between.f
          rw [if_pos hi.1, decide_eq_true hi.2]
        rw [Int.toNat_natCast]
        have HJ := Aside0.mk hj
        have HBt := Aside0.mk hbt
        clear hok hS hT hr0 hc0 hBase hi hj hbt
        go_enter Tryd.func19, Tryd.ntmps19
        go_wp2_with fail
        refine hcall.mono ?_
        rintro e w1 ⟨hb, (⟨_, Bm, Bf, rfl, hM⟩ | ⟨hn, _⟩)⟩
        · dsimp only
          have HM := Aside0.mk hM
          have hbc := impl_between.calls (j : Int) 0 (a1.size : Int) true w1 HBt.out
          clear hcall hM hb
          go_wp2_with fail
          refine hbc.mono ?_
          rintro e w2 ⟨rfl, hD⟩
          obtain ⟨m2, rfl⟩ := hD
          dsimp only
          have hM2 : Mem l0 a1 A0 c0 Bm Bf w (w1.drewN m2) := HM.out.move (pw_below_drewN (Below.refl _ _) m2)
          have hat := at_calls HBase.out j HJ.out _ hM2
          have HM2 := Aside0.mk hM2
          clear hbc HM hM2
          go_wp2_with fail
          refine hat.mono ?_
          rintro e w4 ⟨v4, rfl, hR4, hM4, hG4⟩
          dsimp only
          have HR := Aside0.mk hR4
          have HM4 := Aside0.mk hM4
          have HL := Aside0.mk HM2.out.below.size
          clear hat hR4 hM4 hG4
          go_wp2_with fail
          go_ret
          exact ⟨v4, rfl, Kd.R_lower (Kd.R_mono HR.out (fun _ _ => trivial)) HL.out, HM4.out.below⟩
        · exact absurd HOk.out hn
      · rw [if_neg (fun h => hi h.2)] at h
        cases h
        have hbt : impl_between.f a2 0 (a1.size : Int) = some false := by
          unfold impl_between.f
          by_cases h0 : a2 ≥ 0
          · rw [if_pos h0, decide_eq_false (fun h1 => hi ⟨h0, h1⟩)]
          · rw [if_neg h0]
        have HBt := Aside0.mk hbt
        clear hok hS hT hr0 hc0 hBase hi hbt
        go_enter Tryd.func19, Tryd.ntmps19
        go_wp2_with fail
        refine hcall.mono ?_
        rintro e w1 ⟨hb, (⟨_, Bm, Bf, rfl, hM⟩ | ⟨hn, _⟩)⟩
        · dsimp only
          have HB := Aside0.mk hb
          have hbc := impl_between.calls a2 0 (a1.size : Int) false w1 HBt.out
          clear hcall hM hb
          go_wp2_with fail
          refine hbc.mono ?_
          rintro e w2 ⟨rfl, hD⟩
          obtain ⟨m2, rfl⟩ := hD
          dsimp only
          have HB2 := Aside0.mk (pw_below_drewN HB.out m2)
          clear hbc HB
          go_wp2_with fail
          go_ret
          exact ⟨_, rfl, Kd.R_nil _ _ _ _ _, HB2.out⟩
        · exact absurd HOk.out hn
    · rw [if_neg (fun h => hok h.1)] at h
      cases h
      have HOk := Aside0.mk hok
      clear hok hS hT hr0 hc0
      go_enter Tryd.func19, Tryd.ntmps19
      go_wp2_with fail
      refine hcall.mono ?_
      rintro e w1 ⟨hb, (⟨hn, _⟩ | ⟨_, rfl⟩)⟩
      · exact absurd hn HOk.out
      · dsimp only
        have HB := Aside0.mk hb
        clear hcall hb
        go_wp2_with fail
        go_ret
        exact ⟨_, rfl, Kd.R_nil _ _ _ _ _, HB.out⟩
  · rw [if_neg hS] at h; cases h
end Go.Proofs.YtlakdfbfkbndiaaDoor.Q
namespace Go.Proofs.YtlakdfbfkbndiaaDoor.Q
open Go.RowKit Go.Proofs.YtlakdfbfkbndiaaDoorW.PrintWords Go.Proofs.YtlakdfbfkbndiaaDoorW.PrintLast Go.Proofs.YtlakdfbfkbndiaaDoorW.PrintMore
attribute [local go_sem] max2_int min2_int max_two min_two max_three min_three max_four min_four   -- for this text's walks alone
set_option linter.unusedVariables false
set_option linter.unusedSimpArgs false
mutual
def spec_l2pairs.j0 : Nat → Bool → Int → Bool → ByteArray → List Int → Option (Bool)
 | 0,_,_,_,_,_=>none
 | k + 1,x19,x127000,x127001,x127002,x127003=>if x19 = true then (some false) else (spec_l2pairs.l0 k 0 x127000 x127001 x127002 x127003)
def spec_l2pairs.l0 : Nat → Int → Int → Bool → ByteArray → List Int → Option (Bool)
 | 0,_,_,_,_,_=>none
 | k + 1,x3,x127000,x127001,x127002,x127003=>if (wrap64 (x3 + 1)) < (x127002.size : Int) then (if 0 ≤ (wrap64 (x3 + 1)) then (if 0 ≤ x3 then (if x3 < (x127002.size : Int) then (if (bt x127002 (wrap64 (x3 + 1))) < (bt x127002 x3) then (some false) else (spec_l2pairs.l0 k (wrap64 (x3 + 2)) x127000 x127001 x127002 x127003)) else (none)) else (none)) else (none)) else (some true)
end
def spec_l2pairs.f (k : Nat) (a0_0 : Int) (a0_1 : Bool) (a0_2 : ByteArray) (l0_3 : List Int) : Option (Bool):=if ((a0_2.size : Int) % 2) = 1 then (spec_l2pairs.j0 k true a0_0 a0_1 a0_2 l0_3) else (if (a0_2.size : Int) = 0 then (spec_l2pairs.j0 k (!a0_1) a0_0 a0_1 a0_2 l0_3) else (spec_l2pairs.j0 k false a0_0 a0_1 a0_2 l0_3))
theorem spec_l2pairs.mono_l : ∀ k,(∀ y0 y1 y2 y3 y4,LeO (spec_l2pairs.j0 k y0 y1 y2 y3 y4) (spec_l2pairs.j0 (k + 1) y0 y1 y2 y3 y4)) ∧ (∀ y0 y1 y2 y3 y4,LeO (spec_l2pairs.l0 k y0 y1 y2 y3 y4) (spec_l2pairs.l0 (k + 1) y0 y1 y2 y3 y4))
 | 0=>⟨fun _ _ _ _ _ r h=>by simp [spec_l2pairs.j0] at h,fun _ _ _ _ _ r h=>by simp [spec_l2pairs.l0] at h⟩
 | k + 1=>by
  obtain ⟨ih0,ih1⟩:=spec_l2pairs.mono_l k
  refine ⟨?_,?_⟩
  ·intro y0 y1 y2 y3 y4
   unfold spec_l2pairs.j0
   repeat' first
   | (with_reducible exact ih0 _ _ _ _ _)
   | (with_reducible exact ih1 _ _ _ _ _)
   | (with_reducible exact LeO.refl _)
   | (with_reducible exact LeO.none _)
   | (with_reducible refine LeO.ite ?_ ?_)
   | (with_reducible refine LeO.bind ?_ (fun _=>?_))
   | exact ih0 _ _ _ _ _
   | exact ih1 _ _ _ _ _
   | exact LeO.none _
   | refine LeO.ite ?_ ?_
   | refine LeO.bind ?_ (fun _=>?_)
  ·intro y0 y1 y2 y3 y4
   unfold spec_l2pairs.l0
   repeat' first
   | (with_reducible exact ih0 _ _ _ _ _)
   | (with_reducible exact ih1 _ _ _ _ _)
   | (with_reducible exact LeO.refl _)
   | (with_reducible exact LeO.none _)
   | (with_reducible refine LeO.ite ?_ ?_)
   | (with_reducible refine LeO.bind ?_ (fun _=>?_))
   | exact ih0 _ _ _ _ _
   | exact ih1 _ _ _ _ _
   | exact LeO.none _
   | refine LeO.ite ?_ ?_
   | refine LeO.bind ?_ (fun _=>?_)
theorem spec_l2pairs.mono : ∀ a0 a1 a2 a3 k,LeO (spec_l2pairs.f k a0 a1 a2 a3) (spec_l2pairs.f (k + 1) a0 a1 a2 a3):=by
 intro a0 a1 a2 a3 k
 obtain ⟨ih0,ih1⟩:=spec_l2pairs.mono_l k
 unfold spec_l2pairs.f
 repeat' first
   | (with_reducible exact ih0 _ _ _ _ _)
   | (with_reducible exact ih1 _ _ _ _ _)
   | (with_reducible exact LeO.refl _)
   | (with_reducible exact LeO.none _)
   | (with_reducible refine LeO.ite ?_ ?_)
   | (with_reducible refine LeO.bind ?_ (fun _=>?_))
   | exact ih0 _ _ _ _ _
   | exact ih1 _ _ _ _ _
   | exact LeO.none _
   | refine LeO.ite ?_ ?_
   | refine LeO.bind ?_ (fun _=>?_)
set_option maxHeartbeats 8000000 in
set_option maxRecDepth 100000 in
theorem spec_l2pairs.calls (k : Nat) (a0_0 : Int) (a0_1 : Bool) (a0_2 : ByteArray) (A0_3 : Option Addr) (c0_3 : Nat) (l0_3 : List Int) (r : Bool) (w : World) (hr0_3 : Kd.C (Kd.int .i64) w A0_3 l0_3.length l0_3) (hc0_3 : l0_3.length ≤ c0_3) (h : spec_l2pairs.f k a0_0 a0_1 a0_2 l0_3 = some r) :
  Calls Tryd.prog 70 #[.agg #[.int .i64 a0_0,.bool a0_1,.string a0_2,.slice A0_3 l0_3.length c0_3]] w fun e w'=>e = .returned (.bool r) ∧ Below w.heap.size w w':=by
 have hu49:=Tryd.underlying49
 have HR0_3:=Aside0.mk hr0_3
 have HC0_3:=Aside0.mk hc0_3
 clear hr0_3 hc0_3
 have HB:=Aside0.mk (Below.refl w.heap.size w)
 have H : (if ((a0_2.size : Int) % 2) = 1 then (spec_l2pairs.j0 k true a0_0 a0_1 a0_2 l0_3) else (if (a0_2.size : Int) = 0 then (spec_l2pairs.j0 k (!a0_1) a0_0 a0_1 a0_2 l0_3) else (spec_l2pairs.j0 k false a0_0 a0_1 a0_2 l0_3))) = some r:=h
 clear h
 have HC2:=Aside0.mk H
 clear H
 go_enter Tryd.func70,Tryd.ntmps70
 go_upto_region 1 with (first|((with_reducible refine gate_dst (N:=1) rfl ?_);(try (refine gate_guard (by rfl) ?_;dsimp only));refine box_event ?hg (N:=1) ?hd (cs:=#[.int .i64 a0_0,.bool a0_1,.string a0_2,.slice A0_3 l0_3.length c0_3]) (t:=49) ?hr ?_;(case hd=>rfl);(case hg=>rfl);(case hr=>first|(go_simp;done)|(go_simp;rfl));intro gb126 hg w3 hbox hb;have n0_:=Aside0.mk (below_step (by repeat (first|(with_reducible first|exact HB.out|apply below_alloc|apply pw_below_drewN|apply below_drew1)|exact HB.out)) hb);have n1_:=Aside0.mk (hbox);have n2_:=Aside0.mk ((by rw [hg];exact (below_size (by repeat (first|(with_reducible first|exact HB.out|apply below_alloc|apply pw_below_drewN|apply below_drew1)|exact HB.out))) : w.heap.size ≤ gb126));have n3_:=Aside0.mk ((by rw [hg];exact (below_size (by repeat (first|(with_reducible first|exact HB.out|apply below_alloc|apply pw_below_drewN|apply below_drew1)|exact HB.out))) : w.heap.size ≤ gb126));clear HB;have HB:=n0_;have BK126:=n1_;have GW126:=n2_;have GE126:=n3_;clear n0_ n1_ n2_ n3_;clear hb hbox hg))
 repeat (go_quiet (first|((with_reducible refine gate_dst (N:=1) rfl ?_);(try (refine gate_guard (by rfl) ?_;dsimp only));refine box_event ?hg (N:=1) ?hd (cs:=#[.int .i64 a0_0,.bool a0_1,.string a0_2,.slice A0_3 l0_3.length c0_3]) (t:=49) ?hr ?_;(case hd=>rfl);(case hg=>rfl);(case hr=>first|(go_simp;done)|(go_simp;rfl));intro gb126 hg w3 hbox hb;have n0_:=Aside0.mk (below_step (by repeat (first|(with_reducible first|exact HB.out|apply below_alloc|apply pw_below_drewN|apply below_drew1)|exact HB.out)) hb);have n1_:=Aside0.mk (hbox);have n2_:=Aside0.mk ((by rw [hg];exact (below_size (by repeat (first|(with_reducible first|exact HB.out|apply below_alloc|apply pw_below_drewN|apply below_drew1)|exact HB.out))) : w.heap.size ≤ gb126));have n3_:=Aside0.mk ((by rw [hg];exact (below_size (by repeat (first|(with_reducible first|exact HB.out|apply below_alloc|apply pw_below_drewN|apply below_drew1)|exact HB.out))) : w.heap.size ≤ gb126));clear HB;have HB:=n0_;have BK126:=n1_;have GW126:=n2_;have GE126:=n3_;clear n0_ n1_ n2_ n3_;clear hb hbox hg));go_upto_region 1 with (first|((with_reducible refine gate_dst (N:=1) rfl ?_);(try (refine gate_guard (by rfl) ?_;dsimp only));refine box_event ?hg (N:=1) ?hd (cs:=#[.int .i64 a0_0,.bool a0_1,.string a0_2,.slice A0_3 l0_3.length c0_3]) (t:=49) ?hr ?_;(case hd=>rfl);(case hg=>rfl);(case hr=>first|(go_simp;done)|(go_simp;rfl));intro gb126 hg w3 hbox hb;have n0_:=Aside0.mk (below_step (by repeat (first|(with_reducible first|exact HB.out|apply below_alloc|apply pw_below_drewN|apply below_drew1)|exact HB.out)) hb);have n1_:=Aside0.mk (hbox);have n2_:=Aside0.mk ((by rw [hg];exact (below_size (by repeat (first|(with_reducible first|exact HB.out|apply below_alloc|apply pw_below_drewN|apply below_drew1)|exact HB.out))) : w.heap.size ≤ gb126));have n3_:=Aside0.mk ((by rw [hg];exact (below_size (by repeat (first|(with_reducible first|exact HB.out|apply below_alloc|apply pw_below_drewN|apply below_drew1)|exact HB.out))) : w.heap.size ≤ gb126));clear HB;have HB:=n0_;have BK126:=n1_;have GW126:=n2_;have GE126:=n3_;clear n0_ n1_ n2_ n3_;clear hb hbox hg)))
 (try simp only [Act.put,List.setIfInBounds_toArray,List.set_cons_zero,List.set_cons_succ])
 go_cut [19] (fun v19 wc=>∃ (kq : Nat) (x19_1 : Bool),v19 = .bool x19_1 ∧ Aside0 (spec_l2pairs.j0 kq x19_1 a0_0 a0_1 a0_2 l0_3 = some r) ∧ Aside0 (kq ≤ k) ∧ Aside0 (wc.heap[gb126]? = some (.cells #[.int .i64 a0_0,.bool a0_1,.string a0_2,(.slice A0_3 l0_3.length c0_3)] 49 (0,0))) ∧ Aside0 (Below w.heap.size w wc))
 case first =>
  have H:=HC2.out
  clear HC2
  by_cases c4 : ((a0_2.size : Int) % 2) = 1
  ·rw [if_pos c4] at H
   have c4b0 : (((a0_2.size : Int) % 2) == 1) = true:=beq_iff_eq.mpr c4
   have c4b1 : (((a0_2.size : Int) % 2) != 1) = false:=bne_eq_false_iff_eq.mpr c4
   clear c4
   (first|rw [c4b0]|(simp only [i64_w,i32_w];rw [c4b0])|skip)
   have H':=Aside0.mk H
   clear H
   have hcz5_0 : w3.cell? ⟨gb126,0,none⟩ = some (.int .i64 a0_0):=(blk_cell BK126.out 0).trans rfl
   have hcz5_1 : w3.cell? ⟨gb126,1,none⟩ = some (.bool a0_1):=(blk_cell BK126.out 1).trans rfl
   have hcz5_2 : w3.cell? ⟨gb126,2,none⟩ = some (.string a0_2):=(blk_cell BK126.out 2).trans rfl
   have hcz5_3 : w3.cell? ⟨gb126,3,none⟩ = some (.slice A0_3 l0_3.length c0_3):=(blk_cell BK126.out 3).trans rfl
   have hfz5_0:=blk_frozen BK126.out 0
   have hfz5_1:=blk_frozen BK126.out 1
   have hfz5_2:=blk_frozen BK126.out 2
   have hfz5_3:=blk_frozen BK126.out 3
   go_wp2
   repeat (go_quiet (fail);try go_wp2)
   go_meet
   case rel=>exact ⟨_,(true),(by first|rfl|(simp;done)|(simp [*];done)),H',⟨by first|omega|exact Nat.le_refl _⟩,⟨by (with_reducible repeat (first|refine blk_drewN ?_ _|refine blk_drew ?_|refine blk_alloc ?_ _));exact BK126.out⟩,⟨by repeat (first|(with_reducible first|exact HB.out|apply below_alloc|apply pw_below_drewN|apply below_drew1|refine below_set ?_ GE126.out)|exact HB.out)⟩⟩
  ·rw [if_neg c4] at H
   have c4b0 : (((a0_2.size : Int) % 2) == 1) = false:=beq_eq_false_iff_ne.mpr c4
   have c4b1 : (((a0_2.size : Int) % 2) != 1) = true:=bne_iff_ne.mpr c4
   (first|rw [c4b0]|(simp only [i64_w,i32_w];rw [c4b0])|skip)
   by_cases c6 : (a0_2.size : Int) = 0
   ·rw [if_pos c6] at H
    have c6b0 : ((a0_2.size : Int) == 0) = true:=beq_iff_eq.mpr c6
    have c6b1 : ((a0_2.size : Int) != 0) = false:=bne_eq_false_iff_eq.mpr c6
    clear c6
    have H':=Aside0.mk H
    clear H
    have hcz7_0 : w3.cell? ⟨gb126,0,none⟩ = some (.int .i64 a0_0):=(blk_cell BK126.out 0).trans rfl
    have hcz7_1 : w3.cell? ⟨gb126,1,none⟩ = some (.bool a0_1):=(blk_cell BK126.out 1).trans rfl
    have hcz7_2 : w3.cell? ⟨gb126,2,none⟩ = some (.string a0_2):=(blk_cell BK126.out 2).trans rfl
    have hcz7_3 : w3.cell? ⟨gb126,3,none⟩ = some (.slice A0_3 l0_3.length c0_3):=(blk_cell BK126.out 3).trans rfl
    have hfz7_0:=blk_frozen BK126.out 0
    have hfz7_1:=blk_frozen BK126.out 1
    have hfz7_2:=blk_frozen BK126.out 2
    have hfz7_3:=blk_frozen BK126.out 3
    go_wp2
    repeat (go_quiet (fail);try go_wp2)
    go_meet
    case rel=>exact ⟨_,(!a0_1),(by first|rfl|(simp;done)|(simp [*];done)),H',⟨by first|omega|exact Nat.le_refl _⟩,⟨by (with_reducible repeat (first|refine blk_drewN ?_ _|refine blk_drew ?_|refine blk_alloc ?_ _));exact BK126.out⟩,⟨by repeat (first|(with_reducible first|exact HB.out|apply below_alloc|apply pw_below_drewN|apply below_drew1|refine below_set ?_ GE126.out)|exact HB.out)⟩⟩
   ·rw [if_neg c6] at H
    have c6b0 : ((a0_2.size : Int) == 0) = false:=beq_eq_false_iff_ne.mpr c6
    have c6b1 : ((a0_2.size : Int) != 0) = true:=bne_iff_ne.mpr c6
    have H':=Aside0.mk H
    clear H
    have hcz8_0 : w3.cell? ⟨gb126,0,none⟩ = some (.int .i64 a0_0):=(blk_cell BK126.out 0).trans rfl
    have hcz8_1 : w3.cell? ⟨gb126,1,none⟩ = some (.bool a0_1):=(blk_cell BK126.out 1).trans rfl
    have hcz8_2 : w3.cell? ⟨gb126,2,none⟩ = some (.string a0_2):=(blk_cell BK126.out 2).trans rfl
    have hcz8_3 : w3.cell? ⟨gb126,3,none⟩ = some (.slice A0_3 l0_3.length c0_3):=(blk_cell BK126.out 3).trans rfl
    have hfz8_0:=blk_frozen BK126.out 0
    have hfz8_1:=blk_frozen BK126.out 1
    have hfz8_2:=blk_frozen BK126.out 2
    have hfz8_3:=blk_frozen BK126.out 3
    go_wp2
    repeat (go_quiet (fail);try go_wp2)
    go_meet
    case rel=>exact ⟨_,(false),(by first|rfl|(simp;done)|(simp [*];done)),H',⟨by first|omega|exact Nat.le_refl _⟩,⟨by (with_reducible repeat (first|refine blk_drewN ?_ _|refine blk_drew ?_|refine blk_alloc ?_ _));exact BK126.out⟩,⟨by repeat (first|(with_reducible first|exact HB.out|apply below_alloc|apply pw_below_drewN|apply below_drew1|refine below_set ?_ GE126.out)|exact HB.out)⟩⟩
 case rest =>
  clear HC2
  try clear p2
  try clear c4
  try clear c4b0
  try clear c4b1
  try clear c6
  try clear c6b0
  try clear c6b1
  try clear c7
  try clear hcz5_0
  try clear hcz5_1
  try clear hcz5_2
  try clear hcz5_3
  try clear hcz7_0
  try clear hcz7_1
  try clear hcz7_2
  try clear hcz7_3
  try clear hcz8_0
  try clear hcz8_1
  try clear hcz8_2
  try clear hcz8_3
  try clear hfz5_0
  try clear hfz5_1
  try clear hfz5_2
  try clear hfz5_3
  try clear hfz7_0
  try clear hfz7_1
  try clear hfz7_2
  try clear hfz7_3
  try clear hfz8_0
  try clear hfz8_1
  try clear hfz8_2
  try clear hfz8_3
  obtain ⟨kq,x19_1,rfl,HA,HJ1,BK126,HB⟩:=hcut
  cases kq with
  | zero=>exact absurd HA.out (by simp [spec_l2pairs.j0])
  | succ kj1 =>
   have H:=HA.out
   clear HA
   simp only [spec_l2pairs.j0] at H
   by_cases c9 : x19_1 = true
   ·subst c9
    have H1 : (some false) = some r:=by rw [if_pos rfl] at H;exact H
    clear H
    have H:=H1
    clear H1
    obtain rfl:=Option.some.inj H
    go_wp2
    repeat (go_quiet (fail);try go_wp2)
    go_ret
    exact ⟨by first|rfl|(simp [errW_none,errW_some] <;> rfl)|(simp [*,errW_none,errW_some] <;> rfl),by repeat (first|(with_reducible first|exact HB.out|apply below_alloc|apply pw_below_drewN|apply below_drew1|refine below_set ?_ GE126.out)|exact HB.out)⟩
   ·replace c9:=Bool.eq_false_iff.mpr c9
    subst c9
    have H1 : (spec_l2pairs.l0 kj1 0 a0_0 a0_1 a0_2 l0_3) = some r:=by rw [if_neg (show ¬ (false = true) by decide)] at H;exact H
    clear H
    have H:=H1
    clear H1
    have H':=Aside0.mk H
    clear H
    go_wp2
    repeat (go_quiet (fail);try go_wp2)
    go_loopg [3] kj1 (fun kq v3 w'=>∃ (x3_2 : Int),v3 = .int .i64 x3_2 ∧ Aside0 (spec_l2pairs.l0 kq x3_2 a0_0 a0_1 a0_2 l0_3 = some r) ∧ Aside0 (kq ≤ kj1) ∧ Aside0 (w'.heap[gb126]? = some (.cells #[.int .i64 a0_0,.bool a0_1,.string a0_2,(.slice A0_3 l0_3.length c0_3)] 49 (0,0))) ∧ Aside0 (Below w.heap.size w w'))
    case atStart=>exact ⟨(0),(by first|rfl|(simp;done)|(simp [*];done)),H',⟨Nat.le_refl _⟩,⟨by (with_reducible repeat (first|refine blk_drewN ?_ _|refine blk_drew ?_|refine blk_alloc ?_ _));exact BK126.out⟩,⟨by repeat (first|(with_reducible first|exact HB.out|apply below_alloc|apply pw_below_drewN|apply below_drew1|refine below_set ?_ GE126.out)|exact HB.out)⟩⟩
    case round =>
     clear H'
     try clear p2
     try clear c4
     try clear c4b0
     try clear c4b1
     try clear c6
     try clear c6b0
     try clear c6b1
     try clear c7
     try clear c9
     try clear hcz5_0
     try clear hcz5_1
     try clear hcz5_2
     try clear hcz5_3
     try clear hcz7_0
     try clear hcz7_1
     try clear hcz7_2
     try clear hcz7_3
     try clear hcz8_0
     try clear hcz8_1
     try clear hcz8_2
     try clear hcz8_3
     try clear hfz5_0
     try clear hfz5_1
     try clear hfz5_2
     try clear hfz5_3
     try clear hfz7_0
     try clear hfz7_1
     try clear hfz7_2
     try clear hfz7_3
     try clear hfz8_0
     try clear hfz8_1
     try clear hfz8_2
     try clear hfz8_3
     try clear p2
     obtain ⟨x3_2,rfl,HA,HK2,BK126,HB⟩:=hrel
     cases gk with
     | zero=>exact absurd HA.out (by simp [spec_l2pairs.l0])
     | succ k2 =>
      have H:=HA.out
      clear HA
      simp only [spec_l2pairs.l0] at H
      by_cases c10 : (wrap64 (x3_2 + 1)) < (a0_2.size : Int)
      ·rw [if_pos c10] at H
       have c10b0 : decide ((wrap64 (x3_2 + 1)) < (a0_2.size : Int)) = true:=decide_eq_true c10
       clear c10
       obtain ⟨ji11,hji11⟩ : ∃ j_ : Int,(wrap64 (x3_2 + 1)) = j_:=⟨_,rfl⟩
       replace H : (if 0 ≤ (ji11) then (if 0 ≤ x3_2 then (if x3_2 < (a0_2.size : Int) then (if (bt a0_2 (ji11)) < (bt a0_2 x3_2) then (some false) else (spec_l2pairs.l0 k2 (wrap64 (x3_2 + 2)) a0_0 a0_1 a0_2 l0_3)) else (none)) else (none)) else (none)) = some r:=by first|(rw [hji11] at H;exact H)|(simp only [hji11] at H ⊢;exact H)
       (try rw [hji11] at c10b0)
       have hji11w : (IntKind.i64.wrap (x3_2 + 1)) = ji11:=(i64_w _).trans hji11
       by_cases c12 : 0 ≤ (ji11)
       ·rw [if_pos c12] at H
        have c12b0 : decide (0 ≤ (ji11)) = true:=decide_eq_true c12
        clear c12
        by_cases c14 : 0 ≤ x3_2
        ·rw [if_pos c14] at H
         have c14b0 : decide (0 ≤ x3_2) = true:=decide_eq_true c14
         clear c14
         by_cases c15 : x3_2 < (a0_2.size : Int)
         ·rw [if_pos c15] at H
          have c15b0 : decide (x3_2 < (a0_2.size : Int)) = true:=decide_eq_true c15
          clear c15
          by_cases c17 : (bt a0_2 (ji11)) < (bt a0_2 x3_2)
          ·rw [if_pos c17] at H
           have c17b0 : decide ((bt a0_2 (ji11)) < (bt a0_2 x3_2)) = true:=decide_eq_true c17
           clear c17
           obtain rfl:=Option.some.inj H
           have hcz18_0 : wr.cell? ⟨gb126,0,none⟩ = some (.int .i64 a0_0):=(blk_cell BK126.out 0).trans rfl
           have hcz18_1 : wr.cell? ⟨gb126,1,none⟩ = some (.bool a0_1):=(blk_cell BK126.out 1).trans rfl
           have hcz18_2 : wr.cell? ⟨gb126,2,none⟩ = some (.string a0_2):=(blk_cell BK126.out 2).trans rfl
           have hcz18_3 : wr.cell? ⟨gb126,3,none⟩ = some (.slice A0_3 l0_3.length c0_3):=(blk_cell BK126.out 3).trans rfl
           have hfz18_0:=blk_frozen BK126.out 0
           have hfz18_1:=blk_frozen BK126.out 1
           have hfz18_2:=blk_frozen BK126.out 2
           have hfz18_3:=blk_frozen BK126.out 3
           have p13 : 0 ≤ ((ji11) : Int):=of_decide_eq_true (by first|(with_reducible assumption)|assumption)
           have q13 : (ji11) < (a0_2.size : Int):=of_decide_eq_true (by first|(with_reducible assumption)|assumption)
           have hx13:=bt_at a0_2 (ji11)
           replace p13:=eq_true p13
           replace q13:=eq_true q13
           have p16 : 0 ≤ (x3_2 : Int):=of_decide_eq_true (by first|(with_reducible assumption)|assumption)
           have q16 : x3_2 < (a0_2.size : Int):=of_decide_eq_true (by first|(with_reducible assumption)|assumption)
           have hx16:=bt_at a0_2 x3_2
           replace p16:=eq_true p16
           replace q16:=eq_true q16
           go_wp2
           repeat (go_quiet (fail);try go_wp2)
           go_ret
           exact ⟨by first|rfl|(simp [errW_none,errW_some] <;> rfl)|(simp only [← hji11];first|rfl|(simp [errW_none,errW_some] <;> rfl))|(simp [*,errW_none,errW_some] <;> rfl),by repeat (first|(with_reducible first|exact HB.out|apply below_alloc|apply pw_below_drewN|apply below_drew1|refine below_set ?_ GE126.out)|exact HB.out)⟩
          ·rw [if_neg c17] at H
           have c17b0 : decide ((bt a0_2 (ji11)) < (bt a0_2 x3_2)) = false:=decide_eq_false c17
           clear c17
           have H':=Aside0.mk H
           clear H
           have hcz19_0 : wr.cell? ⟨gb126,0,none⟩ = some (.int .i64 a0_0):=(blk_cell BK126.out 0).trans rfl
           have hcz19_1 : wr.cell? ⟨gb126,1,none⟩ = some (.bool a0_1):=(blk_cell BK126.out 1).trans rfl
           have hcz19_2 : wr.cell? ⟨gb126,2,none⟩ = some (.string a0_2):=(blk_cell BK126.out 2).trans rfl
           have hcz19_3 : wr.cell? ⟨gb126,3,none⟩ = some (.slice A0_3 l0_3.length c0_3):=(blk_cell BK126.out 3).trans rfl
           have hfz19_0:=blk_frozen BK126.out 0
           have hfz19_1:=blk_frozen BK126.out 1
           have hfz19_2:=blk_frozen BK126.out 2
           have hfz19_3:=blk_frozen BK126.out 3
           have p13 : 0 ≤ ((ji11) : Int):=of_decide_eq_true (by first|(with_reducible assumption)|assumption)
           have q13 : (ji11) < (a0_2.size : Int):=of_decide_eq_true (by first|(with_reducible assumption)|assumption)
           have hx13:=bt_at a0_2 (ji11)
           replace p13:=eq_true p13
           replace q13:=eq_true q13
           have p16 : 0 ≤ (x3_2 : Int):=of_decide_eq_true (by first|(with_reducible assumption)|assumption)
           have q16 : x3_2 < (a0_2.size : Int):=of_decide_eq_true (by first|(with_reducible assumption)|assumption)
           have hx16:=bt_at a0_2 x3_2
           replace p16:=eq_true p16
           replace q16:=eq_true q16
           go_wp2
           repeat (go_quiet (fail);try go_wp2)
           go_roundg k2
           case measure=>have:=HJ1.out;have:=HK2.out;omega
           case rel=>exact ⟨(wrap64 (x3_2 + 2)),(by first|rfl|(simp;done)|(simp [*];done)),H',⟨by have:=HJ1.out;have:=HK2.out;omega⟩,⟨by (with_reducible repeat (first|refine blk_drewN ?_ _|refine blk_drew ?_|refine blk_alloc ?_ _));exact BK126.out⟩,⟨by repeat (first|(with_reducible first|exact HB.out|apply below_alloc|apply pw_below_drewN|apply below_drew1|refine below_set ?_ GE126.out)|exact HB.out)⟩⟩
         ·rw [if_neg c15] at H
          exact absurd H (by simp)
        ·rw [if_neg c14] at H
         exact absurd H (by simp)
       ·rw [if_neg c12] at H
        exact absurd H (by simp)
      ·rw [if_neg c10] at H
       have c10b0 : decide ((wrap64 (x3_2 + 1)) < (a0_2.size : Int)) = false:=decide_eq_false c10
       clear c10
       obtain rfl:=Option.some.inj H
       have hcz20_0 : wr.cell? ⟨gb126,0,none⟩ = some (.int .i64 a0_0):=(blk_cell BK126.out 0).trans rfl
       have hcz20_1 : wr.cell? ⟨gb126,1,none⟩ = some (.bool a0_1):=(blk_cell BK126.out 1).trans rfl
       have hcz20_2 : wr.cell? ⟨gb126,2,none⟩ = some (.string a0_2):=(blk_cell BK126.out 2).trans rfl
       have hcz20_3 : wr.cell? ⟨gb126,3,none⟩ = some (.slice A0_3 l0_3.length c0_3):=(blk_cell BK126.out 3).trans rfl
       have hfz20_0:=blk_frozen BK126.out 0
       have hfz20_1:=blk_frozen BK126.out 1
       have hfz20_2:=blk_frozen BK126.out 2
       have hfz20_3:=blk_frozen BK126.out 3
       go_wp2
       repeat (go_quiet (fail);try go_wp2)
       go_ret
       exact ⟨by first|rfl|(simp [errW_none,errW_some] <;> rfl)|(simp [*,errW_none,errW_some] <;> rfl),by repeat (first|(with_reducible first|exact HB.out|apply below_alloc|apply pw_below_drewN|apply below_drew1|refine below_set ?_ GE126.out)|exact HB.out)⟩
mutual
def spec_l2kidsOk.j0 : Nat → Int → Bool → Int → Bool → ByteArray → List Int → Option (Bool)
 | 0,_,_,_,_,_,_=>none
 | k + 1,x4,x15,x128000,x128001,x128002,x128003=>if x15 = true then (if (x128003.length : Int) = 0 then (if x128001 = true then (some false) else (some (x128002.toList == ([] : List UInt8)))) else (some false)) else (if x4 = 3 then (spec_l2kidsOk.j1 k x4 (x4 == 3) x128000 x128001 x128002 x128003) else (spec_l2kidsOk.j1 k x4 (x4 == 4) x128000 x128001 x128002 x128003))
def spec_l2kidsOk.j1 : Nat → Int → Bool → Int → Bool → ByteArray → List Int → Option (Bool)
 | 0,_,_,_,_,_,_=>none
 | k + 1,x4,x32,x128000,x128001,x128002,x128003=>if x32 = true then (if (x128003.length : Int) ≥ 2 then (if x128001 = true then (some false) else (some (x128002.toList == ([] : List UInt8)))) else (some false)) else (if x4 = 5 then (if (x128003.length : Int) = 1 then (if x128001 = true then (some false) else (some (x128002.toList == ([] : List UInt8)))) else (some false)) else (if x4 = 6 then (if (x128003.length : Int) = 1 then (if x128001 = true then (some false) else (some (x128002.toList == ([] : List UInt8)))) else (some false)) else (if x4 = 7 then (if (x128003.length : Int) = 1 then (if x128001 = true then (some false) else (some (x128002.toList == ([] : List UInt8)))) else (some false)) else (some false))))
end
def spec_l2kidsOk.f (k : Nat) (a0_0 : Int) (a0_1 : Bool) (a0_2 : ByteArray) (l0_3 : List Int) : Option (Bool):=if a0_0 = 0 then (if (l0_3.length : Int) = 0 then ((spec_l2pairs.f k a0_0 a0_1 a0_2 l0_3).bind fun t128=>(some t128)) else (some false)) else (if a0_0 = 1 then (spec_l2kidsOk.j0 k a0_0 (a0_0 == 1) a0_0 a0_1 a0_2 l0_3) else (spec_l2kidsOk.j0 k a0_0 (a0_0 == 2) a0_0 a0_1 a0_2 l0_3))
theorem spec_l2kidsOk.mono_l : ∀ k,(∀ y0 y1 y2 y3 y4 y5,LeO (spec_l2kidsOk.j0 k y0 y1 y2 y3 y4 y5) (spec_l2kidsOk.j0 (k + 1) y0 y1 y2 y3 y4 y5)) ∧ (∀ y0 y1 y2 y3 y4 y5,LeO (spec_l2kidsOk.j1 k y0 y1 y2 y3 y4 y5) (spec_l2kidsOk.j1 (k + 1) y0 y1 y2 y3 y4 y5))
 | 0=>⟨fun _ _ _ _ _ _ r h=>by simp [spec_l2kidsOk.j0] at h,fun _ _ _ _ _ _ r h=>by simp [spec_l2kidsOk.j1] at h⟩
 | k + 1=>by
  obtain ⟨ih0,ih1⟩:=spec_l2kidsOk.mono_l k
  refine ⟨?_,?_⟩
  ·intro y0 y1 y2 y3 y4 y5
   unfold spec_l2kidsOk.j0
   repeat' first
   | (with_reducible exact ih0 _ _ _ _ _ _)
   | (with_reducible exact ih1 _ _ _ _ _ _)
   | (with_reducible exact spec_l2pairs.mono _ _ _ _ _)
   | (with_reducible exact LeO.refl _)
   | (with_reducible exact LeO.none _)
   | (with_reducible refine LeO.ite ?_ ?_)
   | (with_reducible refine LeO.bind ?_ (fun _=>?_))
   | exact ih0 _ _ _ _ _ _
   | exact ih1 _ _ _ _ _ _
   | exact spec_l2pairs.mono _ _ _ _ _
   | exact LeO.none _
   | refine LeO.ite ?_ ?_
   | refine LeO.bind ?_ (fun _=>?_)
  ·intro y0 y1 y2 y3 y4 y5
   unfold spec_l2kidsOk.j1
   repeat' first
   | (with_reducible exact ih0 _ _ _ _ _ _)
   | (with_reducible exact ih1 _ _ _ _ _ _)
   | (with_reducible exact spec_l2pairs.mono _ _ _ _ _)
   | (with_reducible exact LeO.refl _)
   | (with_reducible exact LeO.none _)
   | (with_reducible refine LeO.ite ?_ ?_)
   | (with_reducible refine LeO.bind ?_ (fun _=>?_))
   | exact ih0 _ _ _ _ _ _
   | exact ih1 _ _ _ _ _ _
   | exact spec_l2pairs.mono _ _ _ _ _
   | exact LeO.none _
   | refine LeO.ite ?_ ?_
   | refine LeO.bind ?_ (fun _=>?_)
theorem spec_l2kidsOk.mono : ∀ a0 a1 a2 a3 k,LeO (spec_l2kidsOk.f k a0 a1 a2 a3) (spec_l2kidsOk.f (k + 1) a0 a1 a2 a3):=by
 intro a0 a1 a2 a3 k
 obtain ⟨ih0,ih1⟩:=spec_l2kidsOk.mono_l k
 unfold spec_l2kidsOk.f
 repeat' first
   | (with_reducible exact ih0 _ _ _ _ _ _)
   | (with_reducible exact ih1 _ _ _ _ _ _)
   | (with_reducible exact spec_l2pairs.mono _ _ _ _ _)
   | (with_reducible exact LeO.refl _)
   | (with_reducible exact LeO.none _)
   | (with_reducible refine LeO.ite ?_ ?_)
   | (with_reducible refine LeO.bind ?_ (fun _=>?_))
   | exact ih0 _ _ _ _ _ _
   | exact ih1 _ _ _ _ _ _
   | exact spec_l2pairs.mono _ _ _ _ _
   | exact LeO.none _
   | refine LeO.ite ?_ ?_
   | refine LeO.bind ?_ (fun _=>?_)
set_option maxHeartbeats 8000000 in
set_option maxRecDepth 100000 in
theorem spec_l2kidsOk.calls (k : Nat) (a0_0 : Int) (a0_1 : Bool) (a0_2 : ByteArray) (A0_3 : Option Addr) (c0_3 : Nat) (l0_3 : List Int) (r : Bool) (w : World) (hr0_3 : Kd.C (Kd.int .i64) w A0_3 l0_3.length l0_3) (hc0_3 : l0_3.length ≤ c0_3) (h : spec_l2kidsOk.f k a0_0 a0_1 a0_2 l0_3 = some r) :
  Calls Tryd.prog 52 #[.agg #[.int .i64 a0_0,.bool a0_1,.string a0_2,.slice A0_3 l0_3.length c0_3]] w fun e w'=>e = .returned (.bool r) ∧ Below w.heap.size w w':=by
 have hu49:=Tryd.underlying49
 have HR0_3:=Aside0.mk hr0_3
 have HC0_3:=Aside0.mk hc0_3
 clear hr0_3 hc0_3
 have HB:=Aside0.mk (Below.refl w.heap.size w)
 have H : (if a0_0 = 0 then (if (l0_3.length : Int) = 0 then ((spec_l2pairs.f k a0_0 a0_1 a0_2 l0_3).bind fun t128=>(some t128)) else (some false)) else (if a0_0 = 1 then (spec_l2kidsOk.j0 k a0_0 (a0_0 == 1) a0_0 a0_1 a0_2 l0_3) else (spec_l2kidsOk.j0 k a0_0 (a0_0 == 2) a0_0 a0_1 a0_2 l0_3))) = some r:=h
 clear h
 by_cases c2 : a0_0 = 0
 ·rw [if_pos c2] at H
  have c2b0 : (a0_0 == 0) = true:=beq_iff_eq.mpr c2
  have c2b1 : (a0_0 != 0) = false:=bne_eq_false_iff_eq.mpr c2
  clear c2
  by_cases c3 : (l0_3.length : Int) = 0
  ·rw [if_pos c3] at H
   have c3b0 : ((l0_3.length : Int) == 0) = true:=beq_iff_eq.mpr c3
   have c3b1 : ((l0_3.length : Int) != 0) = false:=bne_eq_false_iff_eq.mpr c3
   clear c3
   replace H:=Option.bind_eq_some_iff.mp H
   obtain ⟨t128,A40,H⟩:=H
   replace H : (some t128) = some r:=H
   have A4:=Aside0.mk A40
   clear A40
   obtain rfl:=Option.some.inj H
   go_enter Tryd.func52,Tryd.ntmps52
   go_wp2_with (first|((with_reducible refine gate_dst (N:=1) rfl ?_);refine box_event ?hg (N:=1) ?hd (cs:=#[.int .i64 a0_0,.bool a0_1,.string a0_2,.slice A0_3 l0_3.length c0_3]) (t:=49) ?hr ?_;(case hd=>rfl);(case hg=>rfl);(case hr=>first|(go_simp;done)|(go_simp;rfl));intro gb127 hg w5 hbox hb;have n0_:=Aside0.mk (below_step (by repeat (first|(with_reducible first|exact HB.out|apply below_alloc|apply pw_below_drewN|apply below_drew1)|exact HB.out)) hb);have n1_:=Aside0.mk (hbox);have n2_:=Aside0.mk ((by rw [hg];exact (below_size (by repeat (first|(with_reducible first|exact HB.out|apply below_alloc|apply pw_below_drewN|apply below_drew1)|exact HB.out))) : w.heap.size ≤ gb127));have n3_:=Aside0.mk ((by rw [hg];exact (below_size (by repeat (first|(with_reducible first|exact HB.out|apply below_alloc|apply pw_below_drewN|apply below_drew1)|exact HB.out))) : w.heap.size ≤ gb127));clear HB;have HB:=n0_;have BK127:=n1_;have GW127:=n2_;have GE127:=n3_;clear n0_ n1_ n2_ n3_;clear hb hbox hg;have hcz6_0 : w5.cell? ⟨gb127,0,none⟩ = some (.int .i64 a0_0):=(blk_cell BK127.out 0).trans rfl;have hcz6_1 : w5.cell? ⟨gb127,1,none⟩ = some (.bool a0_1):=(blk_cell BK127.out 1).trans rfl;have hcz6_2 : w5.cell? ⟨gb127,2,none⟩ = some (.string a0_2):=(blk_cell BK127.out 2).trans rfl;have hcz6_3 : w5.cell? ⟨gb127,3,none⟩ = some (.slice A0_3 l0_3.length c0_3):=(blk_cell BK127.out 3).trans rfl;have hfz6_0:=blk_frozen BK127.out 0;have hfz6_1:=blk_frozen BK127.out 1;have hfz6_2:=blk_frozen BK127.out 2;have hfz6_3:=blk_frozen BK127.out 3)|(go_at_call 70;(with_reducible refine (spec_l2pairs.calls k a0_0 a0_1 a0_2 _ _ l0_3 t128 _ ?side1 ?side2 A4.out).mono ?_);(case side1=>repeat (first|exact (Kd.C_below HR0_3.out HB.out)|(with_reducible refine Kd.C_alloc ?_ _)|(with_reducible refine Kd.C_drewN ?_ _)|(with_reducible refine Kd.C_drew ?_)));(case side2=>exact HC0_3.out);rintro e w7 ⟨rfl,hb⟩;have n0_:=Aside0.mk (blk_below (g:=gb127) (o:=.cells #[.int .i64 a0_0,.bool a0_1,.string a0_2,.slice A0_3 l0_3.length c0_3] 49 (0,0)) (by (with_reducible repeat (first|refine blk_drewN ?_ _|refine blk_drew ?_|refine blk_alloc ?_ _));exact BK127.out) hb);have n1_:=Aside0.mk (below_step (by repeat (first|(with_reducible first|exact HB.out|apply below_alloc|apply pw_below_drewN|apply below_drew1|refine below_set ?_ GE127.out)|exact HB.out)) hb);clear BK127;clear HB;have BK127:=n0_;have HB:=n1_;clear n0_ n1_;(try clear hb);(try clear hb2);(try clear hk);(try clear hi)))
   go_ret
   exact ⟨by first|rfl|(simp [errW_none,errW_some] <;> rfl)|(simp [*,errW_none,errW_some] <;> rfl),by repeat (first|(with_reducible first|exact HB.out|apply below_alloc|apply pw_below_drewN|apply below_drew1|refine below_set ?_ GE127.out)|exact HB.out)⟩
  ·rw [if_neg c3] at H
   have c3b0 : ((l0_3.length : Int) == 0) = false:=beq_eq_false_iff_ne.mpr c3
   have c3b1 : ((l0_3.length : Int) != 0) = true:=bne_iff_ne.mpr c3
   have c3b2 : ¬ (l0_3 = []):=fun h_=>c3 (by rw [h_];rfl)
   obtain rfl:=Option.some.inj H
   go_enter Tryd.func52,Tryd.ntmps52
   go_wp2_with (first|((with_reducible refine gate_dst (N:=1) rfl ?_);refine box_event ?hg (N:=1) ?hd (cs:=#[.int .i64 a0_0,.bool a0_1,.string a0_2,.slice A0_3 l0_3.length c0_3]) (t:=49) ?hr ?_;(case hd=>rfl);(case hg=>rfl);(case hr=>first|(go_simp;done)|(go_simp;rfl));intro gb127 hg w8 hbox hb;have n0_:=Aside0.mk (below_step (by repeat (first|(with_reducible first|exact HB.out|apply below_alloc|apply pw_below_drewN|apply below_drew1)|exact HB.out)) hb);have n1_:=Aside0.mk (hbox);have n2_:=Aside0.mk ((by rw [hg];exact (below_size (by repeat (first|(with_reducible first|exact HB.out|apply below_alloc|apply pw_below_drewN|apply below_drew1)|exact HB.out))) : w.heap.size ≤ gb127));have n3_:=Aside0.mk ((by rw [hg];exact (below_size (by repeat (first|(with_reducible first|exact HB.out|apply below_alloc|apply pw_below_drewN|apply below_drew1)|exact HB.out))) : w.heap.size ≤ gb127));clear HB;have HB:=n0_;have BK127:=n1_;have GW127:=n2_;have GE127:=n3_;clear n0_ n1_ n2_ n3_;clear hb hbox hg;have hcz9_0 : w8.cell? ⟨gb127,0,none⟩ = some (.int .i64 a0_0):=(blk_cell BK127.out 0).trans rfl;have hcz9_1 : w8.cell? ⟨gb127,1,none⟩ = some (.bool a0_1):=(blk_cell BK127.out 1).trans rfl;have hcz9_2 : w8.cell? ⟨gb127,2,none⟩ = some (.string a0_2):=(blk_cell BK127.out 2).trans rfl;have hcz9_3 : w8.cell? ⟨gb127,3,none⟩ = some (.slice A0_3 l0_3.length c0_3):=(blk_cell BK127.out 3).trans rfl;have hfz9_0:=blk_frozen BK127.out 0;have hfz9_1:=blk_frozen BK127.out 1;have hfz9_2:=blk_frozen BK127.out 2;have hfz9_3:=blk_frozen BK127.out 3))
   go_ret
   exact ⟨by first|rfl|(simp [errW_none,errW_some] <;> rfl)|(simp [*,errW_none,errW_some] <;> rfl),by repeat (first|(with_reducible first|exact HB.out|apply below_alloc|apply pw_below_drewN|apply below_drew1|refine below_set ?_ GE127.out)|exact HB.out)⟩
 ·rw [if_neg c2] at H
  have c2b0 : (a0_0 == 0) = false:=beq_eq_false_iff_ne.mpr c2
  have c2b1 : (a0_0 != 0) = true:=bne_iff_ne.mpr c2
  have HC10:=Aside0.mk H
  clear H
  go_enter Tryd.func52,Tryd.ntmps52
  go_upto_if 15 with (first|((with_reducible refine gate_dst (N:=1) rfl ?_);refine box_event ?hg (N:=1) ?hd (cs:=#[.int .i64 a0_0,.bool a0_1,.string a0_2,.slice A0_3 l0_3.length c0_3]) (t:=49) ?hr ?_;(case hd=>rfl);(case hg=>rfl);(case hr=>first|(go_simp;done)|(go_simp;rfl));intro gb127 hg w11 hbox hb;have n0_:=Aside0.mk (below_step (by repeat (first|(with_reducible first|exact HB.out|apply below_alloc|apply pw_below_drewN|apply below_drew1)|exact HB.out)) hb);have n1_:=Aside0.mk (hbox);have n2_:=Aside0.mk ((by rw [hg];exact (below_size (by repeat (first|(with_reducible first|exact HB.out|apply below_alloc|apply pw_below_drewN|apply below_drew1)|exact HB.out))) : w.heap.size ≤ gb127));have n3_:=Aside0.mk ((by rw [hg];exact (below_size (by repeat (first|(with_reducible first|exact HB.out|apply below_alloc|apply pw_below_drewN|apply below_drew1)|exact HB.out))) : w.heap.size ≤ gb127));clear HB;have HB:=n0_;have BK127:=n1_;have GW127:=n2_;have GE127:=n3_;clear n0_ n1_ n2_ n3_;clear hb hbox hg;have hcz12_0 : w11.cell? ⟨gb127,0,none⟩ = some (.int .i64 a0_0):=(blk_cell BK127.out 0).trans rfl;have hcz12_1 : w11.cell? ⟨gb127,1,none⟩ = some (.bool a0_1):=(blk_cell BK127.out 1).trans rfl;have hcz12_2 : w11.cell? ⟨gb127,2,none⟩ = some (.string a0_2):=(blk_cell BK127.out 2).trans rfl;have hcz12_3 : w11.cell? ⟨gb127,3,none⟩ = some (.slice A0_3 l0_3.length c0_3):=(blk_cell BK127.out 3).trans rfl;have hfz12_0:=blk_frozen BK127.out 0;have hfz12_1:=blk_frozen BK127.out 1;have hfz12_2:=blk_frozen BK127.out 2;have hfz12_3:=blk_frozen BK127.out 3))
  (try simp only [Act.put,List.setIfInBounds_toArray,List.set_cons_zero,List.set_cons_succ])
  go_cut [15] (fun v15 wc=>∃ (kq : Nat) (x15_9 : Bool),v15 = .bool x15_9 ∧ Aside0 (spec_l2kidsOk.j0 kq a0_0 x15_9 a0_0 a0_1 a0_2 l0_3 = some r) ∧ Aside0 (kq ≤ k) ∧ Aside0 (wc.heap[gb127]? = some (.cells #[.int .i64 a0_0,.bool a0_1,.string a0_2,(.slice A0_3 l0_3.length c0_3)] 49 (0,0))) ∧ Aside0 (Below w.heap.size w wc))
  case first =>
   have H:=HC10.out
   clear HC10
   by_cases c13 : a0_0 = 1
   ·rw [if_pos c13] at H
    have c13b0 : (a0_0 == 1) = true:=beq_iff_eq.mpr c13
    have c13b1 : (a0_0 != 1) = false:=bne_eq_false_iff_eq.mpr c13
    clear c13
    (first|rw [c13b0]|(simp only [i64_w,i32_w];rw [c13b0])|skip)
    have H':=Aside0.mk H
    clear H
    go_wp2
    go_meet
    case rel=>exact ⟨_,((a0_0 == 1)),(by first|rfl|(simp;done)|(simp [*];done)),H',⟨by first|omega|exact Nat.le_refl _⟩,⟨by (with_reducible repeat (first|refine blk_drewN ?_ _|refine blk_drew ?_|refine blk_alloc ?_ _));exact BK127.out⟩,⟨by repeat (first|(with_reducible first|exact HB.out|apply below_alloc|apply pw_below_drewN|apply below_drew1|refine below_set ?_ GE127.out)|exact HB.out)⟩⟩
   ·rw [if_neg c13] at H
    have c13b0 : (a0_0 == 1) = false:=beq_eq_false_iff_ne.mpr c13
    have c13b1 : (a0_0 != 1) = true:=bne_iff_ne.mpr c13
    (first|rw [c13b0]|(simp only [i64_w,i32_w];rw [c13b0])|skip)
    have H':=Aside0.mk H
    clear H
    go_wp2
    go_meet
    case rel=>exact ⟨_,((a0_0 == 2)),(by first|rfl|(simp;done)|(simp [*];done)),H',⟨by first|omega|exact Nat.le_refl _⟩,⟨by (with_reducible repeat (first|refine blk_drewN ?_ _|refine blk_drew ?_|refine blk_alloc ?_ _));exact BK127.out⟩,⟨by repeat (first|(with_reducible first|exact HB.out|apply below_alloc|apply pw_below_drewN|apply below_drew1|refine below_set ?_ GE127.out)|exact HB.out)⟩⟩
  case rest =>
   clear HC10
   try clear c1
   try clear c2
   try clear c2b0
   try clear c2b1
   try clear p2
   try clear c3
   try clear c3b0
   try clear c3b1
   try clear c3b2
   try clear c5
   try clear c13
   try clear c13b0
   try clear c13b1
   try clear hcz12_0
   try clear hcz12_1
   try clear hcz12_2
   try clear hcz12_3
   try clear hcz6_0
   try clear hcz6_1
   try clear hcz6_2
   try clear hcz6_3
   try clear hcz9_0
   try clear hcz9_1
   try clear hcz9_2
   try clear hcz9_3
   try clear hfz12_0
   try clear hfz12_1
   try clear hfz12_2
   try clear hfz12_3
   try clear hfz6_0
   try clear hfz6_1
   try clear hfz6_2
   try clear hfz6_3
   try clear hfz9_0
   try clear hfz9_1
   try clear hfz9_2
   try clear hfz9_3
   obtain ⟨kq,x15_9,rfl,HA,HJ9,BK127,HB⟩:=hcut
   cases kq with
   | zero=>exact absurd HA.out (by simp [spec_l2kidsOk.j0])
   | succ kj9 =>
    have H:=HA.out
    clear HA
    simp only [spec_l2kidsOk.j0] at H
    by_cases c14 : x15_9 = true
    ·subst c14
     have H1 : (if (l0_3.length : Int) = 0 then (if a0_1 = true then (some false) else (some (a0_2.toList == ([] : List UInt8)))) else (some false)) = some r:=by rw [if_pos rfl] at H;exact H
     clear H
     have H:=H1
     clear H1
     by_cases c15 : (l0_3.length : Int) = 0
     ·rw [if_pos c15] at H
      have c15b0 : ((l0_3.length : Int) == 0) = true:=beq_iff_eq.mpr c15
      have c15b1 : ((l0_3.length : Int) != 0) = false:=bne_eq_false_iff_eq.mpr c15
      clear c15
      by_cases c16 : a0_1 = true
      ·subst c16
       have H1 : (some false) = some r:=by rw [if_pos rfl] at H;exact H
       clear H
       have H:=H1
       clear H1
       obtain rfl:=Option.some.inj H
       have hcz17_0 : wc.cell? ⟨gb127,0,none⟩ = some (.int .i64 a0_0):=(blk_cell BK127.out 0).trans rfl
       have hcz17_1 : wc.cell? ⟨gb127,1,none⟩ = some (.bool true):=(blk_cell BK127.out 1).trans rfl
       have hcz17_2 : wc.cell? ⟨gb127,2,none⟩ = some (.string a0_2):=(blk_cell BK127.out 2).trans rfl
       have hcz17_3 : wc.cell? ⟨gb127,3,none⟩ = some (.slice A0_3 l0_3.length c0_3):=(blk_cell BK127.out 3).trans rfl
       have hfz17_0:=blk_frozen BK127.out 0
       have hfz17_1:=blk_frozen BK127.out 1
       have hfz17_2:=blk_frozen BK127.out 2
       have hfz17_3:=blk_frozen BK127.out 3
       go_wp2
       go_ret
       exact ⟨by first|rfl|(simp [errW_none,errW_some] <;> rfl)|(simp [*,errW_none,errW_some] <;> rfl),by repeat (first|(with_reducible first|exact HB.out|apply below_alloc|apply pw_below_drewN|apply below_drew1|refine below_set ?_ GE127.out)|exact HB.out)⟩
      ·replace c16:=Bool.eq_false_iff.mpr c16
       subst c16
       have H1 : (some (a0_2.toList == ([] : List UInt8))) = some r:=by rw [if_neg (show ¬ (false = true) by decide)] at H;exact H
       clear H
       have H:=H1
       clear H1
       obtain rfl:=Option.some.inj H
       have hcz18_0 : wc.cell? ⟨gb127,0,none⟩ = some (.int .i64 a0_0):=(blk_cell BK127.out 0).trans rfl
       have hcz18_1 : wc.cell? ⟨gb127,1,none⟩ = some (.bool false):=(blk_cell BK127.out 1).trans rfl
       have hcz18_2 : wc.cell? ⟨gb127,2,none⟩ = some (.string a0_2):=(blk_cell BK127.out 2).trans rfl
       have hcz18_3 : wc.cell? ⟨gb127,3,none⟩ = some (.slice A0_3 l0_3.length c0_3):=(blk_cell BK127.out 3).trans rfl
       have hfz18_0:=blk_frozen BK127.out 0
       have hfz18_1:=blk_frozen BK127.out 1
       have hfz18_2:=blk_frozen BK127.out 2
       have hfz18_3:=blk_frozen BK127.out 3
       go_wp2
       go_ret
       exact ⟨by first|rfl|(simp [errW_none,errW_some] <;> rfl)|(simp [*,errW_none,errW_some] <;> rfl),by repeat (first|(with_reducible first|exact HB.out|apply below_alloc|apply pw_below_drewN|apply below_drew1|refine below_set ?_ GE127.out)|exact HB.out)⟩
     ·rw [if_neg c15] at H
      have c15b0 : ((l0_3.length : Int) == 0) = false:=beq_eq_false_iff_ne.mpr c15
      have c15b1 : ((l0_3.length : Int) != 0) = true:=bne_iff_ne.mpr c15
      have c15b2 : ¬ (l0_3 = []):=fun h_=>c15 (by rw [h_];rfl)
      obtain rfl:=Option.some.inj H
      have hcz19_0 : wc.cell? ⟨gb127,0,none⟩ = some (.int .i64 a0_0):=(blk_cell BK127.out 0).trans rfl
      have hcz19_1 : wc.cell? ⟨gb127,1,none⟩ = some (.bool a0_1):=(blk_cell BK127.out 1).trans rfl
      have hcz19_2 : wc.cell? ⟨gb127,2,none⟩ = some (.string a0_2):=(blk_cell BK127.out 2).trans rfl
      have hcz19_3 : wc.cell? ⟨gb127,3,none⟩ = some (.slice A0_3 l0_3.length c0_3):=(blk_cell BK127.out 3).trans rfl
      have hfz19_0:=blk_frozen BK127.out 0
      have hfz19_1:=blk_frozen BK127.out 1
      have hfz19_2:=blk_frozen BK127.out 2
      have hfz19_3:=blk_frozen BK127.out 3
      go_wp2
      go_ret
      exact ⟨by first|rfl|(simp [errW_none,errW_some] <;> rfl)|(simp [*,errW_none,errW_some] <;> rfl),by repeat (first|(with_reducible first|exact HB.out|apply below_alloc|apply pw_below_drewN|apply below_drew1|refine below_set ?_ GE127.out)|exact HB.out)⟩
    ·replace c14:=Bool.eq_false_iff.mpr c14
     subst c14
     have H1 : (if a0_0 = 3 then (spec_l2kidsOk.j1 kj9 a0_0 (a0_0 == 3) a0_0 a0_1 a0_2 l0_3) else (spec_l2kidsOk.j1 kj9 a0_0 (a0_0 == 4) a0_0 a0_1 a0_2 l0_3)) = some r:=by rw [if_neg (show ¬ (false = true) by decide)] at H;exact H
     clear H
     have H:=H1
     clear H1
     have HC20:=Aside0.mk H
     clear H
     go_upto_if 32 with (fail)
     go_cut [32] (fun v32 wc=>∃ (kq : Nat) (x32_19 : Bool),v32 = .bool x32_19 ∧ Aside0 (spec_l2kidsOk.j1 kq a0_0 x32_19 a0_0 a0_1 a0_2 l0_3 = some r) ∧ Aside0 (kq ≤ kj9) ∧ Aside0 (wc.heap[gb127]? = some (.cells #[.int .i64 a0_0,.bool a0_1,.string a0_2,(.slice A0_3 l0_3.length c0_3)] 49 (0,0))) ∧ Aside0 (Below w.heap.size w wc))
     case first =>
      have H:=HC20.out
      clear HC20
      by_cases c21 : a0_0 = 3
      ·rw [if_pos c21] at H
       have c21b0 : (a0_0 == 3) = true:=beq_iff_eq.mpr c21
       have c21b1 : (a0_0 != 3) = false:=bne_eq_false_iff_eq.mpr c21
       clear c21
       (first|rw [c21b0]|(simp only [i64_w,i32_w];rw [c21b0])|skip)
       have H':=Aside0.mk H
       clear H
       go_wp2
       go_meet
       case rel=>exact ⟨_,((a0_0 == 3)),(by first|rfl|(simp;done)|(simp [*];done)),H',⟨by have:=HJ9.out;first|omega|exact Nat.le_refl _⟩,⟨by (with_reducible repeat (first|refine blk_drewN ?_ _|refine blk_drew ?_|refine blk_alloc ?_ _));exact BK127.out⟩,⟨by repeat (first|(with_reducible first|exact HB.out|apply below_alloc|apply pw_below_drewN|apply below_drew1|refine below_set ?_ GE127.out)|exact HB.out)⟩⟩
      ·rw [if_neg c21] at H
       have c21b0 : (a0_0 == 3) = false:=beq_eq_false_iff_ne.mpr c21
       have c21b1 : (a0_0 != 3) = true:=bne_iff_ne.mpr c21
       (first|rw [c21b0]|(simp only [i64_w,i32_w];rw [c21b0])|skip)
       have H':=Aside0.mk H
       clear H
       go_wp2
       go_meet
       case rel=>exact ⟨_,((a0_0 == 4)),(by first|rfl|(simp;done)|(simp [*];done)),H',⟨by have:=HJ9.out;first|omega|exact Nat.le_refl _⟩,⟨by (with_reducible repeat (first|refine blk_drewN ?_ _|refine blk_drew ?_|refine blk_alloc ?_ _));exact BK127.out⟩,⟨by repeat (first|(with_reducible first|exact HB.out|apply below_alloc|apply pw_below_drewN|apply below_drew1|refine below_set ?_ GE127.out)|exact HB.out)⟩⟩
     case rest =>
      clear HC20
      try clear c1
      try clear c2
      try clear c2b0
      try clear c2b1
      try clear p2
      try clear c3
      try clear c3b0
      try clear c3b1
      try clear c3b2
      try clear c5
      try clear c13
      try clear c13b0
      try clear c13b1
      try clear c14
      try clear c15
      try clear c15b0
      try clear c15b1
      try clear c15b2
      try clear c16
      try clear c21
      try clear c21b0
      try clear c21b1
      try clear hcz12_0
      try clear hcz12_1
      try clear hcz12_2
      try clear hcz12_3
      try clear hcz17_0
      try clear hcz17_1
      try clear hcz17_2
      try clear hcz17_3
      try clear hcz18_0
      try clear hcz18_1
      try clear hcz18_2
      try clear hcz18_3
      try clear hcz19_0
      try clear hcz19_1
      try clear hcz19_2
      try clear hcz19_3
      try clear hcz6_0
      try clear hcz6_1
      try clear hcz6_2
      try clear hcz6_3
      try clear hcz9_0
      try clear hcz9_1
      try clear hcz9_2
      try clear hcz9_3
      try clear hfz12_0
      try clear hfz12_1
      try clear hfz12_2
      try clear hfz12_3
      try clear hfz17_0
      try clear hfz17_1
      try clear hfz17_2
      try clear hfz17_3
      try clear hfz18_0
      try clear hfz18_1
      try clear hfz18_2
      try clear hfz18_3
      try clear hfz19_0
      try clear hfz19_1
      try clear hfz19_2
      try clear hfz19_3
      try clear hfz6_0
      try clear hfz6_1
      try clear hfz6_2
      try clear hfz6_3
      try clear hfz9_0
      try clear hfz9_1
      try clear hfz9_2
      try clear hfz9_3
      try clear p2
      obtain ⟨kq,x32_19,rfl,HA,HJ19,BK127,HB⟩:=hcut
      cases kq with
      | zero=>exact absurd HA.out (by simp [spec_l2kidsOk.j1])
      | succ kj19 =>
       have H:=HA.out
       clear HA
       simp only [spec_l2kidsOk.j1] at H
       by_cases c22 : x32_19 = true
       ·subst c22
        have H1 : (if (l0_3.length : Int) ≥ 2 then (if a0_1 = true then (some false) else (some (a0_2.toList == ([] : List UInt8)))) else (some false)) = some r:=by rw [if_pos rfl] at H;exact H
        clear H
        have H:=H1
        clear H1
        by_cases c23 : (l0_3.length : Int) ≥ 2
        ·rw [if_pos c23] at H
         have c23b0 : decide (2 ≤ (l0_3.length : Int)) = true:=decide_eq_true c23
         have c23b1 : decide (2 ≤ l0_3.length) = true:=decide_eq_true (by omega)
         clear c23
         by_cases c24 : a0_1 = true
         ·subst c24
          have H1 : (some false) = some r:=by rw [if_pos rfl] at H;exact H
          clear H
          have H:=H1
          clear H1
          obtain rfl:=Option.some.inj H
          have hcz25_0 : wc.cell? ⟨gb127,0,none⟩ = some (.int .i64 a0_0):=(blk_cell BK127.out 0).trans rfl
          have hcz25_1 : wc.cell? ⟨gb127,1,none⟩ = some (.bool true):=(blk_cell BK127.out 1).trans rfl
          have hcz25_2 : wc.cell? ⟨gb127,2,none⟩ = some (.string a0_2):=(blk_cell BK127.out 2).trans rfl
          have hcz25_3 : wc.cell? ⟨gb127,3,none⟩ = some (.slice A0_3 l0_3.length c0_3):=(blk_cell BK127.out 3).trans rfl
          have hfz25_0:=blk_frozen BK127.out 0
          have hfz25_1:=blk_frozen BK127.out 1
          have hfz25_2:=blk_frozen BK127.out 2
          have hfz25_3:=blk_frozen BK127.out 3
          go_wp2
          go_ret
          exact ⟨by first|rfl|(simp [errW_none,errW_some] <;> rfl)|(simp [*,errW_none,errW_some] <;> rfl),by repeat (first|(with_reducible first|exact HB.out|apply below_alloc|apply pw_below_drewN|apply below_drew1|refine below_set ?_ GE127.out)|exact HB.out)⟩
         ·replace c24:=Bool.eq_false_iff.mpr c24
          subst c24
          have H1 : (some (a0_2.toList == ([] : List UInt8))) = some r:=by rw [if_neg (show ¬ (false = true) by decide)] at H;exact H
          clear H
          have H:=H1
          clear H1
          obtain rfl:=Option.some.inj H
          have hcz26_0 : wc.cell? ⟨gb127,0,none⟩ = some (.int .i64 a0_0):=(blk_cell BK127.out 0).trans rfl
          have hcz26_1 : wc.cell? ⟨gb127,1,none⟩ = some (.bool false):=(blk_cell BK127.out 1).trans rfl
          have hcz26_2 : wc.cell? ⟨gb127,2,none⟩ = some (.string a0_2):=(blk_cell BK127.out 2).trans rfl
          have hcz26_3 : wc.cell? ⟨gb127,3,none⟩ = some (.slice A0_3 l0_3.length c0_3):=(blk_cell BK127.out 3).trans rfl
          have hfz26_0:=blk_frozen BK127.out 0
          have hfz26_1:=blk_frozen BK127.out 1
          have hfz26_2:=blk_frozen BK127.out 2
          have hfz26_3:=blk_frozen BK127.out 3
          go_wp2
          go_ret
          exact ⟨by first|rfl|(simp [errW_none,errW_some] <;> rfl)|(simp [*,errW_none,errW_some] <;> rfl),by repeat (first|(with_reducible first|exact HB.out|apply below_alloc|apply pw_below_drewN|apply below_drew1|refine below_set ?_ GE127.out)|exact HB.out)⟩
        ·rw [if_neg c23] at H
         have c23b0 : decide (2 ≤ (l0_3.length : Int)) = false:=decide_eq_false c23
         have c23b1 : decide (2 ≤ l0_3.length) = false:=decide_eq_false (by omega)
         clear c23
         obtain rfl:=Option.some.inj H
         have hcz27_0 : wc.cell? ⟨gb127,0,none⟩ = some (.int .i64 a0_0):=(blk_cell BK127.out 0).trans rfl
         have hcz27_1 : wc.cell? ⟨gb127,1,none⟩ = some (.bool a0_1):=(blk_cell BK127.out 1).trans rfl
         have hcz27_2 : wc.cell? ⟨gb127,2,none⟩ = some (.string a0_2):=(blk_cell BK127.out 2).trans rfl
         have hcz27_3 : wc.cell? ⟨gb127,3,none⟩ = some (.slice A0_3 l0_3.length c0_3):=(blk_cell BK127.out 3).trans rfl
         have hfz27_0:=blk_frozen BK127.out 0
         have hfz27_1:=blk_frozen BK127.out 1
         have hfz27_2:=blk_frozen BK127.out 2
         have hfz27_3:=blk_frozen BK127.out 3
         go_wp2
         go_ret
         exact ⟨by first|rfl|(simp [errW_none,errW_some] <;> rfl)|(simp [*,errW_none,errW_some] <;> rfl),by repeat (first|(with_reducible first|exact HB.out|apply below_alloc|apply pw_below_drewN|apply below_drew1|refine below_set ?_ GE127.out)|exact HB.out)⟩
       ·replace c22:=Bool.eq_false_iff.mpr c22
        subst c22
        have H1 : (if a0_0 = 5 then (if (l0_3.length : Int) = 1 then (if a0_1 = true then (some false) else (some (a0_2.toList == ([] : List UInt8)))) else (some false)) else (if a0_0 = 6 then (if (l0_3.length : Int) = 1 then (if a0_1 = true then (some false) else (some (a0_2.toList == ([] : List UInt8)))) else (some false)) else (if a0_0 = 7 then (if (l0_3.length : Int) = 1 then (if a0_1 = true then (some false) else (some (a0_2.toList == ([] : List UInt8)))) else (some false)) else (some false)))) = some r:=by rw [if_neg (show ¬ (false = true) by decide)] at H;exact H
        clear H
        have H:=H1
        clear H1
        by_cases c28 : a0_0 = 5
        ·rw [if_pos c28] at H
         have c28b0 : (a0_0 == 5) = true:=beq_iff_eq.mpr c28
         have c28b1 : (a0_0 != 5) = false:=bne_eq_false_iff_eq.mpr c28
         clear c28
         by_cases c29 : (l0_3.length : Int) = 1
         ·rw [if_pos c29] at H
          have c29b0 : ((l0_3.length : Int) == 1) = true:=beq_iff_eq.mpr c29
          have c29b1 : ((l0_3.length : Int) != 1) = false:=bne_eq_false_iff_eq.mpr c29
          clear c29
          by_cases c30 : a0_1 = true
          ·subst c30
           have H1 : (some false) = some r:=by rw [if_pos rfl] at H;exact H
           clear H
           have H:=H1
           clear H1
           obtain rfl:=Option.some.inj H
           have hcz31_0 : wc.cell? ⟨gb127,0,none⟩ = some (.int .i64 a0_0):=(blk_cell BK127.out 0).trans rfl
           have hcz31_1 : wc.cell? ⟨gb127,1,none⟩ = some (.bool true):=(blk_cell BK127.out 1).trans rfl
           have hcz31_2 : wc.cell? ⟨gb127,2,none⟩ = some (.string a0_2):=(blk_cell BK127.out 2).trans rfl
           have hcz31_3 : wc.cell? ⟨gb127,3,none⟩ = some (.slice A0_3 l0_3.length c0_3):=(blk_cell BK127.out 3).trans rfl
           have hfz31_0:=blk_frozen BK127.out 0
           have hfz31_1:=blk_frozen BK127.out 1
           have hfz31_2:=blk_frozen BK127.out 2
           have hfz31_3:=blk_frozen BK127.out 3
           go_wp2
           go_ret
           exact ⟨by first|rfl|(simp [errW_none,errW_some] <;> rfl)|(simp [*,errW_none,errW_some] <;> rfl),by repeat (first|(with_reducible first|exact HB.out|apply below_alloc|apply pw_below_drewN|apply below_drew1|refine below_set ?_ GE127.out)|exact HB.out)⟩
          ·replace c30:=Bool.eq_false_iff.mpr c30
           subst c30
           have H1 : (some (a0_2.toList == ([] : List UInt8))) = some r:=by rw [if_neg (show ¬ (false = true) by decide)] at H;exact H
           clear H
           have H:=H1
           clear H1
           obtain rfl:=Option.some.inj H
           have hcz32_0 : wc.cell? ⟨gb127,0,none⟩ = some (.int .i64 a0_0):=(blk_cell BK127.out 0).trans rfl
           have hcz32_1 : wc.cell? ⟨gb127,1,none⟩ = some (.bool false):=(blk_cell BK127.out 1).trans rfl
           have hcz32_2 : wc.cell? ⟨gb127,2,none⟩ = some (.string a0_2):=(blk_cell BK127.out 2).trans rfl
           have hcz32_3 : wc.cell? ⟨gb127,3,none⟩ = some (.slice A0_3 l0_3.length c0_3):=(blk_cell BK127.out 3).trans rfl
           have hfz32_0:=blk_frozen BK127.out 0
           have hfz32_1:=blk_frozen BK127.out 1
           have hfz32_2:=blk_frozen BK127.out 2
           have hfz32_3:=blk_frozen BK127.out 3
           go_wp2
           go_ret
           exact ⟨by first|rfl|(simp [errW_none,errW_some] <;> rfl)|(simp [*,errW_none,errW_some] <;> rfl),by repeat (first|(with_reducible first|exact HB.out|apply below_alloc|apply pw_below_drewN|apply below_drew1|refine below_set ?_ GE127.out)|exact HB.out)⟩
         ·rw [if_neg c29] at H
          have c29b0 : ((l0_3.length : Int) == 1) = false:=beq_eq_false_iff_ne.mpr c29
          have c29b1 : ((l0_3.length : Int) != 1) = true:=bne_iff_ne.mpr c29
          obtain rfl:=Option.some.inj H
          have hcz33_0 : wc.cell? ⟨gb127,0,none⟩ = some (.int .i64 a0_0):=(blk_cell BK127.out 0).trans rfl
          have hcz33_1 : wc.cell? ⟨gb127,1,none⟩ = some (.bool a0_1):=(blk_cell BK127.out 1).trans rfl
          have hcz33_2 : wc.cell? ⟨gb127,2,none⟩ = some (.string a0_2):=(blk_cell BK127.out 2).trans rfl
          have hcz33_3 : wc.cell? ⟨gb127,3,none⟩ = some (.slice A0_3 l0_3.length c0_3):=(blk_cell BK127.out 3).trans rfl
          have hfz33_0:=blk_frozen BK127.out 0
          have hfz33_1:=blk_frozen BK127.out 1
          have hfz33_2:=blk_frozen BK127.out 2
          have hfz33_3:=blk_frozen BK127.out 3
          go_wp2
          go_ret
          exact ⟨by first|rfl|(simp [errW_none,errW_some] <;> rfl)|(simp [*,errW_none,errW_some] <;> rfl),by repeat (first|(with_reducible first|exact HB.out|apply below_alloc|apply pw_below_drewN|apply below_drew1|refine below_set ?_ GE127.out)|exact HB.out)⟩
        ·rw [if_neg c28] at H
         have c28b0 : (a0_0 == 5) = false:=beq_eq_false_iff_ne.mpr c28
         have c28b1 : (a0_0 != 5) = true:=bne_iff_ne.mpr c28
         by_cases c34 : a0_0 = 6
         ·rw [if_pos c34] at H
          have c34b0 : (a0_0 == 6) = true:=beq_iff_eq.mpr c34
          have c34b1 : (a0_0 != 6) = false:=bne_eq_false_iff_eq.mpr c34
          clear c34
          by_cases c35 : (l0_3.length : Int) = 1
          ·rw [if_pos c35] at H
           have c35b0 : ((l0_3.length : Int) == 1) = true:=beq_iff_eq.mpr c35
           have c35b1 : ((l0_3.length : Int) != 1) = false:=bne_eq_false_iff_eq.mpr c35
           clear c35
           by_cases c36 : a0_1 = true
           ·subst c36
            have H1 : (some false) = some r:=by rw [if_pos rfl] at H;exact H
            clear H
            have H:=H1
            clear H1
            obtain rfl:=Option.some.inj H
            have hcz37_0 : wc.cell? ⟨gb127,0,none⟩ = some (.int .i64 a0_0):=(blk_cell BK127.out 0).trans rfl
            have hcz37_1 : wc.cell? ⟨gb127,1,none⟩ = some (.bool true):=(blk_cell BK127.out 1).trans rfl
            have hcz37_2 : wc.cell? ⟨gb127,2,none⟩ = some (.string a0_2):=(blk_cell BK127.out 2).trans rfl
            have hcz37_3 : wc.cell? ⟨gb127,3,none⟩ = some (.slice A0_3 l0_3.length c0_3):=(blk_cell BK127.out 3).trans rfl
            have hfz37_0:=blk_frozen BK127.out 0
            have hfz37_1:=blk_frozen BK127.out 1
            have hfz37_2:=blk_frozen BK127.out 2
            have hfz37_3:=blk_frozen BK127.out 3
            go_wp2
            go_ret
            exact ⟨by first|rfl|(simp [errW_none,errW_some] <;> rfl)|(simp [*,errW_none,errW_some] <;> rfl),by repeat (first|(with_reducible first|exact HB.out|apply below_alloc|apply pw_below_drewN|apply below_drew1|refine below_set ?_ GE127.out)|exact HB.out)⟩
           ·replace c36:=Bool.eq_false_iff.mpr c36
            subst c36
            have H1 : (some (a0_2.toList == ([] : List UInt8))) = some r:=by rw [if_neg (show ¬ (false = true) by decide)] at H;exact H
            clear H
            have H:=H1
            clear H1
            obtain rfl:=Option.some.inj H
            have hcz38_0 : wc.cell? ⟨gb127,0,none⟩ = some (.int .i64 a0_0):=(blk_cell BK127.out 0).trans rfl
            have hcz38_1 : wc.cell? ⟨gb127,1,none⟩ = some (.bool false):=(blk_cell BK127.out 1).trans rfl
            have hcz38_2 : wc.cell? ⟨gb127,2,none⟩ = some (.string a0_2):=(blk_cell BK127.out 2).trans rfl
            have hcz38_3 : wc.cell? ⟨gb127,3,none⟩ = some (.slice A0_3 l0_3.length c0_3):=(blk_cell BK127.out 3).trans rfl
            have hfz38_0:=blk_frozen BK127.out 0
            have hfz38_1:=blk_frozen BK127.out 1
            have hfz38_2:=blk_frozen BK127.out 2
            have hfz38_3:=blk_frozen BK127.out 3
            go_wp2
            go_ret
            exact ⟨by first|rfl|(simp [errW_none,errW_some] <;> rfl)|(simp [*,errW_none,errW_some] <;> rfl),by repeat (first|(with_reducible first|exact HB.out|apply below_alloc|apply pw_below_drewN|apply below_drew1|refine below_set ?_ GE127.out)|exact HB.out)⟩
          ·rw [if_neg c35] at H
           have c35b0 : ((l0_3.length : Int) == 1) = false:=beq_eq_false_iff_ne.mpr c35
           have c35b1 : ((l0_3.length : Int) != 1) = true:=bne_iff_ne.mpr c35
           obtain rfl:=Option.some.inj H
           have hcz39_0 : wc.cell? ⟨gb127,0,none⟩ = some (.int .i64 a0_0):=(blk_cell BK127.out 0).trans rfl
           have hcz39_1 : wc.cell? ⟨gb127,1,none⟩ = some (.bool a0_1):=(blk_cell BK127.out 1).trans rfl
           have hcz39_2 : wc.cell? ⟨gb127,2,none⟩ = some (.string a0_2):=(blk_cell BK127.out 2).trans rfl
           have hcz39_3 : wc.cell? ⟨gb127,3,none⟩ = some (.slice A0_3 l0_3.length c0_3):=(blk_cell BK127.out 3).trans rfl
           have hfz39_0:=blk_frozen BK127.out 0
           have hfz39_1:=blk_frozen BK127.out 1
           have hfz39_2:=blk_frozen BK127.out 2
           have hfz39_3:=blk_frozen BK127.out 3
           go_wp2
           go_ret
           exact ⟨by first|rfl|(simp [errW_none,errW_some] <;> rfl)|(simp [*,errW_none,errW_some] <;> rfl),by repeat (first|(with_reducible first|exact HB.out|apply below_alloc|apply pw_below_drewN|apply below_drew1|refine below_set ?_ GE127.out)|exact HB.out)⟩
         ·rw [if_neg c34] at H
          have c34b0 : (a0_0 == 6) = false:=beq_eq_false_iff_ne.mpr c34
          have c34b1 : (a0_0 != 6) = true:=bne_iff_ne.mpr c34
          by_cases c40 : a0_0 = 7
          ·rw [if_pos c40] at H
           have c40b0 : (a0_0 == 7) = true:=beq_iff_eq.mpr c40
           have c40b1 : (a0_0 != 7) = false:=bne_eq_false_iff_eq.mpr c40
           clear c40
           by_cases c41 : (l0_3.length : Int) = 1
           ·rw [if_pos c41] at H
            have c41b0 : ((l0_3.length : Int) == 1) = true:=beq_iff_eq.mpr c41
            have c41b1 : ((l0_3.length : Int) != 1) = false:=bne_eq_false_iff_eq.mpr c41
            clear c41
            by_cases c42 : a0_1 = true
            ·subst c42
             have H1 : (some false) = some r:=by rw [if_pos rfl] at H;exact H
             clear H
             have H:=H1
             clear H1
             obtain rfl:=Option.some.inj H
             have hcz43_0 : wc.cell? ⟨gb127,0,none⟩ = some (.int .i64 a0_0):=(blk_cell BK127.out 0).trans rfl
             have hcz43_1 : wc.cell? ⟨gb127,1,none⟩ = some (.bool true):=(blk_cell BK127.out 1).trans rfl
             have hcz43_2 : wc.cell? ⟨gb127,2,none⟩ = some (.string a0_2):=(blk_cell BK127.out 2).trans rfl
             have hcz43_3 : wc.cell? ⟨gb127,3,none⟩ = some (.slice A0_3 l0_3.length c0_3):=(blk_cell BK127.out 3).trans rfl
             have hfz43_0:=blk_frozen BK127.out 0
             have hfz43_1:=blk_frozen BK127.out 1
             have hfz43_2:=blk_frozen BK127.out 2
             have hfz43_3:=blk_frozen BK127.out 3
             go_wp2
             go_ret
             exact ⟨by first|rfl|(simp [errW_none,errW_some] <;> rfl)|(simp [*,errW_none,errW_some] <;> rfl),by repeat (first|(with_reducible first|exact HB.out|apply below_alloc|apply pw_below_drewN|apply below_drew1|refine below_set ?_ GE127.out)|exact HB.out)⟩
            ·replace c42:=Bool.eq_false_iff.mpr c42
             subst c42
             have H1 : (some (a0_2.toList == ([] : List UInt8))) = some r:=by rw [if_neg (show ¬ (false = true) by decide)] at H;exact H
             clear H
             have H:=H1
             clear H1
             obtain rfl:=Option.some.inj H
             have hcz44_0 : wc.cell? ⟨gb127,0,none⟩ = some (.int .i64 a0_0):=(blk_cell BK127.out 0).trans rfl
             have hcz44_1 : wc.cell? ⟨gb127,1,none⟩ = some (.bool false):=(blk_cell BK127.out 1).trans rfl
             have hcz44_2 : wc.cell? ⟨gb127,2,none⟩ = some (.string a0_2):=(blk_cell BK127.out 2).trans rfl
             have hcz44_3 : wc.cell? ⟨gb127,3,none⟩ = some (.slice A0_3 l0_3.length c0_3):=(blk_cell BK127.out 3).trans rfl
             have hfz44_0:=blk_frozen BK127.out 0
             have hfz44_1:=blk_frozen BK127.out 1
             have hfz44_2:=blk_frozen BK127.out 2
             have hfz44_3:=blk_frozen BK127.out 3
             go_wp2
             go_ret
             exact ⟨by first|rfl|(simp [errW_none,errW_some] <;> rfl)|(simp [*,errW_none,errW_some] <;> rfl),by repeat (first|(with_reducible first|exact HB.out|apply below_alloc|apply pw_below_drewN|apply below_drew1|refine below_set ?_ GE127.out)|exact HB.out)⟩
           ·rw [if_neg c41] at H
            have c41b0 : ((l0_3.length : Int) == 1) = false:=beq_eq_false_iff_ne.mpr c41
            have c41b1 : ((l0_3.length : Int) != 1) = true:=bne_iff_ne.mpr c41
            obtain rfl:=Option.some.inj H
            have hcz45_0 : wc.cell? ⟨gb127,0,none⟩ = some (.int .i64 a0_0):=(blk_cell BK127.out 0).trans rfl
            have hcz45_1 : wc.cell? ⟨gb127,1,none⟩ = some (.bool a0_1):=(blk_cell BK127.out 1).trans rfl
            have hcz45_2 : wc.cell? ⟨gb127,2,none⟩ = some (.string a0_2):=(blk_cell BK127.out 2).trans rfl
            have hcz45_3 : wc.cell? ⟨gb127,3,none⟩ = some (.slice A0_3 l0_3.length c0_3):=(blk_cell BK127.out 3).trans rfl
            have hfz45_0:=blk_frozen BK127.out 0
            have hfz45_1:=blk_frozen BK127.out 1
            have hfz45_2:=blk_frozen BK127.out 2
            have hfz45_3:=blk_frozen BK127.out 3
            go_wp2
            go_ret
            exact ⟨by first|rfl|(simp [errW_none,errW_some] <;> rfl)|(simp [*,errW_none,errW_some] <;> rfl),by repeat (first|(with_reducible first|exact HB.out|apply below_alloc|apply pw_below_drewN|apply below_drew1|refine below_set ?_ GE127.out)|exact HB.out)⟩
          ·rw [if_neg c40] at H
           have c40b0 : (a0_0 == 7) = false:=beq_eq_false_iff_ne.mpr c40
           have c40b1 : (a0_0 != 7) = true:=bne_iff_ne.mpr c40
           obtain rfl:=Option.some.inj H
           go_wp2
           go_ret
           exact ⟨by first|rfl|(simp [errW_none,errW_some] <;> rfl)|(simp [*,errW_none,errW_some] <;> rfl),by repeat (first|(with_reducible first|exact HB.out|apply below_alloc|apply pw_below_drewN|apply below_drew1|refine below_set ?_ GE127.out)|exact HB.out)⟩
mutual
def spec_ReOk.j0 : Nat → List (S49) → Bool → Option (Bool)
 | 0,_,_=>none
 | k + 1,x0,x15=>if x15 = true then (some false) else (if 0 ≤ (x0.length : Int) then (if ((x0.length : Int) : Int).toNat ≤ 35184372088832 then (spec_ReOk.l0 k x0 (List.replicate ((x0.length : Int) : Int).toNat 0) 0) else (none)) else (none))
def spec_ReOk.l0 : Nat → List (S49) → List Int → Int → Option (Bool)
 | 0,_,_,_=>none
 | k + 1,x0,x3,x4=>if x4 < (x0.length : Int) then (if 0 ≤ x4 then ((spec_l2kidsOk.f k ((rd_T49 x0 x4).f0) ((rd_T49 x0 x4).f1) ((rd_T49 x0 x4).f2) ((rd_T49 x0 x4).f3)).bind fun t133=>(if t133 = true then (spec_ReOk.l1 k x0 x3 x4 0) else (some false))) else (none)) else (spec_ReOk.l2 k x0 x3 0)
def spec_ReOk.l1 : Nat → List (S49) → List Int → Int → Int → Option (Bool)
 | 0,_,_,_,_=>none
 | k + 1,x0,x3,x4,x5=>if 0 ≤ x4 then (if x4 < (x0.length : Int) then (if x5 < (((rd_T49 x0 x4).f3).length : Int) then (if 0 ≤ x5 then (if (rd ((rd_T49 x0 x4).f3) x5) < 0 then (some false) else (if (rd ((rd_T49 x0 x4).f3) x5) ≥ x4 then (some false) else (if 0 ≤ (rd ((rd_T49 x0 x4).f3) x5) then (if (rd ((rd_T49 x0 x4).f3) x5) < (x3.length : Int) then (if (rd x3 (rd ((rd_T49 x0 x4).f3) x5)) > 0 then (some false) else (spec_ReOk.l1 k x0 (x3.set ((rd ((rd_T49 x0 x4).f3) x5) : Int).toNat (wrap64 ((rd x3 (rd ((rd_T49 x0 x4).f3) x5)) + 1))) x4 (wrap64 (x5 + 1)))) else (none)) else (none)))) else (none)) else (spec_ReOk.l0 k x0 x3 (wrap64 (x4 + 1)))) else (none)) else (none)
def spec_ReOk.l2 : Nat → List (S49) → List Int → Int → Option (Bool)
 | 0,_,_,_=>none
 | k + 1,x0,x3,x7=>if (wrap64 (x7 + 1)) < (x0.length : Int) then (if 0 ≤ x7 then (if x7 < (x3.length : Int) then (if (rd x3 x7) = 1 then (spec_ReOk.l2 k x0 x3 (wrap64 (x7 + 1))) else (some false)) else (none)) else (none)) else (some true)
end
def spec_ReOk.f (k : Nat) (l0 : List (S49)) : Option (Bool):=if (l0.length : Int) < 1 then (spec_ReOk.j0 k l0 true) else (spec_ReOk.j0 k l0 (decide ((l0.length : Int) > 200)))
theorem spec_ReOk.mono_l : ∀ k,(∀ y0 y1,LeO (spec_ReOk.j0 k y0 y1) (spec_ReOk.j0 (k + 1) y0 y1)) ∧ (∀ y0 y1 y2,LeO (spec_ReOk.l0 k y0 y1 y2) (spec_ReOk.l0 (k + 1) y0 y1 y2)) ∧ (∀ y0 y1 y2 y3,LeO (spec_ReOk.l1 k y0 y1 y2 y3) (spec_ReOk.l1 (k + 1) y0 y1 y2 y3)) ∧ (∀ y0 y1 y2,LeO (spec_ReOk.l2 k y0 y1 y2) (spec_ReOk.l2 (k + 1) y0 y1 y2))
 | 0=>⟨fun _ _ r h=>by simp [spec_ReOk.j0] at h,fun _ _ _ r h=>by simp [spec_ReOk.l0] at h,fun _ _ _ _ r h=>by simp [spec_ReOk.l1] at h,fun _ _ _ r h=>by simp [spec_ReOk.l2] at h⟩
 | k + 1=>by
  obtain ⟨ih0,ih1,ih2,ih3⟩:=spec_ReOk.mono_l k
  refine ⟨?_,?_,?_,?_⟩
  ·intro y0 y1
   unfold spec_ReOk.j0
   repeat' first
   | (with_reducible exact ih0 _ _)
   | (with_reducible exact ih1 _ _ _)
   | (with_reducible exact ih2 _ _ _ _)
   | (with_reducible exact ih3 _ _ _)
   | (with_reducible exact spec_l2kidsOk.mono _ _ _ _ _)
   | (with_reducible exact LeO.refl _)
   | (with_reducible exact LeO.none _)
   | (with_reducible refine LeO.ite ?_ ?_)
   | (with_reducible refine LeO.bind ?_ (fun _=>?_))
   | exact ih0 _ _
   | exact ih1 _ _ _
   | exact ih2 _ _ _ _
   | exact ih3 _ _ _
   | exact spec_l2kidsOk.mono _ _ _ _ _
   | exact LeO.none _
   | refine LeO.ite ?_ ?_
   | refine LeO.bind ?_ (fun _=>?_)
  ·intro y0 y1 y2
   unfold spec_ReOk.l0
   repeat' first
   | (with_reducible exact ih0 _ _)
   | (with_reducible exact ih1 _ _ _)
   | (with_reducible exact ih2 _ _ _ _)
   | (with_reducible exact ih3 _ _ _)
   | (with_reducible exact spec_l2kidsOk.mono _ _ _ _ _)
   | (with_reducible exact LeO.refl _)
   | (with_reducible exact LeO.none _)
   | (with_reducible refine LeO.ite ?_ ?_)
   | (with_reducible refine LeO.bind ?_ (fun _=>?_))
   | exact ih0 _ _
   | exact ih1 _ _ _
   | exact ih2 _ _ _ _
   | exact ih3 _ _ _
   | exact spec_l2kidsOk.mono _ _ _ _ _
   | exact LeO.none _
   | refine LeO.ite ?_ ?_
   | refine LeO.bind ?_ (fun _=>?_)
  ·intro y0 y1 y2 y3
   unfold spec_ReOk.l1
   repeat' first
   | (with_reducible exact ih0 _ _)
   | (with_reducible exact ih1 _ _ _)
   | (with_reducible exact ih2 _ _ _ _)
   | (with_reducible exact ih3 _ _ _)
   | (with_reducible exact spec_l2kidsOk.mono _ _ _ _ _)
   | (with_reducible exact LeO.refl _)
   | (with_reducible exact LeO.none _)
   | (with_reducible refine LeO.ite ?_ ?_)
   | (with_reducible refine LeO.bind ?_ (fun _=>?_))
   | exact ih0 _ _
   | exact ih1 _ _ _
   | exact ih2 _ _ _ _
   | exact ih3 _ _ _
   | exact spec_l2kidsOk.mono _ _ _ _ _
   | exact LeO.none _
   | refine LeO.ite ?_ ?_
   | refine LeO.bind ?_ (fun _=>?_)
  ·intro y0 y1 y2
   unfold spec_ReOk.l2
   repeat' first
   | (with_reducible exact ih0 _ _)
   | (with_reducible exact ih1 _ _ _)
   | (with_reducible exact ih2 _ _ _ _)
   | (with_reducible exact ih3 _ _ _)
   | (with_reducible exact spec_l2kidsOk.mono _ _ _ _ _)
   | (with_reducible exact LeO.refl _)
   | (with_reducible exact LeO.none _)
   | (with_reducible refine LeO.ite ?_ ?_)
   | (with_reducible refine LeO.bind ?_ (fun _=>?_))
   | exact ih0 _ _
   | exact ih1 _ _ _
   | exact ih2 _ _ _ _
   | exact ih3 _ _ _
   | exact spec_l2kidsOk.mono _ _ _ _ _
   | exact LeO.none _
   | refine LeO.ite ?_ ?_
   | refine LeO.bind ?_ (fun _=>?_)
theorem spec_ReOk.mono : ∀ a0 k,LeO (spec_ReOk.f k a0) (spec_ReOk.f (k + 1) a0):=by
 intro a0 k
 obtain ⟨ih0,ih1,ih2,ih3⟩:=spec_ReOk.mono_l k
 unfold spec_ReOk.f
 repeat' first
   | (with_reducible exact ih0 _ _)
   | (with_reducible exact ih1 _ _ _)
   | (with_reducible exact ih2 _ _ _ _)
   | (with_reducible exact ih3 _ _ _)
   | (with_reducible exact spec_l2kidsOk.mono _ _ _ _ _)
   | (with_reducible exact LeO.refl _)
   | (with_reducible exact LeO.none _)
   | (with_reducible refine LeO.ite ?_ ?_)
   | (with_reducible refine LeO.bind ?_ (fun _=>?_))
   | exact ih0 _ _
   | exact ih1 _ _ _
   | exact ih2 _ _ _ _
   | exact ih3 _ _ _
   | exact spec_l2kidsOk.mono _ _ _ _ _
   | exact LeO.none _
   | refine LeO.ite ?_ ?_
   | refine LeO.bind ?_ (fun _=>?_)
set_option maxHeartbeats 8000000 in
set_option maxRecDepth 100000 in
theorem spec_ReOk.calls (k : Nat) (A0 : Option Addr) (c0 : Nat) (l0 : List (S49)) (r : Bool) (w : World) (hr0 : Kd.C k49 w A0 l0.length l0) (hc0 : l0.length ≤ c0) (h : spec_ReOk.f k l0 = some r) :
  Calls Tryd.prog 29 #[.slice A0 l0.length c0] w fun e w'=>e = .returned (.bool r) ∧ Below w.heap.size w w':=by
 have hu49:=Tryd.underlying49
 have HR0:=Aside0.mk hr0
 have HC0:=Aside0.mk hc0
 clear hr0 hc0
 have HB:=Aside0.mk (Below.refl w.heap.size w)
 have H : (if (l0.length : Int) < 1 then (spec_ReOk.j0 k l0 true) else (spec_ReOk.j0 k l0 (decide ((l0.length : Int) > 200)))) = some r:=h
 clear h
 have HC2:=Aside0.mk H
 clear H
 go_enter Tryd.func29,Tryd.ntmps29
 go_upto_region 1 with (fail)
 go_cut [15] (fun v15 wc=>∃ (kq : Nat) (x15_1 : Bool),v15 = .bool x15_1 ∧ Aside0 (spec_ReOk.j0 kq l0 x15_1 = some r) ∧ Aside0 (kq ≤ k) ∧ Aside0 (Below w.heap.size w wc))
 case first =>
  have H:=HC2.out
  clear HC2
  by_cases c3 : (l0.length : Int) < 1
  ·rw [if_pos c3] at H
   have c3b0 : decide ((l0.length : Int) < 1) = true:=decide_eq_true c3
   have c3b1 : decide (l0.length < 1) = true:=decide_eq_true (by omega)
   clear c3
   (first|rw [c3b0]|(simp only [i64_w,i32_w];rw [c3b0])|skip)
   have H':=Aside0.mk H
   clear H
   go_wp2
   go_meet
   case rel=>exact ⟨_,(true),(by first|rfl|(simp;done)|(simp [*];done)),H',⟨by first|omega|exact Nat.le_refl _⟩,⟨by repeat (first|(with_reducible first|exact HB.out|apply below_alloc|apply pw_below_drewN|apply below_drew1)|exact HB.out)⟩⟩
  ·rw [if_neg c3] at H
   have c3b0 : decide ((l0.length : Int) < 1) = false:=decide_eq_false c3
   have c3b1 : decide (l0.length < 1) = false:=decide_eq_false (by omega)
   clear c3
   (first|rw [c3b0]|(simp only [i64_w,i32_w];rw [c3b0])|skip)
   have H':=Aside0.mk H
   clear H
   go_wp2
   go_meet
   case rel=>exact ⟨_,(decide ((l0.length : Int) > 200)),(by first|rfl|(simp;done)|(simp [*];done)),H',⟨by first|omega|exact Nat.le_refl _⟩,⟨by repeat (first|(with_reducible first|exact HB.out|apply below_alloc|apply pw_below_drewN|apply below_drew1)|exact HB.out)⟩⟩
 case rest =>
  clear HC2
  try clear c2
  try clear p2
  try clear c3
  try clear c3b0
  try clear c3b1
  obtain ⟨kq,x15_1,rfl,HA,HJ1,HB⟩:=hcut
  cases kq with
  | zero=>exact absurd HA.out (by simp [spec_ReOk.j0])
  | succ kj1 =>
   have H:=HA.out
   clear HA
   simp only [spec_ReOk.j0] at H
   by_cases c4 : x15_1 = true
   ·subst c4
    have H1 : (some false) = some r:=by rw [if_pos rfl] at H;exact H
    clear H
    have H:=H1
    clear H1
    obtain rfl:=Option.some.inj H
    go_wp2
    go_ret
    exact ⟨by first|rfl|(simp [errW_none,errW_some] <;> rfl)|(simp [*,errW_none,errW_some] <;> rfl),by repeat (first|(with_reducible first|exact HB.out|apply below_alloc|apply pw_below_drewN|apply below_drew1)|exact HB.out)⟩
   ·replace c4:=Bool.eq_false_iff.mpr c4
    subst c4
    have H1 : (if 0 ≤ (l0.length : Int) then (if ((l0.length : Int) : Int).toNat ≤ 35184372088832 then (spec_ReOk.l0 kj1 l0 (List.replicate ((l0.length : Int) : Int).toNat 0) 0) else (none)) else (none)) = some r:=by rw [if_neg (show ¬ (false = true) by decide)] at H;exact H
    clear H
    have H:=H1
    clear H1
    by_cases c5 : 0 ≤ (l0.length : Int)
    ·rw [if_pos c5] at H
     have c5b0:=eq_true c5
     have c5b1 : decide (0 ≤ (l0.length : Int)) = true:=decide_eq_true c5
     clear c5
     by_cases c6 : ((l0.length : Int) : Int).toNat ≤ 35184372088832
     ·rw [if_pos c6] at H
      have c6b0:=eq_true c6
      have c6b1 : decide (((l0.length : Int) : Int).toNat ≤ 35184372088832) = true:=decide_eq_true c6
      clear c6
      obtain ⟨y129,hy129⟩ : ∃ y_ : List Int,y_ = (List.replicate ((l0.length : Int) : Int).toNat 0):=⟨_,rfl⟩
      replace H : (spec_ReOk.l0 kj1 l0 y129 0) = some r:=by first|(rw [hy129];with_reducible exact H)|(have H2_:=(Option.bind_some _ _).symm.trans H;rw [hy129];with_reducible exact H2_)|(have H2_:=(Option.bind_some _ _).symm.trans H;with_reducible exact H2_)|with_reducible exact H|(rw [hy129];exact H)|exact H
      have Ny129:=Aside0.mk hy129
      clear hy129
      have H':=Aside0.mk H
      clear H
      go_wp2_with (first|((with_reducible refine gate_dst (N:=18) rfl ?_);(try (refine gate_guard (by rfl) ?_;dsimp only));refine Kd.R_make (Kd.int .i64) _ 3 rfl (N:=18) rfl 31 _ _ rfl (l0.length : Int) rfl rfl Tryd.underlying31 (.int .i64 0) 8 info3 rfl (by decide) (by omega) 0 (ok:=fun _=>True) (okp:=fun _=>True) rfl (fun _ hk=>hk) trivial (of_decide_eq_true (by first|(with_reducible assumption)|assumption)) (Nat.le_trans (Nat.mul_le_mul_right _ (of_decide_eq_true (by first|(with_reducible assumption)|assumption) : (l0.length : Int).toNat ≤ 35184372088832)) (by omega)) (Below.refl _ _) (Nat.le_refl _) ?_;intro v130 w7 ho8 hb hg_ hnew_;clear hg_ hnew_;(first|rw [← Ny129.out] at ho8|(simp only [Int.reduceToNat] at ho8;rw [← Ny129.out] at ho8));have n0_:=Aside0.mk (Kd.R_lower ho8 (below_size (by repeat (first|(with_reducible first|exact HB.out|apply below_alloc|apply pw_below_drewN|apply below_drew1)|exact HB.out))));have n1_:=Aside0.mk (below_step (by repeat (first|(with_reducible first|exact HB.out|apply below_alloc|apply pw_below_drewN|apply below_drew1)|exact HB.out)) hb);clear HB;have HO131:=n0_;have HB:=n1_;clear n0_ n1_;clear hb ho8))
      go_loopg [4] kj1 (fun kq v4 w'=>∃ (x3_2 : List Int) (x4_2 : Int),v4 = .int .i64 x4_2 ∧ Aside0 (spec_ReOk.l0 kq l0 x3_2 x4_2 = some r) ∧ Aside0 (kq ≤ kj1) ∧ Aside0 (Kd.R (Kd.int .i64) 3 w' w.heap.size (fun _=>True) v130 x3_2) ∧ Aside0 (Below w.heap.size w w'))
      case atStart=>exact ⟨(y129),(0),(by first|rfl|(simp;done)|(simp [*];done)),H',⟨Nat.le_refl _⟩,⟨by (with_reducible repeat (first|apply Kd.R_alloc|apply Kd.R_drewN|apply Kd.R_drew));exact HO131.out⟩,⟨by repeat (first|(with_reducible first|exact HB.out|apply below_alloc|apply pw_below_drewN|apply below_drew1)|exact HB.out)⟩⟩
      case round =>
       clear H'
       try clear c2
       try clear p2
       try clear c3
       try clear c3b0
       try clear c3b1
       try clear c4
       try clear c5
       try clear c5b0
       try clear c5b1
       try clear c6
       try clear c6b0
       try clear c6b1
       try clear p2
       obtain ⟨x3_2,x4_2,rfl,HA,HK2,HO_3,HB⟩:=hrel
       cases gk with
       | zero=>exact absurd HA.out (by simp [spec_ReOk.l0])
       | succ k2 =>
        have H:=HA.out
        clear HA
        simp only [spec_ReOk.l0] at H
        by_cases c9 : x4_2 < (l0.length : Int)
        ·rw [if_pos c9] at H
         have c9b0 : decide (x4_2 < (l0.length : Int)) = true:=decide_eq_true c9
         clear c9
         by_cases c10 : 0 ≤ x4_2
         ·rw [if_pos c10] at H
          have c10b0 : decide (0 ≤ x4_2) = true:=decide_eq_true c10
          clear c10
          replace H:=Option.bind_eq_some_iff.mp H
          obtain ⟨t133,A110,H⟩:=H
          replace H : (if t133 = true then (spec_ReOk.l1 k2 l0 x3_2 x4_2 0) else (some false)) = some r:=H
          have A11:=Aside0.mk A110
          clear A110
          by_cases c12 : t133 = true
          ·subst c12
           have H1 : (spec_ReOk.l1 k2 l0 x3_2 x4_2 0) = some r:=by rw [if_pos rfl] at H;exact H
           clear H
           have H:=H1
           clear H1
           have H':=Aside0.mk H
           clear H
           have p132 : 0 ≤ (x4_2 : Int):=of_decide_eq_true (by first|(with_reducible assumption)|assumption)
           have q132 : x4_2 < (l0.length : Int):=of_decide_eq_true (by first|(with_reducible assumption)|assumption)
           obtain ⟨ad132,A132_3,c132_3,e132,hx132_0,hx132_1,hx132_2,hx132_3,hl132_3,hi132_3⟩:=at_T49 HR0.out x4_2 p132 q132
           cases e132
           replace hx132_0:=(HB.out.cell (World.block_lt_of_cell? w _ hx132_0)).trans hx132_0
           replace hx132_1:=(HB.out.cell (World.block_lt_of_cell? w _ hx132_1)).trans hx132_1
           replace hx132_2:=(HB.out.cell (World.block_lt_of_cell? w _ hx132_2)).trans hx132_2
           replace hx132_3:=(HB.out.cell (World.block_lt_of_cell? w _ hx132_3)).trans hx132_3
           have HR132_3:=Aside0.mk hi132_3
           have HC132_3:=Aside0.mk hl132_3
           clear hi132_3 hl132_3
           replace p132:=eq_true p132
           replace q132:=eq_true q132
           go_wp2_with (first|((with_reducible refine gate_callee (f:=52) rfl ?_);refine goesL_ (some 29) rfl rfl Tryd.func52 (by kernel_rfl) rfl #[.agg #[.int .i64 ((rd_T49 l0 x4_2).f0),.bool ((rd_T49 l0 x4_2).f1),.string ((rd_T49 l0 x4_2).f2),.slice A132_3 ((rd_T49 l0 x4_2).f3).length c132_3]] rfl (by (try simp only [List.map_toArray,List.map_cons,List.map_nil]);first|done|rfl|(simp only [List.length_drop,List.length_take];rfl)) ?_;(with_reducible refine (spec_l2kidsOk.calls k2 ((rd_T49 l0 x4_2).f0) ((rd_T49 l0 x4_2).f1) ((rd_T49 l0 x4_2).f2) _ _ ((rd_T49 l0 x4_2).f3) true _ ?side1 ?side2 A11.out).mono ?_);(case side1=>repeat (first|exact (Kd.C_below HR132_3.out HB.out)|(with_reducible refine Kd.C_alloc ?_ _)|(with_reducible refine Kd.C_drewN ?_ _)|(with_reducible refine Kd.C_drew ?_)));(case side2=>exact HC132_3.out);rintro e w13 ⟨rfl,hb⟩;refine ⟨_,rfl,?_⟩;have n0_:=Aside0.mk (Kd.R_below (by (with_reducible repeat (first|apply Kd.R_alloc|apply Kd.R_drewN|apply Kd.R_drew));exact HO_3.out) hb);have n1_:=Aside0.mk (below_step (by repeat (first|(with_reducible first|exact HB.out|apply below_alloc|apply pw_below_drewN|apply below_drew1)|exact HB.out)) hb);clear HO_3;clear HB;have HO_3:=n0_;have HB:=n1_;clear n0_ n1_;(try clear hb);(try clear hb2);(try clear hk);(try clear hi)))
           go_loopg [5] k2 (fun kq v5 w'=>∃ (x3_3 : List Int) (x5_3 : Int),v5 = .int .i64 x5_3 ∧ Aside0 (spec_ReOk.l1 kq l0 x3_3 x4_2 x5_3 = some r) ∧ Aside0 (kq ≤ k2) ∧ Aside0 (Kd.R (Kd.int .i64) 3 w' w.heap.size (fun _=>True) v130 x3_3) ∧ Aside0 (Below w.heap.size w w'))
           case atStart=>exact ⟨(x3_2),(0),(by first|rfl|(simp;done)|(simp [*];done)),H',⟨Nat.le_refl _⟩,⟨by (with_reducible repeat (first|apply Kd.R_alloc|apply Kd.R_drewN|apply Kd.R_drew));exact HO_3.out⟩,⟨by repeat (first|(with_reducible first|exact HB.out|apply below_alloc|apply pw_below_drewN|apply below_drew1)|exact HB.out)⟩⟩
           case round =>
            clear H'
            try clear c1
            try clear p1
            try clear q1
            try clear hx1
            try clear c2
            try clear p2
            try clear c3
            try clear c3b0
            try clear c3b1
            try clear c4
            try clear c5
            try clear c5b0
            try clear c5b1
            try clear c6
            try clear c6b0
            try clear c6b1
            try clear c9
            try clear c9b0
            try clear c10
            try clear c10b0
            try clear c12
            try clear c13
            try clear p13
            try clear q13
            try clear hx13
            try clear hx132_0
            try clear hx132_1
            try clear hx132_2
            try clear hx132_3
            try clear p132
            try clear p2
            try clear q132
            obtain ⟨x3_3,x5_3,rfl,HA,HK3,HO_3,HB⟩:=hrel
            cases gk with
            | zero=>exact absurd HA.out (by simp [spec_ReOk.l1])
            | succ k3 =>
             have H:=HA.out
             clear HA
             simp only [spec_ReOk.l1] at H
             by_cases c14 : 0 ≤ x4_2
             ·rw [if_pos c14] at H
              have c14b0 : decide (0 ≤ x4_2) = true:=decide_eq_true c14
              clear c14
              by_cases c15 : x4_2 < (l0.length : Int)
              ·rw [if_pos c15] at H
               have c15b0 : decide (x4_2 < (l0.length : Int)) = true:=decide_eq_true c15
               clear c15
               by_cases c16 : x5_3 < (((rd_T49 l0 x4_2).f3).length : Int)
               ·rw [if_pos c16] at H
                have c16b0 : decide (x5_3 < (((rd_T49 l0 x4_2).f3).length : Int)) = true:=decide_eq_true c16
                clear c16
                by_cases c17 : 0 ≤ x5_3
                ·rw [if_pos c17] at H
                 have c17b0 : decide (0 ≤ x5_3) = true:=decide_eq_true c17
                 clear c17
                 by_cases c18 : (rd ((rd_T49 l0 x4_2).f3) x5_3) < 0
                 ·rw [if_pos c18] at H
                  have c18b0 : decide ((rd ((rd_T49 l0 x4_2).f3) x5_3) < 0) = true:=decide_eq_true c18
                  clear c18
                  obtain rfl:=Option.some.inj H
                  have p134 : 0 ≤ (x4_2 : Int):=of_decide_eq_true (by first|(with_reducible assumption)|assumption)
                  have q134 : x4_2 < (l0.length : Int):=of_decide_eq_true (by first|(with_reducible assumption)|assumption)
                  obtain ⟨ad134,A134_3,c134_3,e134,hx134_0,hx134_1,hx134_2,hx134_3,hl134_3,hi134_3⟩:=at_T49 HR0.out x4_2 p134 q134
                  obtain rfl : ad132 = ad134:=(by injection e134)
                  replace hx134_0:=(HB.out.cell (World.block_lt_of_cell? w _ hx134_0)).trans hx134_0
                  replace hx134_1:=(HB.out.cell (World.block_lt_of_cell? w _ hx134_1)).trans hx134_1
                  replace hx134_2:=(HB.out.cell (World.block_lt_of_cell? w _ hx134_2)).trans hx134_2
                  replace hx134_3:=(HB.out.cell (World.block_lt_of_cell? w _ hx134_3)).trans hx134_3
                  have HR134_3:=Aside0.mk hi134_3
                  have HC134_3:=Aside0.mk hl134_3
                  clear hi134_3 hl134_3
                  replace p134:=eq_true p134
                  replace q134:=eq_true q134
                  have p135 : 0 ≤ (x4_2 : Int):=of_decide_eq_true (by first|(with_reducible assumption)|assumption)
                  have q135 : x4_2 < (l0.length : Int):=of_decide_eq_true (by first|(with_reducible assumption)|assumption)
                  obtain ⟨ad135,A135_3,c135_3,e135,hx135_0,hx135_1,hx135_2,hx135_3,hl135_3,hi135_3⟩:=at_T49 HR0.out x4_2 p135 q135
                  obtain rfl : ad132 = ad135:=(by injection e135)
                  replace hx135_0:=(HB.out.cell (World.block_lt_of_cell? w _ hx135_0)).trans hx135_0
                  replace hx135_1:=(HB.out.cell (World.block_lt_of_cell? w _ hx135_1)).trans hx135_1
                  replace hx135_2:=(HB.out.cell (World.block_lt_of_cell? w _ hx135_2)).trans hx135_2
                  replace hx135_3:=(HB.out.cell (World.block_lt_of_cell? w _ hx135_3)).trans hx135_3
                  have HR135_3:=Aside0.mk hi135_3
                  have HC135_3:=Aside0.mk hl135_3
                  clear hi135_3 hl135_3
                  replace p135:=eq_true p135
                  replace q135:=eq_true q135
                  have ea_:=Option.some.inj (hx134_3.symm.trans hx135_3)
                  injection ea_ with ea_ en_ ec_
                  subst ea_
                  subst ec_
                  clear en_
                  have p136 : 0 ≤ (x5_3 : Int):=of_decide_eq_true (by first|(with_reducible assumption)|assumption)
                  have q136 : x5_3 < (((rd_T49 l0 x4_2).f3).length : Int):=of_decide_eq_true (by first|(with_reducible assumption)|assumption)
                  obtain ⟨ad136,e136,hx136_0⟩:=Kd.at_int HR135_3.out x5_3 p136 q136
                  cases e136
                  replace hx136_0:=(HB.out.cell (World.block_lt_of_cell? w _ hx136_0)).trans hx136_0
                  replace p136:=eq_true p136
                  replace q136:=eq_true q136
                  go_wp2
                  go_ret
                  exact ⟨by first|rfl|(simp [errW_none,errW_some] <;> rfl)|(simp [*,errW_none,errW_some] <;> rfl),by repeat (first|(with_reducible first|exact HB.out|apply below_alloc|apply pw_below_drewN|apply below_drew1)|exact HB.out)⟩
                 ·rw [if_neg c18] at H
                  have c18b0 : decide ((rd ((rd_T49 l0 x4_2).f3) x5_3) < 0) = false:=decide_eq_false c18
                  clear c18
                  by_cases c19 : (rd ((rd_T49 l0 x4_2).f3) x5_3) ≥ x4_2
                  ·rw [if_pos c19] at H
                   have c19b0 : decide (x4_2 ≤ (rd ((rd_T49 l0 x4_2).f3) x5_3)) = true:=decide_eq_true c19
                   clear c19
                   obtain rfl:=Option.some.inj H
                   have p134 : 0 ≤ (x4_2 : Int):=of_decide_eq_true (by first|(with_reducible assumption)|assumption)
                   have q134 : x4_2 < (l0.length : Int):=of_decide_eq_true (by first|(with_reducible assumption)|assumption)
                   obtain ⟨ad134,A134_3,c134_3,e134,hx134_0,hx134_1,hx134_2,hx134_3,hl134_3,hi134_3⟩:=at_T49 HR0.out x4_2 p134 q134
                   obtain rfl : ad132 = ad134:=(by injection e134)
                   replace hx134_0:=(HB.out.cell (World.block_lt_of_cell? w _ hx134_0)).trans hx134_0
                   replace hx134_1:=(HB.out.cell (World.block_lt_of_cell? w _ hx134_1)).trans hx134_1
                   replace hx134_2:=(HB.out.cell (World.block_lt_of_cell? w _ hx134_2)).trans hx134_2
                   replace hx134_3:=(HB.out.cell (World.block_lt_of_cell? w _ hx134_3)).trans hx134_3
                   have HR134_3:=Aside0.mk hi134_3
                   have HC134_3:=Aside0.mk hl134_3
                   clear hi134_3 hl134_3
                   replace p134:=eq_true p134
                   replace q134:=eq_true q134
                   have p135 : 0 ≤ (x4_2 : Int):=of_decide_eq_true (by first|(with_reducible assumption)|assumption)
                   have q135 : x4_2 < (l0.length : Int):=of_decide_eq_true (by first|(with_reducible assumption)|assumption)
                   obtain ⟨ad135,A135_3,c135_3,e135,hx135_0,hx135_1,hx135_2,hx135_3,hl135_3,hi135_3⟩:=at_T49 HR0.out x4_2 p135 q135
                   obtain rfl : ad132 = ad135:=(by injection e135)
                   replace hx135_0:=(HB.out.cell (World.block_lt_of_cell? w _ hx135_0)).trans hx135_0
                   replace hx135_1:=(HB.out.cell (World.block_lt_of_cell? w _ hx135_1)).trans hx135_1
                   replace hx135_2:=(HB.out.cell (World.block_lt_of_cell? w _ hx135_2)).trans hx135_2
                   replace hx135_3:=(HB.out.cell (World.block_lt_of_cell? w _ hx135_3)).trans hx135_3
                   have HR135_3:=Aside0.mk hi135_3
                   have HC135_3:=Aside0.mk hl135_3
                   clear hi135_3 hl135_3
                   replace p135:=eq_true p135
                   replace q135:=eq_true q135
                   have ea_:=Option.some.inj (hx134_3.symm.trans hx135_3)
                   injection ea_ with ea_ en_ ec_
                   subst ea_
                   subst ec_
                   clear en_
                   have p136 : 0 ≤ (x5_3 : Int):=of_decide_eq_true (by first|(with_reducible assumption)|assumption)
                   have q136 : x5_3 < (((rd_T49 l0 x4_2).f3).length : Int):=of_decide_eq_true (by first|(with_reducible assumption)|assumption)
                   obtain ⟨ad136,e136,hx136_0⟩:=Kd.at_int HR135_3.out x5_3 p136 q136
                   cases e136
                   replace hx136_0:=(HB.out.cell (World.block_lt_of_cell? w _ hx136_0)).trans hx136_0
                   replace p136:=eq_true p136
                   replace q136:=eq_true q136
                   go_wp2
                   go_ret
                   exact ⟨by first|rfl|(simp [errW_none,errW_some] <;> rfl)|(simp [*,errW_none,errW_some] <;> rfl),by repeat (first|(with_reducible first|exact HB.out|apply below_alloc|apply pw_below_drewN|apply below_drew1)|exact HB.out)⟩
                  ·rw [if_neg c19] at H
                   have c19b0 : decide (x4_2 ≤ (rd ((rd_T49 l0 x4_2).f3) x5_3)) = false:=decide_eq_false c19
                   clear c19
                   by_cases c20 : 0 ≤ (rd ((rd_T49 l0 x4_2).f3) x5_3)
                   ·rw [if_pos c20] at H
                    have c20b0 : decide (0 ≤ (rd ((rd_T49 l0 x4_2).f3) x5_3)) = true:=decide_eq_true c20
                    clear c20
                    by_cases c21 : (rd ((rd_T49 l0 x4_2).f3) x5_3) < (x3_3.length : Int)
                    ·rw [if_pos c21] at H
                     have c21b0 : decide ((rd ((rd_T49 l0 x4_2).f3) x5_3) < (x3_3.length : Int)) = true:=decide_eq_true c21
                     clear c21
                     by_cases c22 : (rd x3_3 (rd ((rd_T49 l0 x4_2).f3) x5_3)) > 0
                     ·rw [if_pos c22] at H
                      have c22b0 : decide (0 < (rd x3_3 (rd ((rd_T49 l0 x4_2).f3) x5_3))) = true:=decide_eq_true c22
                      clear c22
                      obtain rfl:=Option.some.inj H
                      have p134 : 0 ≤ (x4_2 : Int):=of_decide_eq_true (by first|(with_reducible assumption)|assumption)
                      have q134 : x4_2 < (l0.length : Int):=of_decide_eq_true (by first|(with_reducible assumption)|assumption)
                      obtain ⟨ad134,A134_3,c134_3,e134,hx134_0,hx134_1,hx134_2,hx134_3,hl134_3,hi134_3⟩:=at_T49 HR0.out x4_2 p134 q134
                      obtain rfl : ad132 = ad134:=(by injection e134)
                      replace hx134_0:=(HB.out.cell (World.block_lt_of_cell? w _ hx134_0)).trans hx134_0
                      replace hx134_1:=(HB.out.cell (World.block_lt_of_cell? w _ hx134_1)).trans hx134_1
                      replace hx134_2:=(HB.out.cell (World.block_lt_of_cell? w _ hx134_2)).trans hx134_2
                      replace hx134_3:=(HB.out.cell (World.block_lt_of_cell? w _ hx134_3)).trans hx134_3
                      have HR134_3:=Aside0.mk hi134_3
                      have HC134_3:=Aside0.mk hl134_3
                      clear hi134_3 hl134_3
                      replace p134:=eq_true p134
                      replace q134:=eq_true q134
                      have p135 : 0 ≤ (x4_2 : Int):=of_decide_eq_true (by first|(with_reducible assumption)|assumption)
                      have q135 : x4_2 < (l0.length : Int):=of_decide_eq_true (by first|(with_reducible assumption)|assumption)
                      obtain ⟨ad135,A135_3,c135_3,e135,hx135_0,hx135_1,hx135_2,hx135_3,hl135_3,hi135_3⟩:=at_T49 HR0.out x4_2 p135 q135
                      obtain rfl : ad132 = ad135:=(by injection e135)
                      replace hx135_0:=(HB.out.cell (World.block_lt_of_cell? w _ hx135_0)).trans hx135_0
                      replace hx135_1:=(HB.out.cell (World.block_lt_of_cell? w _ hx135_1)).trans hx135_1
                      replace hx135_2:=(HB.out.cell (World.block_lt_of_cell? w _ hx135_2)).trans hx135_2
                      replace hx135_3:=(HB.out.cell (World.block_lt_of_cell? w _ hx135_3)).trans hx135_3
                      have HR135_3:=Aside0.mk hi135_3
                      have HC135_3:=Aside0.mk hl135_3
                      clear hi135_3 hl135_3
                      replace p135:=eq_true p135
                      replace q135:=eq_true q135
                      have ea_:=Option.some.inj (hx134_3.symm.trans hx135_3)
                      injection ea_ with ea_ en_ ec_
                      subst ea_
                      subst ec_
                      clear en_
                      have p136 : 0 ≤ (x5_3 : Int):=of_decide_eq_true (by first|(with_reducible assumption)|assumption)
                      have q136 : x5_3 < (((rd_T49 l0 x4_2).f3).length : Int):=of_decide_eq_true (by first|(with_reducible assumption)|assumption)
                      obtain ⟨ad136,e136,hx136_0⟩:=Kd.at_int HR135_3.out x5_3 p136 q136
                      cases e136
                      replace hx136_0:=(HB.out.cell (World.block_lt_of_cell? w _ hx136_0)).trans hx136_0
                      replace p136:=eq_true p136
                      replace q136:=eq_true q136
                      obtain ⟨Ao23,co23,eo23⟩:=Kd.R_slice HO_3.out
                      subst eo23
                      have p137 : 0 ≤ ((rd ((rd_T49 l0 x4_2).f3) x5_3) : Int):=of_decide_eq_true (by first|(with_reducible assumption)|assumption)
                      have q137 : (rd ((rd_T49 l0 x4_2).f3) x5_3) < (x3_3.length : Int):=of_decide_eq_true (by first|(with_reducible assumption)|assumption)
                      obtain ⟨ad137,e137,hx137_0⟩:=Kd.at_int (Kd.R_reads' HO_3.out).2.2 (rd ((rd_T49 l0 x4_2).f3) x5_3) p137 q137
                      cases e137
                      replace p137:=eq_true p137
                      replace q137:=eq_true q137
                      go_wp2
                      go_ret
                      exact ⟨by first|rfl|(simp [errW_none,errW_some] <;> rfl)|(simp [*,errW_none,errW_some] <;> rfl),by repeat (first|(with_reducible first|exact HB.out|apply below_alloc|apply pw_below_drewN|apply below_drew1)|exact HB.out)⟩
                     ·rw [if_neg c22] at H
                      have c22b0 : decide (0 < (rd x3_3 (rd ((rd_T49 l0 x4_2).f3) x5_3))) = false:=decide_eq_false c22
                      clear c22
                      obtain ⟨y139,hy139⟩ : ∃ y_ : List Int,y_ = (x3_3.set ((rd ((rd_T49 l0 x4_2).f3) x5_3) : Int).toNat (wrap64 ((rd x3_3 (rd ((rd_T49 l0 x4_2).f3) x5_3)) + 1))):=⟨_,rfl⟩
                      replace H : (spec_ReOk.l1 k3 l0 y139 x4_2 (wrap64 (x5_3 + 1))) = some r:=by first|(rw [hy139];with_reducible exact H)|(have H2_:=(Option.bind_some _ _).symm.trans H;rw [hy139];with_reducible exact H2_)|(have H2_:=(Option.bind_some _ _).symm.trans H;with_reducible exact H2_)|with_reducible exact H|(rw [hy139];exact H)|exact H
                      have Ny139:=Aside0.mk hy139
                      clear hy139
                      have H':=Aside0.mk H
                      clear H
                      have p134 : 0 ≤ (x4_2 : Int):=of_decide_eq_true (by first|(with_reducible assumption)|assumption)
                      have q134 : x4_2 < (l0.length : Int):=of_decide_eq_true (by first|(with_reducible assumption)|assumption)
                      obtain ⟨ad134,A134_3,c134_3,e134,hx134_0,hx134_1,hx134_2,hx134_3,hl134_3,hi134_3⟩:=at_T49 HR0.out x4_2 p134 q134
                      obtain rfl : ad132 = ad134:=(by injection e134)
                      replace hx134_0:=(HB.out.cell (World.block_lt_of_cell? w _ hx134_0)).trans hx134_0
                      replace hx134_1:=(HB.out.cell (World.block_lt_of_cell? w _ hx134_1)).trans hx134_1
                      replace hx134_2:=(HB.out.cell (World.block_lt_of_cell? w _ hx134_2)).trans hx134_2
                      replace hx134_3:=(HB.out.cell (World.block_lt_of_cell? w _ hx134_3)).trans hx134_3
                      have HR134_3:=Aside0.mk hi134_3
                      have HC134_3:=Aside0.mk hl134_3
                      clear hi134_3 hl134_3
                      replace p134:=eq_true p134
                      replace q134:=eq_true q134
                      have p135 : 0 ≤ (x4_2 : Int):=of_decide_eq_true (by first|(with_reducible assumption)|assumption)
                      have q135 : x4_2 < (l0.length : Int):=of_decide_eq_true (by first|(with_reducible assumption)|assumption)
                      obtain ⟨ad135,A135_3,c135_3,e135,hx135_0,hx135_1,hx135_2,hx135_3,hl135_3,hi135_3⟩:=at_T49 HR0.out x4_2 p135 q135
                      obtain rfl : ad132 = ad135:=(by injection e135)
                      replace hx135_0:=(HB.out.cell (World.block_lt_of_cell? w _ hx135_0)).trans hx135_0
                      replace hx135_1:=(HB.out.cell (World.block_lt_of_cell? w _ hx135_1)).trans hx135_1
                      replace hx135_2:=(HB.out.cell (World.block_lt_of_cell? w _ hx135_2)).trans hx135_2
                      replace hx135_3:=(HB.out.cell (World.block_lt_of_cell? w _ hx135_3)).trans hx135_3
                      have HR135_3:=Aside0.mk hi135_3
                      have HC135_3:=Aside0.mk hl135_3
                      clear hi135_3 hl135_3
                      replace p135:=eq_true p135
                      replace q135:=eq_true q135
                      have ea_:=Option.some.inj (hx134_3.symm.trans hx135_3)
                      injection ea_ with ea_ en_ ec_
                      subst ea_
                      subst ec_
                      clear en_
                      have p136 : 0 ≤ (x5_3 : Int):=of_decide_eq_true (by first|(with_reducible assumption)|assumption)
                      have q136 : x5_3 < (((rd_T49 l0 x4_2).f3).length : Int):=of_decide_eq_true (by first|(with_reducible assumption)|assumption)
                      obtain ⟨ad136,e136,hx136_0⟩:=Kd.at_int HR135_3.out x5_3 p136 q136
                      cases e136
                      replace hx136_0:=(HB.out.cell (World.block_lt_of_cell? w _ hx136_0)).trans hx136_0
                      replace p136:=eq_true p136
                      replace q136:=eq_true q136
                      obtain ⟨Ao25,co25,eo25⟩:=Kd.R_slice HO_3.out
                      subst eo25
                      have p137 : 0 ≤ ((rd ((rd_T49 l0 x4_2).f3) x5_3) : Int):=of_decide_eq_true (by first|(with_reducible assumption)|assumption)
                      have q137 : (rd ((rd_T49 l0 x4_2).f3) x5_3) < (x3_3.length : Int):=of_decide_eq_true (by first|(with_reducible assumption)|assumption)
                      obtain ⟨ad137,e137,hx137_0⟩:=Kd.at_int (Kd.R_reads' HO_3.out).2.2 (rd ((rd_T49 l0 x4_2).f3) x5_3) p137 q137
                      cases e137
                      replace p137:=eq_true p137
                      replace q137:=eq_true q137
                      have p138 : 0 ≤ ((rd ((rd_T49 l0 x4_2).f3) x5_3) : Int):=of_decide_eq_true (by first|(with_reducible assumption)|assumption)
                      have q138 : (rd ((rd_T49 l0 x4_2).f3) x5_3) < (x3_3.length : Int):=of_decide_eq_true (by first|(with_reducible assumption)|assumption)
                      obtain ⟨ad138,e138,hx138_0⟩:=Kd.at_int (Kd.R_reads' HO_3.out).2.2 (rd ((rd_T49 l0 x4_2).f3) x5_3) p138 q138
                      obtain rfl : ad137 = ad138:=(by injection e138)
                      replace p138:=eq_true p138
                      replace q138:=eq_true q138
                      have p24 : 0 ≤ ((rd ((rd_T49 l0 x4_2).f3) x5_3) : Int):=of_decide_eq_true (by first|(with_reducible assumption)|assumption)
                      have q24 : ((rd ((rd_T49 l0 x4_2).f3) x5_3) : Int) < ((x3_3.length : Int) : Int):=of_decide_eq_true (by first|(with_reducible assumption)|assumption)
                      obtain ⟨go24,co24,eo24,gb24,gl24,cl24,HG24⟩:=Kd.R_form HO_3.out (by omega)
                      (first|cases eo24|(injection eo24 with ea_ en_ ec_;(first|subst ea_|(injection ea_ with ea_;subst ea_));subst ec_;clear en_))
                      have GB24:=Aside0.mk gb24
                      have GG24:=Aside0.mk HG24
                      clear gb24 gl24 HG24
                      (first|simp only [add_plain] at hx137_0|skip)
                      (first|simp only [add_plain] at hx138_0|skip)
                      obtain ⟨hx24_0,hf24_0⟩:=Kd.R_celln 0 HO_3.out ((rd ((rd_T49 l0 x4_2).f3) x5_3) : Int) p24 q24
                      replace p24:=eq_true p24
                      replace q24:=eq_true q24
                      have HP26:=Kd.R_putg HO_3.out ((rd ((rd_T49 l0 x4_2).f3) x5_3) : Int) (wrap64 ((rd x3_3 (rd ((rd_T49 l0 x4_2).f3) x5_3)) + 1))
                      go_wp2_with (first|((with_reducible refine gate_store (t:=3) (p:=68) rfl ?_);refine store_event (t:=3) (p:=68) (v:=?vo_w27) (w1:=(wr.setCell ⟨go24,((rd ((rd_T49 l0 x4_2).f3) x5_3) : Int).toNat,none⟩ (.int .i64 (wrap64 ((rd x3_3 (rd ((rd_T49 l0 x4_2).f3) x5_3)) + 1))))) ?hg ?ho ?hn ?hr ?_;(case ho=>rfl);(case hg=>rfl);(case hn=>rfl);(case hr=>first|(go_simp;done)|(go_simp;rfl));intro w27 hw;have hg : wr.grownBy w27 (some go24):=(by rw [hw];exact HP26.2);have hp_ : Kd.R (Kd.int .i64) 3 w27 w.heap.size (fun _=>True) (.slice (some ⟨go24,0,none⟩) x3_3.length co25) y139:=(by rw [hw,Ny139.out];exact HP26.1);clear HP26;have n0_:=Aside0.mk (hp_);have n1_:=Aside0.mk ((by rw [hw];exact below_set (HB.out) GB24.out : Below w.heap.size w w27));clear HO_3;clear HB;have HO_3:=n0_;have HB:=n1_;clear n0_ n1_;clear hg hw hp_))
                      go_roundg k3
                      case measure=>have:=HJ1.out;have:=HK2.out;have:=HK3.out;omega
                      case rel=>exact ⟨(y139),(wrap64 (x5_3 + 1)),(by first|rfl|(simp;done)|(simp [*];done)),H',⟨by have:=HJ1.out;have:=HK2.out;have:=HK3.out;omega⟩,⟨by (with_reducible repeat (first|apply Kd.R_alloc|apply Kd.R_drewN|apply Kd.R_drew));exact HO_3.out⟩,⟨by repeat (first|(with_reducible first|exact HB.out|apply below_alloc|apply pw_below_drewN|apply below_drew1)|exact HB.out)⟩⟩
                    ·rw [if_neg c21] at H
                     exact absurd H (by simp)
                   ·rw [if_neg c20] at H
                    exact absurd H (by simp)
                ·rw [if_neg c17] at H
                 exact absurd H (by simp)
               ·rw [if_neg c16] at H
                have c16b0 : decide (x5_3 < (((rd_T49 l0 x4_2).f3).length : Int)) = false:=decide_eq_false c16
                clear c16
                have H':=Aside0.mk H
                clear H
                have p134 : 0 ≤ (x4_2 : Int):=of_decide_eq_true (by first|(with_reducible assumption)|assumption)
                have q134 : x4_2 < (l0.length : Int):=of_decide_eq_true (by first|(with_reducible assumption)|assumption)
                obtain ⟨ad134,A134_3,c134_3,e134,hx134_0,hx134_1,hx134_2,hx134_3,hl134_3,hi134_3⟩:=at_T49 HR0.out x4_2 p134 q134
                obtain rfl : ad132 = ad134:=(by injection e134)
                replace hx134_0:=(HB.out.cell (World.block_lt_of_cell? w _ hx134_0)).trans hx134_0
                replace hx134_1:=(HB.out.cell (World.block_lt_of_cell? w _ hx134_1)).trans hx134_1
                replace hx134_2:=(HB.out.cell (World.block_lt_of_cell? w _ hx134_2)).trans hx134_2
                replace hx134_3:=(HB.out.cell (World.block_lt_of_cell? w _ hx134_3)).trans hx134_3
                have HR134_3:=Aside0.mk hi134_3
                have HC134_3:=Aside0.mk hl134_3
                clear hi134_3 hl134_3
                replace p134:=eq_true p134
                replace q134:=eq_true q134
                go_wp2
                go_roundg k3
                case measure=>have:=HJ1.out;have:=HK2.out;have:=HK3.out;omega
                case rel=>exact ⟨(x3_3),(wrap64 (x4_2 + 1)),(by first|rfl|(simp;done)|(simp [*];done)),H',⟨by have:=HJ1.out;have:=HK2.out;have:=HK3.out;omega⟩,⟨by (with_reducible repeat (first|apply Kd.R_alloc|apply Kd.R_drewN|apply Kd.R_drew));exact HO_3.out⟩,⟨by repeat (first|(with_reducible first|exact HB.out|apply below_alloc|apply pw_below_drewN|apply below_drew1)|exact HB.out)⟩⟩
              ·rw [if_neg c15] at H
               exact absurd H (by simp)
             ·rw [if_neg c14] at H
              exact absurd H (by simp)
          ·replace c12:=Bool.eq_false_iff.mpr c12
           subst c12
           have H1 : (some false) = some r:=by rw [if_neg (show ¬ (false = true) by decide)] at H;exact H
           clear H
           have H:=H1
           clear H1
           obtain rfl:=Option.some.inj H
           have p132 : 0 ≤ (x4_2 : Int):=of_decide_eq_true (by first|(with_reducible assumption)|assumption)
           have q132 : x4_2 < (l0.length : Int):=of_decide_eq_true (by first|(with_reducible assumption)|assumption)
           obtain ⟨ad132,A132_3,c132_3,e132,hx132_0,hx132_1,hx132_2,hx132_3,hl132_3,hi132_3⟩:=at_T49 HR0.out x4_2 p132 q132
           cases e132
           replace hx132_0:=(HB.out.cell (World.block_lt_of_cell? w _ hx132_0)).trans hx132_0
           replace hx132_1:=(HB.out.cell (World.block_lt_of_cell? w _ hx132_1)).trans hx132_1
           replace hx132_2:=(HB.out.cell (World.block_lt_of_cell? w _ hx132_2)).trans hx132_2
           replace hx132_3:=(HB.out.cell (World.block_lt_of_cell? w _ hx132_3)).trans hx132_3
           have HR132_3:=Aside0.mk hi132_3
           have HC132_3:=Aside0.mk hl132_3
           clear hi132_3 hl132_3
           replace p132:=eq_true p132
           replace q132:=eq_true q132
           go_wp2_with (first|((with_reducible refine gate_callee (f:=52) rfl ?_);refine goesL_ (some 29) rfl rfl Tryd.func52 (by kernel_rfl) rfl #[.agg #[.int .i64 ((rd_T49 l0 x4_2).f0),.bool ((rd_T49 l0 x4_2).f1),.string ((rd_T49 l0 x4_2).f2),.slice A132_3 ((rd_T49 l0 x4_2).f3).length c132_3]] rfl (by (try simp only [List.map_toArray,List.map_cons,List.map_nil]);first|done|rfl|(simp only [List.length_drop,List.length_take];rfl)) ?_;(with_reducible refine (spec_l2kidsOk.calls k2 ((rd_T49 l0 x4_2).f0) ((rd_T49 l0 x4_2).f1) ((rd_T49 l0 x4_2).f2) _ _ ((rd_T49 l0 x4_2).f3) false _ ?side1 ?side2 A11.out).mono ?_);(case side1=>repeat (first|exact (Kd.C_below HR132_3.out HB.out)|(with_reducible refine Kd.C_alloc ?_ _)|(with_reducible refine Kd.C_drewN ?_ _)|(with_reducible refine Kd.C_drew ?_)));(case side2=>exact HC132_3.out);rintro e w28 ⟨rfl,hb⟩;refine ⟨_,rfl,?_⟩;have n0_:=Aside0.mk (Kd.R_below (by (with_reducible repeat (first|apply Kd.R_alloc|apply Kd.R_drewN|apply Kd.R_drew));exact HO_3.out) hb);have n1_:=Aside0.mk (below_step (by repeat (first|(with_reducible first|exact HB.out|apply below_alloc|apply pw_below_drewN|apply below_drew1)|exact HB.out)) hb);clear HO_3;clear HB;have HO_3:=n0_;have HB:=n1_;clear n0_ n1_;(try clear hb);(try clear hb2);(try clear hk);(try clear hi)))
           go_ret
           exact ⟨by first|rfl|(simp [errW_none,errW_some] <;> rfl)|(simp [*,errW_none,errW_some] <;> rfl),by repeat (first|(with_reducible first|exact HB.out|apply below_alloc|apply pw_below_drewN|apply below_drew1)|exact HB.out)⟩
         ·rw [if_neg c10] at H
          exact absurd H (by simp)
        ·rw [if_neg c9] at H
         have c9b0 : decide (x4_2 < (l0.length : Int)) = false:=decide_eq_false c9
         clear c9
         have H':=Aside0.mk H
         clear H
         go_wp2
         go_loopg [7] k2 (fun kq v7 w'=>∃ (x7_3 : Int),v7 = .int .i64 x7_3 ∧ Aside0 (spec_ReOk.l2 kq l0 x3_2 x7_3 = some r) ∧ Aside0 (kq ≤ k2) ∧ Aside0 (Kd.R (Kd.int .i64) 3 w' w.heap.size (fun _=>True) v130 x3_2) ∧ Aside0 (Below w.heap.size w w'))
         case atStart=>exact ⟨(0),(by first|rfl|(simp;done)|(simp [*];done)),H',⟨Nat.le_refl _⟩,⟨by (with_reducible repeat (first|apply Kd.R_alloc|apply Kd.R_drewN|apply Kd.R_drew));exact HO_3.out⟩,⟨by repeat (first|(with_reducible first|exact HB.out|apply below_alloc|apply pw_below_drewN|apply below_drew1)|exact HB.out)⟩⟩
         case round =>
          clear H'
          try clear c1
          try clear p1
          try clear q1
          try clear hx1
          try clear c2
          try clear p2
          try clear q2
          try clear hx2
          try clear hf2
          try clear c3
          try clear c3b0
          try clear c3b1
          try clear c4
          try clear c5
          try clear c5b0
          try clear c5b1
          try clear c6
          try clear c6b0
          try clear c6b1
          try clear p6
          try clear c9
          try clear c9b0
          try clear c10
          try clear c10b0
          try clear c12
          try clear c13
          try clear p13
          try clear q13
          try clear hx13
          try clear c14
          try clear c14b0
          try clear c15
          try clear c15b0
          try clear c16
          try clear c16b0
          try clear c17
          try clear c17b0
          try clear c18
          try clear c18b0
          try clear c19
          try clear c19b0
          try clear c20
          try clear c20b0
          try clear c21
          try clear c21b0
          try clear c22
          try clear c22b0
          try clear p24
          try clear q24
          try clear hx24
          try clear hf24
          try clear hx132_0
          try clear hx132_1
          try clear hx132_2
          try clear hx132_3
          try clear hx134_0
          try clear hx134_1
          try clear hx134_2
          try clear hx134_3
          try clear hx135_0
          try clear hx135_1
          try clear hx135_2
          try clear hx135_3
          try clear hx136_0
          try clear hx137_0
          try clear hx138_0
          try clear hx24_0
          try clear p1
          try clear p13
          try clear p132
          try clear p134
          try clear p135
          try clear p136
          try clear p137
          try clear p138
          try clear p2
          try clear p24
          try clear q1
          try clear q13
          try clear q132
          try clear q134
          try clear q135
          try clear q136
          try clear q137
          try clear q138
          try clear q24
          obtain ⟨x7_3,rfl,HA,HK3,HO_3,HB⟩:=hrel
          cases gk with
          | zero=>exact absurd HA.out (by simp [spec_ReOk.l2])
          | succ k3 =>
           have H:=HA.out
           clear HA
           simp only [spec_ReOk.l2] at H
           by_cases c29 : (wrap64 (x7_3 + 1)) < (l0.length : Int)
           ·rw [if_pos c29] at H
            have c29b0 : decide ((wrap64 (x7_3 + 1)) < (l0.length : Int)) = true:=decide_eq_true c29
            clear c29
            by_cases c30 : 0 ≤ x7_3
            ·rw [if_pos c30] at H
             have c30b0 : decide (0 ≤ x7_3) = true:=decide_eq_true c30
             clear c30
             by_cases c31 : x7_3 < (x3_2.length : Int)
             ·rw [if_pos c31] at H
              have c31b0 : decide (x7_3 < (x3_2.length : Int)) = true:=decide_eq_true c31
              clear c31
              by_cases c32 : (rd x3_2 x7_3) = 1
              ·rw [if_pos c32] at H
               have c32b0 : ((rd x3_2 x7_3) == 1) = true:=beq_iff_eq.mpr c32
               have c32b1 : ((rd x3_2 x7_3) != 1) = false:=bne_eq_false_iff_eq.mpr c32
               clear c32
               have H':=Aside0.mk H
               clear H
               obtain ⟨Ao33,co33,eo33⟩:=Kd.R_slice HO_3.out
               subst eo33
               have p140 : 0 ≤ (x7_3 : Int):=of_decide_eq_true (by first|(with_reducible assumption)|assumption)
               have q140 : x7_3 < (x3_2.length : Int):=of_decide_eq_true (by first|(with_reducible assumption)|assumption)
               obtain ⟨ad140,e140,hx140_0⟩:=Kd.at_int (Kd.R_reads' HO_3.out).2.2 x7_3 p140 q140
               cases e140
               replace p140:=eq_true p140
               replace q140:=eq_true q140
               go_wp2
               go_roundg k3
               case measure=>have:=HJ1.out;have:=HK2.out;have:=HK3.out;omega
               case rel=>exact ⟨(wrap64 (x7_3 + 1)),(by first|rfl|(simp;done)|(simp [*];done)),H',⟨by have:=HJ1.out;have:=HK2.out;have:=HK3.out;omega⟩,⟨by (with_reducible repeat (first|apply Kd.R_alloc|apply Kd.R_drewN|apply Kd.R_drew));exact HO_3.out⟩,⟨by repeat (first|(with_reducible first|exact HB.out|apply below_alloc|apply pw_below_drewN|apply below_drew1)|exact HB.out)⟩⟩
              ·rw [if_neg c32] at H
               have c32b0 : ((rd x3_2 x7_3) == 1) = false:=beq_eq_false_iff_ne.mpr c32
               have c32b1 : ((rd x3_2 x7_3) != 1) = true:=bne_iff_ne.mpr c32
               obtain rfl:=Option.some.inj H
               obtain ⟨Ao34,co34,eo34⟩:=Kd.R_slice HO_3.out
               subst eo34
               have p140 : 0 ≤ (x7_3 : Int):=of_decide_eq_true (by first|(with_reducible assumption)|assumption)
               have q140 : x7_3 < (x3_2.length : Int):=of_decide_eq_true (by first|(with_reducible assumption)|assumption)
               obtain ⟨ad140,e140,hx140_0⟩:=Kd.at_int (Kd.R_reads' HO_3.out).2.2 x7_3 p140 q140
               cases e140
               replace p140:=eq_true p140
               replace q140:=eq_true q140
               go_wp2
               go_ret
               exact ⟨by first|rfl|(simp [errW_none,errW_some] <;> rfl)|(simp [*,errW_none,errW_some] <;> rfl),by repeat (first|(with_reducible first|exact HB.out|apply below_alloc|apply pw_below_drewN|apply below_drew1)|exact HB.out)⟩
             ·rw [if_neg c31] at H
              exact absurd H (by simp)
            ·rw [if_neg c30] at H
             exact absurd H (by simp)
           ·rw [if_neg c29] at H
            have c29b0 : decide ((wrap64 (x7_3 + 1)) < (l0.length : Int)) = false:=decide_eq_false c29
            clear c29
            obtain rfl:=Option.some.inj H
            go_wp2
            go_ret
            exact ⟨by first|rfl|(simp [errW_none,errW_some] <;> rfl)|(simp [*,errW_none,errW_some] <;> rfl),by repeat (first|(with_reducible first|exact HB.out|apply below_alloc|apply pw_below_drewN|apply below_drew1)|exact HB.out)⟩
     ·rw [if_neg c6] at H
      exact absurd H (by simp)
    ·rw [if_neg c5] at H
     exact absurd H (by simp)
end Go.Proofs.YtlakdfbfkbndiaaDoor.Q
set_option linter.unusedVariables false
namespace Go.Proofs.YtlakdfbfkbndiaaDoor.Ev.Pr
open Go
section
variable {ρ : Type}
abbrev ReN : Type := Int × Bool × ByteArray × List Int
def toS (x : ReN) : Q.S49 := ⟨x.1, x.2.1, x.2.2.1, x.2.2.2⟩
def ofO {α : Type} (x : Option α) (κ : α → Option ρ) : Option ρ := match x with | some a => κ a | none => none
noncomputable def X_impl_ReFind (x0 : List ReN) (x1 : ByteArray) (κ : Int → Int → Option ρ) : Option ρ := ofO (Q.impl_ReFind.f (x0.map toS) x1) fun r => κ r.1 r.2
noncomputable def X_impl_ReTest (x0 : List ReN) (x1 : ByteArray) (κ : Bool → Option ρ) : Option ρ := ofO (Q.impl_ReTest.f (x0.map toS) x1) κ
noncomputable def X_impl_ReEnds (x0 : List ReN) (x1 : ByteArray) (x2 : Int) (κ : List Int → Option ρ) : Option ρ := ofO (Q.impl_ReEnds.f (x0.map toS) x1 x2) κ
noncomputable def X_impl_ReCount (x0 : List ReN) (x1 : ByteArray) (κ : Int → Option ρ) : Option ρ := ofO (Q.impl_ReCount.f (x0.map toS) x1) κ
open Classical in
/-- With rounds enough. -/
noncomputable def specOk (l : List Q.S49) : Option Bool := if h : ∃ b k, Q.spec_ReOk.f k l = some b then some h.choose else none
noncomputable def X_spec_ReOk (x0 : List ReN) (κ : Bool → Option ρ) : Option ρ := ofO (specOk (x0.map toS)) κ
def X_strings_IndexByte (x0 : ByteArray) (x1 : Int) (κ : Int → Option ρ) : Option ρ := κ (Lib.indexByte x0.data.toList x1.toNat.toUInt8)
end
end Go.Proofs.YtlakdfbfkbndiaaDoor.Ev.Pr
set_option linter.unusedVariables false
set_option maxRecDepth 100000
namespace Go.Proofs.YtlakdfbfkbndiaaDoor.Ev.Pr
open Go Go.RowKit Go.Proofs.YtlakdfbfkbndiaaDoorW.PrintWords Go.Proofs.YtlakdfbfkbndiaaDoorW.PrintMore Kd Go.Proofs.YtlakdfbfkbndiaaDoor.Ev
abbrev ys3 : Ty := .sl 3 (.int .i64)
abbrev yt49r2 : Ty := .pr .str ys3
abbrev Tt49r2 : Type := ByteArray × (List Int)
abbrev yt49r1 : Ty := .pr .bool yt49r2
abbrev Tt49r1 : Type := Bool × Tt49r2
abbrev yt49 : Ty := .pr (.int .i64) yt49r1
abbrev Tt49 : Type := Int × Tt49r1
abbrev elt49 (xs : List Tt49) (i : Int) : Tt49 := elem yt49 xs i
structure Tb (ρ : Type) where
  laws_FnFinds : (List Int) → (Bool → Option ρ) → Option ρ
  laws_FnFinds_s6 : ByteArray → Int → Int → Int → (List Tt49) → (Bool → Option ρ) → Option ρ
  impl_ReFind : (List Tt49) → ByteArray → (Int → Int → Option ρ) → Option ρ
  impl_ReTest : (List Tt49) → ByteArray → (Bool → Option ρ) → Option ρ
  impl_ReEnds : (List Tt49) → ByteArray → Int → (List Int → Option ρ) → Option ρ
  impl_ReCount : (List Tt49) → ByteArray → (Int → Option ρ) → Option ρ
  spec_DrawReFind : (List Int) → (List Tt49 → ByteArray → Option ρ) → Option ρ
  spec_ReOk : (List Tt49) → (Bool → Option ρ) → Option ρ
  laws_shapes : (Bool → Option ρ) → Option ρ
  impl_between : Int → Int → Int → (Bool → Option ρ) → Option ρ
  spec_l1New : (List Int) → (List Int → Int → Int → Option ρ) → Option ρ
  spec_l1New_s3 : (List Int) → Int → Int → (List Int → Int → Int → Option ρ) → Option ρ
  spec_l2tree : (List Int) → Int → Int → (List Tt49 → Int → Int → Option ρ) → Option ρ
  spec_l2tree_s13 : (List Tt49) → (List Int) → Int → Int → (List Tt49 → Int → Int → Option ρ) → Option ρ
  spec_l2subject : (List Int) → Int → Int → (ByteArray → Int → Int → Option ρ) → Option ρ
  impl_ReParse : ByteArray → (List Tt49 → Bool → Option ρ) → Option ρ
  impl_ReText : (List Tt49) → (ByteArray → Option ρ) → Option ρ
  impl_ReOk : (List Tt49) → (Bool → Option ρ) → Option ρ
  impl_ReOk_s5 : (List Tt49) → (List Tt49) → Int → Int → (List Int) → (Bool → Option ρ) → Option ρ
  impl_ReOk_s10 : (List Tt49) → Int → (List Tt49) → Int → Int → (List Int) → Int → Int → (List Int) → (Bool → Option ρ) → Option ρ
  spec_ReParse : ByteArray → (List Tt49 → Bool → Option ρ) → Option ρ
  spec_l2pattern : (List Int) → Int → Int → (ByteArray → Int → Int → Option ρ) → Option ρ
  spec_l2byte : Int → (Int → Bool → ByteArray → List Int → Option ρ) → Option ρ
  spec_l1Below : Int → (List Int) → Int → Int → (Int → Int → Int → Option ρ) → Option ρ
  spec_l1text : (List ByteArray) → (List Int) → Int → Int → (ByteArray → Int → Int → Option ρ) → Option ρ
  spec_l1Once : Int → (List Int) → Int → Int → (Bool → Int → Int → Option ρ) → Option ρ
  spec_l1of : Int → ByteArray → (List Int) → Int → Int → (ByteArray → Int → Int → Option ρ) → Option ρ
  spec_l1of_s3 : Int → ByteArray → Int → (List Int) → (List Int) → Int → Int → (ByteArray → Int → Int → Option ρ) → Option ρ
  impl_reParser_whole : ByteArray → Int → Int → (List Tt49) → Bool → (Int → Int → Int → List Tt49 → Bool → Option ρ) → Option ρ
  impl_reParser_whole_s2 : (List Int) → ByteArray → Int → Int → (List Tt49) → Bool → (Int → Int → Int → List Tt49 → Bool → Option ρ) → Option ρ
  impl_reText : (List Tt49) → Int → (ByteArray → Int → Bool → Option ρ) → Option ρ
  impl_reText_s10 : (List Tt49) → ByteArray → Int → (List Int) → Int → Int → Int → Bool → ByteArray → (List Int) → (ByteArray → Int → Bool → Option ρ) → Option ρ
  impl_reText_s17 : (List Tt49) → ByteArray → Int → Int → ByteArray → Int → Bool → (List Int) → Int → Int → Int → Bool → ByteArray → (List Int) → (ByteArray → Int → Bool → Option ρ) → Option ρ
  impl_reText_s19 : (List Tt49) → ByteArray → Int → ByteArray → Int → Bool → (List Int) → Int → Int → Int → Bool → ByteArray → (List Int) → (ByteArray → Int → Bool → Option ρ) → Option ρ
  impl_reText_s22 : (ByteArray → Int → Bool → Option ρ) → Option ρ
  impl_isReNode : Int → Bool → ByteArray → (List Int) → (Bool → Option ρ) → Option ρ
  impl_isReNode_s10 : Int → Bool → ByteArray → (List Int) → (Bool → Option ρ) → Option ρ
  impl_isReNode_s11 : Int → Int → Bool → ByteArray → (List Int) → (Bool → Option ρ) → Option ρ
  impl_isReNode_s14 : Int → Bool → ByteArray → (List Int) → (Bool → Option ρ) → Option ρ
  impl_isReNode_s15 : (Bool → Option ρ) → Option ρ
  impl_isReNode_s19 : Int → Int → Bool → ByteArray → (List Int) → (Bool → Option ρ) → Option ρ
  slices_ContainsFuncintint : (List Int) → (Bool → Option ρ) → Option ρ
  impl_ReOk_1 : Int → (Bool → Option ρ) → Option ρ
  spec_l2alt : Int → ByteArray → Int → (List Tt49) → Bool → (Int → Int → List Tt49 → Bool → Option ρ) → Option ρ
  spec_l2alt_s2 : Int → (List Int) → ByteArray → Int → (List Tt49) → Bool → (Int → Int → List Tt49 → Bool → Option ρ) → Option ρ
  spec_l2draw : Int → (List Int) → Int → Int → (ByteArray → Int → Int → Option ρ) → Option ρ
  spec_l2draw_s18 : (List Int) → Int → Int → (ByteArray → Int → Int → Option ρ) → Option ρ
  spec_l1bend : ByteArray → (List Int) → Int → Int → (ByteArray → Int → Int → Option ρ) → Option ρ
  spec_l1Byte : (List Int) → Int → Int → (Int → Int → Int → Option ρ) → Option ρ
  impl_reParser_part : ByteArray → Int → Int → (List Tt49) → Bool → (Int → Int → Int → List Tt49 → Bool → Option ρ) → Option ρ
  impl_reParser_part_s2 : (List Int) → ByteArray → Int → Int → (List Tt49) → Bool → (Int → Int → Int → List Tt49 → Bool → Option ρ) → Option ρ
  impl_reParser_sees : ByteArray → ByteArray → Int → (Bool → Option ρ) → Option ρ
  impl_reParser_joined : Int → (List Int) → (List Tt49) → Bool → (Int → List Tt49 → Bool → Option ρ) → Option ρ
  impl_setText : Int → Bool → ByteArray → (List Int) → (ByteArray → Option ρ) → Option ρ
  impl_setText_s5 : Int → Bool → ByteArray → (List Int) → (ByteArray → Option ρ) → Option ρ
  impl_setText_s8 : ByteArray → Int → Bool → ByteArray → (List Int) → (ByteArray → Option ρ) → Option ρ
  impl_setText_s9 : ByteArray → Int → Int → Bool → ByteArray → (List Int) → (ByteArray → Option ρ) → Option ρ
  slices_IndexFuncintint : (List Int) → (Int → Option ρ) → Option ρ
  slices_IndexFuncintint_s2 : (List Int) → Int → Int → (Int → Option ρ) → Option ρ
  spec_l2seq : Int → ByteArray → Int → (List Tt49) → Bool → (Int → Int → List Tt49 → Bool → Option ρ) → Option ρ
  spec_l2seq_s2 : Int → (List Int) → ByteArray → Int → (List Tt49) → Bool → (Int → Int → List Tt49 → Bool → Option ρ) → Option ρ
  spec_l2seq_s4 : (List Int) → ByteArray → Int → (List Tt49) → Bool → (Int → Int → List Tt49 → Bool → Option ρ) → Option ρ
  spec_l2more : ByteArray → Int → (Bool → Option ρ) → Option ρ
  spec_l2peek : ByteArray → Int → (Int → Option ρ) → Option ρ
  spec_l2node : Int → Bool → ByteArray → (List Int) → (List Tt49) → (Int → List Tt49 → Option ρ) → Option ρ
  spec_l2node_1 : Int → Bool → ByteArray → (List Tt49) → (Int → List Tt49 → Option ρ) → Option ρ
  impl_reParser_repeated : ByteArray → Int → Int → (List Tt49) → Bool → (Int → Int → Int → List Tt49 → Bool → Option ρ) → Option ρ
  impl_reParser_repeated_s2 : Int → ByteArray → Int → Int → (List Tt49) → Bool → (Int → Int → Int → List Tt49 → Bool → Option ρ) → Option ρ
  strings_IndexByte : ByteArray → Int → (Int → Option ρ) → Option ρ
  impl_reParser_add : Int → Bool → ByteArray → (List Tt49) → Bool → (Int → List Tt49 → Bool → Option ρ) → Option ρ
  impl_reParser_add_1 : Int → Bool → ByteArray → (List Int) → (List Tt49) → Bool → (Int → List Tt49 → Bool → Option ρ) → Option ρ
  impl_masked : Int → ByteArray → (ByteArray → Option ρ) → Option ρ
  spec_l2rep : Int → ByteArray → Int → (List Tt49) → Bool → (Int → Int → List Tt49 → Bool → Option ρ) → Option ρ
  spec_l2rep_s2 : Int → ByteArray → Int → (List Tt49) → Bool → (Int → Int → List Tt49 → Bool → Option ρ) → Option ρ
  impl_reParser_atom : ByteArray → Int → Int → (List Tt49) → Bool → (Int → Int → Int → List Tt49 → Bool → Option ρ) → Option ρ
  impl_reParser_atom_s3 : Int → ByteArray → Int → Int → (List Tt49) → Bool → (Int → Int → Int → List Tt49 → Bool → Option ρ) → Option ρ
  impl_reParser_atom_s30 : ByteArray → Int → Int → (List Tt49) → Bool → (Int → Int → Int → List Tt49 → Bool → Option ρ) → Option ρ
  impl_reParser_next : ByteArray → Int → Bool → (Int → Int → Bool → Option ρ) → Option ρ
  spec_l2atom : Int → ByteArray → Int → (List Tt49) → Bool → (Int → Int → List Tt49 → Bool → Option ρ) → Option ρ
  spec_l2has : ByteArray → Int → (Bool → Option ρ) → Option ρ
  spec_l2has_s2 : ByteArray → Int → Int → (Bool → Option ρ) → Option ρ
  impl_reParser_class : ByteArray → Int → (List Tt49) → Bool → (Int → Int → List Tt49 → Bool → Option ρ) → Option ρ
  impl_reParser_class_s5 : (List Int) → ByteArray → Int → (List Tt49) → Bool → Int → Bool → ByteArray → (List Int) → (Int → Int → List Tt49 → Bool → Option ρ) → Option ρ
  impl_reParser_class_s11 : Int → Int → Int → Bool → Bool → Bool → (List Int) → ByteArray → Int → (List Tt49) → Bool → Int → Bool → ByteArray → (List Int) → (Int → Int → List Tt49 → Bool → Option ρ) → Option ρ
  impl_reParser_class_s12 : Int → Int → Int → Bool → Bool → Bool → (List Int) → ByteArray → Int → (List Tt49) → Bool → Int → Bool → ByteArray → (List Int) → (Int → Int → List Tt49 → Bool → Option ρ) → Option ρ
  impl_reParser_single : Int → (List Tt49) → Bool → (Int → List Tt49 → Bool → Option ρ) → Option ρ
  spec_l2set : ByteArray → Int → (List Tt49) → Bool → (Int → Int → List Tt49 → Bool → Option ρ) → Option ρ
  spec_l2set_s8 : Bool → (List Int) → ByteArray → Int → (List Tt49) → Bool → Int → Bool → ByteArray → (List Int) → (Int → Int → List Tt49 → Bool → Option ρ) → Option ρ
  spec_l2set_s15 : Int → Int → Bool → Bool → Bool → (List Int) → ByteArray → Int → (List Tt49) → Bool → Int → Bool → ByteArray → (List Int) → (Int → Int → List Tt49 → Bool → Option ρ) → Option ρ
  spec_l2set_s17 : Int → Int → Bool → Bool → Bool → (List Int) → ByteArray → Int → (List Tt49) → Bool → Int → Bool → ByteArray → (List Int) → (Int → Int → List Tt49 → Bool → Option ρ) → Option ρ
  spec_l2set_s19 : ByteArray → Int → (List Tt49) → Bool → (Int → Int → List Tt49 → Bool → Option ρ) → Option ρ
  impl_reParser_item : ByteArray → Int → Bool → (Int → Int → Bool → Option ρ) → Option ρ
  spec_l2item : ByteArray → Int → Bool → (Int → Int → Bool → Option ρ) → Option ρ
end Go.Proofs.YtlakdfbfkbndiaaDoor.Ev.Pr
set_option linter.unusedVariables false
set_option maxRecDepth 100000
namespace Go.Proofs.YtlakdfbfkbndiaaDoor.Ev.Pr
open Go Go.RowKit Go.Proofs.YtlakdfbfkbndiaaDoorW.PrintWords Go.Proofs.YtlakdfbfkbndiaaDoorW.PrintMore Kd Go.Proofs.YtlakdfbfkbndiaaDoor.Ev
section
variable {ρ : Type}
def B_laws_FnFinds (t : Tb ρ) (x0 : List Int) (κ : Bool → Option ρ) : Option ρ := t.spec_DrawReFind x0 (fun (v1 : List Tt49) (v2 : ByteArray) => t.impl_ReFind v1 v2 (fun (v3 : Int) (v4 : Int) => t.spec_ReOk v1 (fun (v5 : Bool) => bif !v5 then (bif v3 == (-1) then (bif v4 == 0 then (t.laws_shapes  (fun (v6 : Bool) => κ v6)) else (κ false)) else (κ false)) else (bif decide ((v2.size : Int) > 500) then (bif v3 == (-1) then (bif v4 == 0 then (t.laws_shapes  (fun (v7 : Bool) => κ v7)) else (κ false)) else (κ false)) else (t.laws_FnFinds_s6 v2 v3 v4 0 v1 κ)))))
def B_laws_FnFinds_s6 (t : Tb ρ) (x8 : ByteArray) (x9 : Int) (x10 : Int) (x11 : Int) (x12 : List Tt49) (κ : Bool → Option ρ) : Option ρ := bif decide (x11 ≤ (x8.size : Int)) then (bif decide (x9 < 0) then (t.impl_ReEnds x12 x8 x11 (fun (v13 : List Int) => bif decide ((v13.length : Int) > 0) then (κ false) else (t.laws_FnFinds_s6 x8 x9 x10 (w (x11 + 1)) x12 κ))) else (bif decide (x11 < x9) then (t.impl_ReEnds x12 x8 x11 (fun (v14 : List Int) => bif decide ((v14.length : Int) > 0) then (κ false) else (t.laws_FnFinds_s6 x8 x9 x10 (w (x11 + 1)) x12 κ))) else (bif decide (x9 < 0) then (bif x10 == 0 then (t.impl_ReTest x12 x8 (fun (v15 : Bool) => bif !v15 then (t.impl_ReCount x12 x8 (fun (v16 : Int) => bif v16 == 0 then (t.laws_shapes  (fun (v17 : Bool) => κ v17)) else (κ false))) else (κ false))) else (κ false)) else (t.impl_ReEnds x12 x8 x9 (fun (v18 : List Int) => bif decide ((v18.length : Int) > 0) then (if (0 : Int) ≤ (w ((v18.length : Int) - 1)) then if (w ((v18.length : Int) - 1)) < (v18.length : Int) then bif (elI .i64 v18 (w ((v18.length : Int) - 1))) == (w (x9 + x10)) then (t.impl_ReTest x12 x8 (fun (v19 : Bool) => bif v19 then (t.impl_ReCount x12 x8 (fun (v20 : Int) => bif decide (v20 > 0) then (t.laws_shapes  (fun (v21 : Bool) => κ v21)) else (κ false))) else (κ false))) else (κ false) else none else none) else (κ false)))))) else (bif decide (x9 < 0) then (bif x10 == 0 then (t.impl_ReTest x12 x8 (fun (v22 : Bool) => bif !v22 then (t.impl_ReCount x12 x8 (fun (v23 : Int) => bif v23 == 0 then (t.laws_shapes  (fun (v24 : Bool) => κ v24)) else (κ false))) else (κ false))) else (κ false)) else (t.impl_ReEnds x12 x8 x9 (fun (v25 : List Int) => bif decide ((v25.length : Int) > 0) then (if (0 : Int) ≤ (w ((v25.length : Int) - 1)) then if (w ((v25.length : Int) - 1)) < (v25.length : Int) then bif (elI .i64 v25 (w ((v25.length : Int) - 1))) == (w (x9 + x10)) then (t.impl_ReTest x12 x8 (fun (v26 : Bool) => bif v26 then (t.impl_ReCount x12 x8 (fun (v27 : Int) => bif decide (v27 > 0) then (t.laws_shapes  (fun (v28 : Bool) => κ v28)) else (κ false))) else (κ false))) else (κ false) else none else none) else (κ false))))
def B_spec_DrawReFind (t : Tb ρ) (x0 : List Int) (κ : List Tt49 → ByteArray → Option ρ) : Option ρ := t.spec_l1New x0 (fun (v1 : List Int) (v2 : Int) (v3 : Int) => t.spec_l2tree v1 v2 v3 (fun (v4 : List Tt49) (v5 : Int) (v6 : Int) => t.spec_l2subject v1 v5 v6 (fun (v7 : ByteArray) (v8 : Int) (v9 : Int) => κ v4 v7)))
def B_laws_shapes (t : Tb ρ) (κ : Bool → Option ρ) : Option ρ := t.impl_ReParse (bs [97, 43, 98, 124, 99]) (fun (v0 : List Tt49) (v1 : Bool) => t.impl_ReFind v0 (bs [120, 97, 97, 98]) (fun (v2 : Int) (v3 : Int) => bif v1 then (bif v2 == 1 then (bif v3 == 3 then (t.impl_ReText v0 (fun (v4 : ByteArray) => bif v4.toList == (bs [97, 43, 98, 124, 99]).toList then (t.impl_ReCount v0 (bs [99, 97, 98, 99]) (fun (v5 : Int) => bif v5 == 3 then (t.impl_ReTest v0 (bs [120, 97]) (fun (v6 : Bool) => κ (!v6))) else (κ false))) else (κ false))) else (κ false)) else (κ false)) else (κ false)))
def B_impl_between (t : Tb ρ) (x0 : Int) (x1 : Int) (x2 : Int) (κ : Bool → Option ρ) : Option ρ := bif decide (x0 ≥ x1) then (κ (decide (x0 ≤ x2))) else (κ false)
def B_spec_l1New (t : Tb ρ) (x0 : List Int) (κ : List Int → Int → Int → Option ρ) : Option ρ := t.spec_l1New_s3 x0 (w (64242 + (x0.length : Int))) 0 κ
def B_spec_l1New_s3 (t : Tb ρ) (x1 : List Int) (x2 : Int) (x3 : Int) (κ : List Int → Int → Int → Option ρ) : Option ρ := bif decide (x3 < (x1.length : Int)) then (bif decide (x3 < 4000) then (if (0 : Int) ≤ x3 then if x3 < (x1.length : Int) then t.spec_l1New_s3 x1 (bitand .i64 (w ((w ((w (x2 * 131)) + (w (elI .u8 x1 x3)))) + 7)) 1073741823) (w (x3 + 1)) κ else none else none) else (κ x1 0 x2)) else (κ x1 0 x2)
def B_spec_l2tree (t : Tb ρ) (x0 : List Int) (x1 : Int) (x2 : Int) (κ : List Tt49 → Int → Int → Option ρ) : Option ρ := t.spec_l2pattern x0 x1 x2 (fun (v3 : ByteArray) (v4 : Int) (v5 : Int) => t.spec_ReParse v3 (fun (v6 : List Tt49) (v7 : Bool) => bif !v7 then (t.spec_l2byte 97 (fun (v8 : Int) (v9 : Bool) (v10 : ByteArray) (v11 : List Int) => t.spec_l2byte 98 (fun (v12 : Int) (v13 : Bool) (v14 : ByteArray) (v15 : List Int) => t.spec_l1Below 16 x0 v4 v5 (fun (v16 : Int) (v17 : Int) (v18 : Int) => bif v16 == 0 then (t.spec_l1Below 3 x0 v17 v18 (fun (v19 : Int) (v20 : Int) (v21 : Int) => t.spec_l1Below 9 x0 v20 v21 (fun (v22 : Int) (v23 : Int) (v24 : Int) => if (0 : Int) ≤ v19 then if v19 < 3 then t.spec_l2tree_s13 ([(v8, v9, v10, v11), (v12, v13, v14, v15), (4, false, bs [], [0, 1])].set v19.toNat (w (v22 - 1), (elt49 [(v8, v9, v10, v11), (v12, v13, v14, v15), (4, false, bs [], [0, 1])] v19).2)) x0 v23 v24 κ else none else none))) else (bif v16 == 1 then (t.spec_l1Below 3 x0 v17 v18 (fun (v25 : Int) (v26 : Int) (v27 : Int) => if (0 : Int) ≤ v25 then if v25 < 3 then t.spec_l2tree_s13 ([(v8, v9, v10, v11), (v12, v13, v14, v15), (4, false, bs [], [0, 1])].set v25.toNat ((elt49 [(v8, v9, v10, v11), (v12, v13, v14, v15), (4, false, bs [], [0, 1])] v25).1, true, (elt49 [(v8, v9, v10, v11), (v12, v13, v14, v15), (4, false, bs [], [0, 1])] v25).2.2)) x0 v26 v27 κ else none else none)) else (bif v16 == 2 then (t.spec_l1Below 3 x0 v17 v18 (fun (v28 : Int) (v29 : Int) (v30 : Int) => t.spec_l1text [bs [], bs [97], bs [98, 97], bs [97, 98], bs [93, 93], bs [45, 45]] x0 v29 v30 (fun (v31 : ByteArray) (v32 : Int) (v33 : Int) => if (0 : Int) ≤ v28 then if v28 < 3 then t.spec_l2tree_s13 ([(v8, v9, v10, v11), (v12, v13, v14, v15), (4, false, bs [], [0, 1])].set v28.toNat ((elt49 [(v8, v9, v10, v11), (v12, v13, v14, v15), (4, false, bs [], [0, 1])] v28).1, (elt49 [(v8, v9, v10, v11), (v12, v13, v14, v15), (4, false, bs [], [0, 1])] v28).2.1, v31, (elt49 [(v8, v9, v10, v11), (v12, v13, v14, v15), (4, false, bs [], [0, 1])] v28).2.2.2)) x0 v32 v33 κ else none else none))) else (bif v16 == 3 then (t.spec_l2tree_s13 [(v8, v9, v10, v11), (v12, v13, v14, v15), (4, false, bs [], [0, 1]), (5, false, bs [], [2])] x0 v17 v18 κ) else (t.spec_l2tree_s13 [(v8, v9, v10, v11), (v12, v13, v14, v15), (4, false, bs [], [0, 1])] x0 v17 v18 κ)))))))) else (t.spec_l1Below 16 x0 v4 v5 (fun (v34 : Int) (v35 : Int) (v36 : Int) => bif v34 == 0 then (t.spec_l1Below (v6.length : Int) x0 v35 v36 (fun (v37 : Int) (v38 : Int) (v39 : Int) => t.spec_l1Below 9 x0 v38 v39 (fun (v40 : Int) (v41 : Int) (v42 : Int) => if (0 : Int) ≤ v37 then if v37 < (v6.length : Int) then t.spec_l2tree_s13 (v6.set v37.toNat (w (v40 - 1), (elt49 v6 v37).2)) x0 v41 v42 κ else none else none))) else (bif v34 == 1 then (t.spec_l1Below (v6.length : Int) x0 v35 v36 (fun (v43 : Int) (v44 : Int) (v45 : Int) => if (0 : Int) ≤ v43 then if v43 < (v6.length : Int) then t.spec_l2tree_s13 (v6.set v43.toNat ((elt49 v6 v43).1, true, (elt49 v6 v43).2.2)) x0 v44 v45 κ else none else none)) else (bif v34 == 2 then (t.spec_l1Below (v6.length : Int) x0 v35 v36 (fun (v46 : Int) (v47 : Int) (v48 : Int) => t.spec_l1text [bs [], bs [97], bs [98, 97], bs [97, 98], bs [93, 93], bs [45, 45]] x0 v47 v48 (fun (v49 : ByteArray) (v50 : Int) (v51 : Int) => if (0 : Int) ≤ v46 then if v46 < (v6.length : Int) then t.spec_l2tree_s13 (v6.set v46.toNat ((elt49 v6 v46).1, (elt49 v6 v46).2.1, v49, (elt49 v6 v46).2.2.2)) x0 v50 v51 κ else none else none))) else (bif v34 == 3 then (if (v6.length + 1) * 56 ≤ 140737488355328 then t.spec_l2tree_s13 (v6 ++ [(5, false, bs [], [w ((v6.length : Int) - 1)])]) x0 v35 v36 κ else none) else (t.spec_l2tree_s13 v6 x0 v35 v36 κ))))))))
def B_spec_l2tree_s13 (t : Tb ρ) (x52 : List Tt49) (x53 : List Int) (x54 : Int) (x55 : Int) (κ : List Tt49 → Int → Int → Option ρ) : Option ρ := κ x52 x54 x55
def B_spec_l2subject (t : Tb ρ) (x0 : List Int) (x1 : Int) (x2 : Int) (κ : ByteArray → Int → Int → Option ρ) : Option ρ := t.spec_l1Once 40 x0 x1 x2 (fun (v3 : Bool) (v4 : Int) (v5 : Int) => bif v3 then (t.spec_l1Below 2 x0 v4 v5 (fun (v6 : Int) (v7 : Int) (v8 : Int) => t.spec_l1of (w (500 + v6)) (bs [97]) x0 v7 v8 (fun (v9 : ByteArray) (v10 : Int) (v11 : Int) => κ v9 v10 v11))) else (t.spec_l1Below 12 x0 v4 v5 (fun (v12 : Int) (v13 : Int) (v14 : Int) => t.spec_l1of v12 (bs [97, 97, 98, 98, 99, 46, 40, 120]) x0 v13 v14 (fun (v15 : ByteArray) (v16 : Int) (v17 : Int) => κ v15 v16 v17))))
def B_impl_ReParse (t : Tb ρ) (x0 : ByteArray) (κ : List Tt49 → Bool → Option ρ) : Option ρ := t.impl_between (x0.size : Int) 1 200 (fun (v1 : Bool) => bif !v1 then (κ [] false) else (t.impl_reParser_whole x0 0 0 [] false (fun (v2 : Int) (v3 : Int) (v4 : Int) (v5 : List Tt49) (v6 : Bool) => bif v6 then (κ [] false) else (bif v3 != (x0.size : Int) then (κ [] false) else (κ v5 true)))))
def B_impl_ReText (t : Tb ρ) (x0 : List Tt49) (κ : ByteArray → Option ρ) : Option ρ := t.impl_ReOk x0 (fun (v1 : Bool) => bif !v1 then (κ (bs [])) else (t.impl_reText x0 (w ((x0.length : Int) - 1)) (fun (v2 : ByteArray) (v3 : Int) (v4 : Bool) => bif !v4 then (κ (bs [])) else (bif decide (v3 > 20) then (κ (bs [])) else (bif decide ((v2.size : Int) > 200) then (κ (bs [])) else (κ v2))))))
def B_impl_ReOk (t : Tb ρ) (x0 : List Tt49) (κ : Bool → Option ρ) : Option ρ := t.impl_between (x0.length : Int) 1 200 (fun (v1 : Bool) => bif !v1 then (κ false) else (if (0 : Int) ≤ (x0.length : Int) then if (x0.length : Int) ≤ (x0.length : Int) then if (x0.length : Int).toNat * 8 ≤ 281474976710656 then t.impl_ReOk_s5 x0 x0 (x0.length : Int) 0 (List.replicate (x0.length : Int).toNat 0) κ else none else none else none))
def B_impl_ReOk_s5 (t : Tb ρ) (x2 : List Tt49) (x3 : List Tt49) (x4 : Int) (x5 : Int) (x6 : List Int) (κ : Bool → Option ρ) : Option ρ := bif decide (x5 < x4) then (if (0 : Int) ≤ x5 then if x5 < (x3.length : Int) then t.impl_isReNode (elt49 x3 x5).1 (elt49 x3 x5).2.1 (elt49 x3 x5).2.2.1 (elt49 x3 x5).2.2.2 (fun (v7 : Bool) => bif !v7 then (κ false) else (t.impl_ReOk_s10 x2 x5 x3 x4 x5 (elt49 x3 x5).2.2.2 ((elt49 x3 x5).2.2.2.length : Int) 0 x6 κ)) else none else none) else (if (0 : Int) ≤ (w ((x2.length : Int) - 1)) then if (w ((x2.length : Int) - 1)) ≤ (x6.length : Int) then t.slices_ContainsFuncintint (x6.take (w ((x2.length : Int) - 1)).toNat) (fun (v8 : Bool) => κ (!v8)) else none else none)
def B_impl_ReOk_s10 (t : Tb ρ) (x9 : List Tt49) (x10 : Int) (x11 : List Tt49) (x12 : Int) (x13 : Int) (x14 : List Int) (x15 : Int) (x16 : Int) (x17 : List Int) (κ : Bool → Option ρ) : Option ρ := bif decide (x16 < x15) then (if (0 : Int) ≤ x16 then if x16 < (x14.length : Int) then t.impl_between (elI .i64 x14 x16) 0 (w (x10 - 1)) (fun (v18 : Bool) => bif !v18 then (κ false) else (if (0 : Int) ≤ (elI .i64 x14 x16) then if (elI .i64 x14 x16) < (x17.length : Int) then if (0 : Int) ≤ (elI .i64 x14 x16) then if (elI .i64 x14 x16) < (x17.length : Int) then t.impl_ReOk_s10 x9 x10 x11 x12 x13 x14 x15 (w (x16 + 1)) (x17.set (elI .i64 x14 x16).toNat (w ((elI .i64 x17 (elI .i64 x14 x16)) + 1))) κ else none else none else none else none)) else none else none) else (t.impl_ReOk_s5 x9 x11 x12 (w (x13 + 1)) x17 κ)
def B_spec_ReParse (t : Tb ρ) (x0 : ByteArray) (κ : List Tt49 → Bool → Option ρ) : Option ρ := bif decide ((x0.size : Int) < 1) then (κ [] false) else (bif decide ((x0.size : Int) > 200) then (κ [] false) else (t.spec_l2alt 0 x0 0 [] false (fun (v1 : Int) (v2 : Int) (v3 : List Tt49) (v4 : Bool) => bif v4 then (κ [] false) else (bif v2 != (x0.size : Int) then (κ [] false) else (bif decide ((v3.length : Int) > 200) then (κ [] false) else (κ v3 true))))))
def B_spec_l2pattern (t : Tb ρ) (x0 : List Int) (x1 : Int) (x2 : Int) (κ : ByteArray → Int → Int → Option ρ) : Option ρ := t.spec_l2draw 3 x0 x1 x2 (fun (v3 : ByteArray) (v4 : Int) (v5 : Int) => t.spec_l1Once 6 x0 v4 v5 (fun (v6 : Bool) (v7 : Int) (v8 : Int) => bif v6 then (t.spec_l1bend v3 x0 v7 v8 (fun (v9 : ByteArray) (v10 : Int) (v11 : Int) => κ v9 v10 v11)) else (κ v3 v7 v8)))
def B_spec_l2byte (t : Tb ρ) (x0 : Int) (κ : Int → Bool → ByteArray → List Int → Option ρ) : Option ρ := κ 0 false (strOfNums [x0, x0]) []
def B_spec_l1Below (t : Tb ρ) (x0 : Int) (x1 : List Int) (x2 : Int) (x3 : Int) (κ : Int → Int → Int → Option ρ) : Option ρ := bif decide (x0 ≤ 0) then (κ 0 x2 x3) else (bif decide (x0 ≤ 256) then (t.spec_l1Byte x1 x2 x3 (fun (v4 : Int) (v5 : Int) (v6 : Int) => if x0 = 0 then none else κ (v4.tmod x0) v5 v6)) else (t.spec_l1Byte x1 x2 x3 (fun (v7 : Int) (v8 : Int) (v9 : Int) => t.spec_l1Byte x1 v8 v9 (fun (v10 : Int) (v11 : Int) (v12 : Int) => t.spec_l1Byte x1 v11 v12 (fun (v13 : Int) (v14 : Int) (v15 : Int) => t.spec_l1Byte x1 v14 v15 (fun (v16 : Int) (v17 : Int) (v18 : Int) => if x0 = 0 then none else κ ((w ((w ((w ((w (v7 * 16777216)) + (w (v10 * 65536)))) + (w (v13 * 256)))) + v16)).tmod x0) v17 v18))))))
def B_spec_l1text (t : Tb ρ) (x0 : List ByteArray) (x1 : List Int) (x2 : Int) (x3 : Int) (κ : ByteArray → Int → Int → Option ρ) : Option ρ := t.spec_l1Below (x0.length : Int) x1 x2 x3 (fun (v4 : Int) (v5 : Int) (v6 : Int) => if (0 : Int) ≤ v4 then if v4 < (x0.length : Int) then κ (elS x0 v4) v5 v6 else none else none)
def B_spec_l1Once (t : Tb ρ) (x0 : Int) (x1 : List Int) (x2 : Int) (x3 : Int) (κ : Bool → Int → Int → Option ρ) : Option ρ := t.spec_l1Below x0 x1 x2 x3 (fun (v4 : Int) (v5 : Int) (v6 : Int) => κ (v4 == 0) v5 v6)
def B_spec_l1of (t : Tb ρ) (x0 : Int) (x1 : ByteArray) (x2 : List Int) (x3 : Int) (x4 : Int) (κ : ByteArray → Int → Int → Option ρ) : Option ρ := t.spec_l1of_s3 x0 x1 0 [] x2 x3 x4 κ
def B_spec_l1of_s3 (t : Tb ρ) (x5 : Int) (x6 : ByteArray) (x7 : Int) (x8 : List Int) (x9 : List Int) (x10 : Int) (x11 : Int) (κ : ByteArray → Int → Int → Option ρ) : Option ρ := bif decide (x7 < x5) then (t.spec_l1Below (x6.size : Int) x9 x10 x11 (fun (v12 : Int) (v13 : Int) (v14 : Int) => if (0 : Int) ≤ v12 then if v12 < (x6.size : Int) then if (x8.length + 1) * 1 ≤ 140737488355328 then t.spec_l1of_s3 x5 x6 (w (x7 + 1)) (x8 ++ [bt x6 v12]) x9 v13 v14 κ else none else none else none)) else (κ (strOfNums x8) x10 x11)
def B_impl_reParser_whole (t : Tb ρ) (x0 : ByteArray) (x1 : Int) (x2 : Int) (x3 : List Tt49) (x4 : Bool) (κ : Int → Int → Int → List Tt49 → Bool → Option ρ) : Option ρ := t.impl_reParser_part x0 x1 x2 x3 x4 (fun (v5 : Int) (v6 : Int) (v7 : Int) (v8 : List Tt49) (v9 : Bool) => t.impl_reParser_whole_s2 [v5] x0 v6 v7 v8 v9 κ)
def B_impl_reParser_whole_s2 (t : Tb ρ) (x10 : List Int) (x11 : ByteArray) (x12 : Int) (x13 : Int) (x14 : List Tt49) (x15 : Bool) (κ : Int → Int → Int → List Tt49 → Bool → Option ρ) : Option ρ := bif !x15 then (t.impl_reParser_sees (bs [124]) x11 x12 (fun (v16 : Bool) => bif v16 then (t.impl_reParser_part x11 (w (x12 + 1)) x13 x14 x15 (fun (v17 : Int) (v18 : Int) (v19 : Int) (v20 : List Tt49) (v21 : Bool) => if (x10.length + 1) * 8 ≤ 140737488355328 then t.impl_reParser_whole_s2 (x10 ++ [v17]) x11 v18 v19 v20 v21 κ else none)) else (t.impl_reParser_joined 4 x10 x14 x15 (fun (v22 : Int) (v23 : List Tt49) (v24 : Bool) => κ v22 x12 x13 v23 v24)))) else (t.impl_reParser_joined 4 x10 x14 x15 (fun (v25 : Int) (v26 : List Tt49) (v27 : Bool) => κ v25 x12 x13 v26 v27))
def B_impl_reText (t : Tb ρ) (x0 : List Tt49) (x1 : Int) (κ : ByteArray → Int → Bool → Option ρ) : Option ρ := if (0 : Int) ≤ x1 then if x1 < (x0.length : Int) then bif (elt49 x0 x1).1 == 0 then (t.impl_setText (elt49 x0 x1).1 (elt49 x0 x1).2.1 (elt49 x0 x1).2.2.1 (elt49 x0 x1).2.2.2 (fun (v2 : ByteArray) => κ v2 0 true)) else (bif (elt49 x0 x1).1 == 1 then (κ (bs [94]) 0 true) else (bif (elt49 x0 x1).1 == 2 then (κ (bs [36]) 0 true) else (t.impl_reText_s10 x0 (bs []) 0 (elt49 x0 x1).2.2.2 ((elt49 x0 x1).2.2.2.length : Int) 0 (elt49 x0 x1).1 (elt49 x0 x1).2.1 (elt49 x0 x1).2.2.1 (elt49 x0 x1).2.2.2 κ))) else none else none
def B_impl_reText_s10 (t : Tb ρ) (x3 : List Tt49) (x4 : ByteArray) (x5 : Int) (x6 : List Int) (x7 : Int) (x8 : Int) (x9 : Int) (x10 : Bool) (x11 : ByteArray) (x12 : List Int) (κ : ByteArray → Int → Bool → Option ρ) : Option ρ := bif decide (x8 < x7) then (if (0 : Int) ≤ x8 then if x8 < (x6.length : Int) then t.impl_reText x3 (elI .i64 x6 x8) (fun (v13 : ByteArray) (v14 : Int) (v15 : Bool) => if (0 : Int) ≤ (elI .i64 x6 x8) then if (elI .i64 x6 x8) < (x3.length : Int) then bif (elt49 x3 (elI .i64 x6 x8)).1 == 4 then (if 1 + v13.size ≤ 9223372036854775807 then if ((bs [40]) ++ v13).size + 1 ≤ 9223372036854775807 then t.impl_reText_s17 x3 x4 x5 x8 (((bs [40]) ++ v13) ++ (bs [41])) (w (v14 + 1)) v15 x6 x7 x8 x9 x10 x11 x12 κ else none else none) else (bif (elt49 x3 (elI .i64 x6 x8)).1 == 3 then (bif x9 != 4 then (if 1 + v13.size ≤ 9223372036854775807 then if ((bs [40]) ++ v13).size + 1 ≤ 9223372036854775807 then t.impl_reText_s17 x3 x4 x5 x8 (((bs [40]) ++ v13) ++ (bs [41])) (w (v14 + 1)) v15 x6 x7 x8 x9 x10 x11 x12 κ else none else none) else (t.impl_reText_s17 x3 x4 x5 x8 v13 v14 v15 x6 x7 x8 x9 x10 x11 x12 κ)) else (t.impl_reText_s17 x3 x4 x5 x8 v13 v14 v15 x6 x7 x8 x9 x10 x11 x12 κ)) else none else none) else none else none) else (bif decide (x9 ≥ 5) then (if (0 : Int) ≤ (w (x9 - 5)) then if (w (x9 - 5)) ≤ (w ((w (x9 - 5)) + 1)) then if (w ((w (x9 - 5)) + 1)) ≤ 3 then if x4.size + ((bs [42, 43, 63]).extract (w (x9 - 5)).toNat (w ((w (x9 - 5)) + 1)).toNat).size ≤ 9223372036854775807 then κ (x4 ++ ((bs [42, 43, 63]).extract (w (x9 - 5)).toNat (w ((w (x9 - 5)) + 1)).toNat)) x5 true else none else none else none else none) else (κ x4 x5 true))
def B_impl_reText_s17 (t : Tb ρ) (x16 : List Tt49) (x17 : ByteArray) (x18 : Int) (x19 : Int) (x20 : ByteArray) (x21 : Int) (x22 : Bool) (x23 : List Int) (x24 : Int) (x25 : Int) (x26 : Int) (x27 : Bool) (x28 : ByteArray) (x29 : List Int) (κ : ByteArray → Int → Bool → Option ρ) : Option ρ := bif decide (x19 > 0) then (bif x26 == 4 then (if x17.size + 1 ≤ 9223372036854775807 then t.impl_reText_s19 x16 (x17 ++ (bs [124])) x18 x20 x21 x22 x23 x24 x25 x26 x27 x28 x29 κ else none) else (t.impl_reText_s19 x16 x17 x18 x20 x21 x22 x23 x24 x25 x26 x27 x28 x29 κ)) else (t.impl_reText_s19 x16 x17 x18 x20 x21 x22 x23 x24 x25 x26 x27 x28 x29 κ)
def B_impl_reText_s19 (t : Tb ρ) (x30 : List Tt49) (x31 : ByteArray) (x32 : Int) (x33 : ByteArray) (x34 : Int) (x35 : Bool) (x36 : List Int) (x37 : Int) (x38 : Int) (x39 : Int) (x40 : Bool) (x41 : ByteArray) (x42 : List Int) (κ : ByteArray → Int → Bool → Option ρ) : Option ρ := if x31.size + x33.size ≤ 9223372036854775807 then bif !x35 then (t.impl_reText_s22  κ) else (bif decide (((x31 ++ x33).size : Int) > 200) then (t.impl_reText_s22  κ) else (t.impl_reText_s10 x30 (x31 ++ x33) (mx x32 x34) x36 x37 (w (x38 + 1)) x39 x40 x41 x42 κ)) else none
def B_impl_reText_s22 (t : Tb ρ) (κ : ByteArray → Int → Bool → Option ρ) : Option ρ := κ (bs []) 0 false
def B_impl_isReNode (t : Tb ρ) (x0 : Int) (x1 : Bool) (x2 : ByteArray) (x3 : List Int) (κ : Bool → Option ρ) : Option ρ := bif x0 != 0 then (bif x1 then (κ false) else (bif !(x2.toList == (bs []).toList) then (κ false) else (bif x0 == 1 then (bif x0 == 1 then (κ ((x3.length : Int) == 0)) else (bif x0 == 3 then (bif x0 == 3 then (t.impl_isReNode_s10 x0 x1 x2 x3 κ) else (t.impl_isReNode_s11 x0 x0 x1 x2 x3 κ)) else (bif x0 == 4 then (t.impl_isReNode_s10 x0 x1 x2 x3 κ) else (t.impl_isReNode_s11 x0 x0 x1 x2 x3 κ)))) else (bif x0 == 2 then (κ ((x3.length : Int) == 0)) else (bif x0 == 3 then (bif x0 == 3 then (t.impl_isReNode_s10 x0 x1 x2 x3 κ) else (t.impl_isReNode_s11 x0 x0 x1 x2 x3 κ)) else (bif x0 == 4 then (t.impl_isReNode_s10 x0 x1 x2 x3 κ) else (t.impl_isReNode_s11 x0 x0 x1 x2 x3 κ))))))) else (bif ((x2.size : Int).tmod 2) != 0 then (κ false) else (bif decide ((x3.length : Int) > 0) then (κ false) else (bif x2.toList == (bs []).toList then (bif !x1 then (κ false) else (t.impl_isReNode_s19 0 x0 x1 x2 x3 κ)) else (t.impl_isReNode_s19 0 x0 x1 x2 x3 κ))))
def B_impl_isReNode_s10 (t : Tb ρ) (x4 : Int) (x5 : Bool) (x6 : ByteArray) (x7 : List Int) (κ : Bool → Option ρ) : Option ρ := κ (decide ((x7.length : Int) ≥ 2))
def B_impl_isReNode_s11 (t : Tb ρ) (x8 : Int) (x9 : Int) (x10 : Bool) (x11 : ByteArray) (x12 : List Int) (κ : Bool → Option ρ) : Option ρ := bif x8 == 5 then (bif x8 == 5 then (t.impl_isReNode_s14 x9 x10 x11 x12 κ) else (t.impl_isReNode_s15  κ)) else (bif x8 == 6 then (bif x8 == 6 then (t.impl_isReNode_s14 x9 x10 x11 x12 κ) else (t.impl_isReNode_s15  κ)) else (bif x8 == 7 then (t.impl_isReNode_s14 x9 x10 x11 x12 κ) else (t.impl_isReNode_s15  κ)))
def B_impl_isReNode_s14 (t : Tb ρ) (x18 : Int) (x19 : Bool) (x20 : ByteArray) (x21 : List Int) (κ : Bool → Option ρ) : Option ρ := κ ((x21.length : Int) == 1)
def B_impl_isReNode_s15 (t : Tb ρ) (κ : Bool → Option ρ) : Option ρ := κ false
def B_impl_isReNode_s19 (t : Tb ρ) (x13 : Int) (x14 : Int) (x15 : Bool) (x16 : ByteArray) (x17 : List Int) (κ : Bool → Option ρ) : Option ρ := bif decide (x13 < (x16.size : Int)) then (if (0 : Int) ≤ (w (x13 + 1)) then if (w (x13 + 1)) < (x16.size : Int) then if (0 : Int) ≤ x13 then if x13 < (x16.size : Int) then bif decide ((bt x16 (w (x13 + 1))) < (bt x16 x13)) then (κ false) else (t.impl_isReNode_s19 (w (x13 + 2)) x14 x15 x16 x17 κ) else none else none else none else none) else (κ true)
def B_slices_ContainsFuncintint (t : Tb ρ) (x0 : List Int) (κ : Bool → Option ρ) : Option ρ := t.slices_IndexFuncintint x0 (fun (v1 : Int) => κ (decide (v1 ≥ 0)))
def B_impl_ReOk_1 (t : Tb ρ) (x0 : Int) (κ : Bool → Option ρ) : Option ρ := κ (x0 != 1)
def B_spec_l2alt (t : Tb ρ) (x0 : Int) (x1 : ByteArray) (x2 : Int) (x3 : List Tt49) (x4 : Bool) (κ : Int → Int → List Tt49 → Bool → Option ρ) : Option ρ := t.spec_l2seq x0 x1 x2 x3 x4 (fun (v5 : Int) (v6 : Int) (v7 : List Tt49) (v8 : Bool) => t.spec_l2alt_s2 x0 [v5] x1 v6 v7 v8 κ)
def B_spec_l2alt_s2 (t : Tb ρ) (x9 : Int) (x10 : List Int) (x11 : ByteArray) (x12 : Int) (x13 : List Tt49) (x14 : Bool) (κ : Int → Int → List Tt49 → Bool → Option ρ) : Option ρ := bif !x14 then (t.spec_l2more x11 x12 (fun (v15 : Bool) => bif v15 then (t.spec_l2peek x11 x12 (fun (v16 : Int) => bif v16 == 124 then (t.spec_l2seq x9 x11 (w (x12 + 1)) x13 x14 (fun (v17 : Int) (v18 : Int) (v19 : List Tt49) (v20 : Bool) => if (x10.length + 1) * 8 ≤ 140737488355328 then t.spec_l2alt_s2 x9 (x10 ++ [v17]) x11 v18 v19 v20 κ else none)) else (bif (x10.length : Int) == 1 then (if (0 : Int) < (x10.length : Int) then κ (elI .i64 x10 0) x12 x13 x14 else none) else (t.spec_l2node 4 false (bs []) x10 x13 (fun (v21 : Int) (v22 : List Tt49) => κ v21 x12 v22 x14))))) else (bif (x10.length : Int) == 1 then (if (0 : Int) < (x10.length : Int) then κ (elI .i64 x10 0) x12 x13 x14 else none) else (t.spec_l2node 4 false (bs []) x10 x13 (fun (v23 : Int) (v24 : List Tt49) => κ v23 x12 v24 x14))))) else (bif (x10.length : Int) == 1 then (if (0 : Int) < (x10.length : Int) then κ (elI .i64 x10 0) x12 x13 x14 else none) else (t.spec_l2node 4 false (bs []) x10 x13 (fun (v25 : Int) (v26 : List Tt49) => κ v25 x12 v26 x14)))
end
end Go.Proofs.YtlakdfbfkbndiaaDoor.Ev.Pr
