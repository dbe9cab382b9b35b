/- What the row of FnExactReSub rests on, and the row: for every input that can be read the call returns true and the input reads as it did; condition: what the row lists of the library reads as the program lays it. -/
import Derived.Test.YtlakdfbfkbndiaaDoorKFnExactReSube
set_option linter.unusedVariables false
set_option linter.unusedSimpArgs false
namespace Go.Proofs.YtlakdfbfkbndiaaDoor.Q
open Go.RowKit Go.Proofs.YtlakdfbfkbndiaaDoor.Re Go.Proofs.YtlakdfbfkbndiaaDoorW.PrintWords Go.Proofs.YtlakdfbfkbndiaaDoorW.PrintLast Go.Proofs.YtlakdfbfkbndiaaDoorW.PrintMore
open Go.ChangeMaps (setBlock)
set_option maxRecDepth 100000 in
set_option maxHeartbeats 8000000 in
theorem ends_step {l : List S49} {s : ByteArray} {A0 : Option Addr} {c0 Bm Bf : Nat} {w0 : World} (hB : Base l s A0 c0 w0) (n : Nat) (hn : n < l.length) (ih : ∀ m, m < n → EndsAt l s A0 c0 Bm Bf w0 m) : EndsAt l s A0 c0 Bm Bf w0 n := by
  intro i hi w hM
  have HBase := Aside0.mk hB
  have HIH := Aside0.mk ih
  have HM := Aside0.mk hM
  clear hB ih hM
  have hl200 := HBase.out.ok.len
  have hs500 := HBase.out.sz
  go_enter Tryd.func61, Tryd.ntmps61
  go_wp2_with fail
  obtain ⟨w1, hw1⟩ : ∃ w1, w1 = w.alloc (.cells #[.int .i64 n, .int .i64 i] 72) := ⟨_, rfl⟩
  rw [← hw1]
  have HM1 : Aside0 (Mem l s A0 c0 Bm Bf w0 w1) := ⟨HM.out.move (by rw [hw1]; exact (Below.refl _ _).alloc (Nat.le_refl _) _)⟩
  have HG1 : Aside0 (w.grownBy w1 (some Bf)) := ⟨by rw [hw1]; exact World.grownBy_alloc w _ _⟩
  have HK1 : Aside0 (w1.heap[w.heap.size]? = some (.cells #[.int .i64 n, .int .i64 i] 72 (0, 0))) := ⟨by rw [hw1]; exact heap_alloc_new w _⟩
  have HZ1 : Aside0 (w1.heap.size = w.heap.size + 1) := ⟨by rw [hw1]; simp⟩
  have HF1 : Aside0 (∀ r, r < w.heap.size → Free Bf r w → Free Bf r w1) := ⟨fun r _ hf => hf.same (by rw [hw1]; exact Below.heap_alloc w _ _ (Array.getElem?_eq_some_iff.mp HM.out.map.choose_spec.choose_spec.1).1)⟩
  clear hw1
  have hk0 : w1.cell? ⟨w.heap.size, 0, none⟩ = some (.int .i64 n) := by simp [World.cell?, HK1.out]
  have hk1 : w1.cell? ⟨w.heap.size, 1, none⟩ = some (.int .i64 i) := by simp [World.cell?, HK1.out]
  obtain ⟨hc0, hc1, hc2⟩ := HM1.out.cell
  have hlook := HM1.out.map.look (by omega) (by omega) hn hi
  unfold pkey at hlook
  have HL := Aside0.mk hl200
  have HS := Aside0.mk hs500
  have HI := Aside0.mk hi
  have HN := Aside0.mk hn
  clear hl200 hs500 hi hn
  rcases hlook with hlook | ⟨b, ws, hlook, hb0, hbw, hbS, hbF⟩
  · obtain ⟨ad, A3, c3, e0, hx0, hx1, hx2, hx3, hl3, hi3⟩ := at_T49 HBase.out.rd (n : Int) (by omega) (by have := HN.out; omega)
    simp only [Int.toNat_natCast] at hx0 hx1 hx2 hx3
    have HX : Aside0 (∃ x, x = rd_T49 l n) := ⟨_, rfl⟩
    obtain ⟨x, hxe⟩ := HX.out
    rw [← hxe] at hx0 hx1 hx2 hx3 hl3 hi3
    have HXE : Aside0 (nodeAt l n = x) := ⟨hxe.symm⟩
    have HRK := Aside0.mk hi3
    have HCK := Aside0.mk hl3
    clear hxe HX hi3 hl3
    replace hx0 := (HM1.out.below.cell (World.block_lt_of_cell? w0 _ hx0)).trans hx0
    replace hx1 := (HM1.out.below.cell (World.block_lt_of_cell? w0 _ hx1)).trans hx1
    replace hx2 := (HM1.out.below.cell (World.block_lt_of_cell? w0 _ hx2)).trans hx2
    replace hx3 := (HM1.out.below.cell (World.block_lt_of_cell? w0 _ hx3)).trans hx3
    subst e0
    have p0 : ((0 : Int) ≤ (n : Int)) = True := eq_true (by omega)
    have p1 : ((n : Int) < (l.length : Int)) = True := eq_true (by have := HN.out; omega)
    go_quiet (fail)
    go_upto_block 0 with fail
    obtain ⟨w2, hw2⟩ : ∃ w2, w2 = ((w1.drewN nq).alloc (.cells #[.int .u64 0, .int .u64 0, .int .u64 0, .int .u64 0, .int .u64 0, .int .u64 0, .int .u64 0, .int .u64 0] 113)).alloc (.cells #[.int .i64 x.f0, .bool x.f1, .string x.f2, .slice A3 x.f3.length c3] 49) := ⟨_, rfl⟩
    rw [← hw2]
    have hBe : Below w1.heap.size w1 w2 := by rw [hw2]; exact below_alloc (below_alloc (pw_below_drewN (Below.refl _ _) _) _) _
    have HWk : Aside0 (Work l s (some ad) c0 Bm Bf w0 w n i (w1.heap.size + 1) x A3 c3 w2) := ⟨{
      mem := HM1.out.move hBe
      lo := HM.out.below.size
      grown := HG1.out.trans ⟨hBe.os, hBe.tape, hBe.output, hBe.size, fun k hk _ => hBe.block k hk⟩
      key := (hBe.block _ (Array.getElem?_eq_some_iff.mp HK1.out).1).trans HK1.out
      loc := by
        have e : ((w1.drewN nq).alloc (.cells #[.int .u64 0, .int .u64 0, .int .u64 0, .int .u64 0, .int .u64 0, .int .u64 0, .int .u64 0, .int .u64 0] 113)).heap.size = w1.heap.size + 1 := by simp
        rw [hw2, ← e]; exact heap_alloc_new _ _
      free := fun r hr hf => (HF1.out r hr hf).same (hBe.block _ (map_lt HM1.out)) }⟩
    have HOw : Aside0 (Own Bf w w1.heap.size (fun _ => False) (fun _ => 0) w2) := ⟨{
      lo := HG1.out.size
      obj := by rw [hw2, Below.heap_alloc _ _ _ (by simp)]; exact heap_alloc_new _ _
      free := (HM1.out.map.free (Nat.le_refl _)).same (hBe.block _ (map_lt HM1.out))
      set := IsSet.empty }⟩
    clear hBe hw2
    go_cut [10] (fun v10 wc => ∃ b ws, v10 = .pointer (some ⟨b, 0, none⟩) ∧ Aside0 (Work l s (some ad) c0 Bm Bf w0 w n i (w1.heap.size + 1) x A3 c3 wc) ∧ Aside0 (Own Bf w b (meets l s n i) ws wc))
    case first =>
      have hkd := HBase.out.ok.kd n HN.out
      rw [HXE.out] at hkd
      have hcl := HWk.out.loc
      have hn0 : w2.cell? ⟨w1.heap.size + 1, 0, none⟩ = some (.int .i64 x.f0) := by simp [World.cell?, hcl]
      have hn1 : w2.cell? ⟨w1.heap.size + 1, 1, none⟩ = some (.bool x.f1) := by simp [World.cell?, hcl]
      have hn2 : w2.cell? ⟨w1.heap.size + 1, 2, none⟩ = some (.string x.f2) := by simp [World.cell?, hcl]
      have hn3 : w2.cell? ⟨w1.heap.size + 1, 3, none⟩ = some (.slice A3 x.f3.length c3) := by simp [World.cell?, hcl]
      obtain ⟨hm0, hm1, hm2⟩ := HWk.out.mem.cell
      have HMeet := Aside0.mk (meets_eq HBase.out.ok s n HN.out)
      rw [HXE.out] at HMeet
      have HOk := Aside0.mk HBase.out.ok
      clear hk0 hk1 hc0 hc1 hc2 hx0 hx1 hx2 hx3 hlook hcl
      obtain ⟨f0, f1, f2, f3⟩ := x
      dsimp only at hkd hn0 hn1 hn2 hn3 HMeet HRK HCK
      have hcase : f0 = 0 ∨ f0 = 1 ∨ f0 = 2 ∨ f0 = 3 ∨ f0 = 4 ∨ f0 = 7 ∨ f0 = 5 ∨ f0 = 6 := by omega
      clear hkd
      rcases hcase with rfl | rfl | rfl | rfl | rfl | rfl | rfl | rfl
      · as_aux_lemma =>
        have HS2 : Aside0 (∀ j, meets l s n i j ↔ i < s.size ∧ inS ⟨0, f1, f2, f3⟩ (bt s i) = true ∧ j = i + 1) := ⟨fun j => by rw [HMeet.out, if_pos (by decide)]; simp [leafR]⟩
        by_cases h0 : i < s.size
        · have h0i : ((i : Int) < (s.size : Int)) = True := eq_true (by omega)
          have h0n : ((0 : Int) ≤ (i : Int)) = True := eq_true (by omega)
          have H0 := Aside0.mk h0
          have hbt := Aside0.mk (bt_nat h0)
          have he := HOk.out.even n HN.out (by rw [HXE.out])
          have ht := HOk.out.txt n HN.out
          rw [HXE.out] at he ht
          have hin := inSet_eq ⟨0, f1, f2, f3⟩ (bt s i) he ht
          generalize hq : inS ⟨0, f1, f2, f3⟩ (bt s i) = q at hin HS2
          have hcall := fun W hW => impl_inSet.calls _ 0 f1 f2 A3 c3 f3 (bt s i) q W hW HCK.out hin
          rw [hbt.out] at hcall
          have HCall := Aside0.mk hcall
          clear he ht hin hcall hq
          go_upto_region 25 with fail
          go_still_tail 15, (by kernel_rfl)
          change wpList _ _ _ _ _ w2.drew
          have hdr : Below w2.heap.size w2 w2.drew := (Below.refl _ _).drew
          replace HOw : Aside0 (Own Bf w w1.heap.size (fun _ => False) (fun _ => 0) w2.drew) := ⟨HOw.out.move HWk.out.mem hdr⟩
          replace HWk := Aside0.mk (HWk.out.move hdr)
          clear hdr
          have hcallW := HCall.out w2.drew (Kd.C_below HRK.out HWk.out.mem.below)
          clear HCall
          generalize w2.drew = w4 at *
          go_wp2_with fail
          refine hcallW.mono ?_
          rintro e w5 ⟨rfl, hbel⟩
          dsimp only
          clear hcallW
          replace HOw : Aside0 (Own Bf w w1.heap.size (fun _ => False) (fun _ => 0) w5) := ⟨HOw.out.move HWk.out.mem hbel⟩
          replace HWk := Aside0.mk (HWk.out.move hbel)
          clear hbel
          have hi5 : (i : Int) ≤ 500 := by have := HS.out; omega
          cases q with
          | true =>
            have hcall := add_succ_calls w1.heap.size i (by omega) _ _ HOw.out.set w5 HOw.out.obj
            go_wp2_with fail
            refine hcall.mono ?_
            rintro e w' ⟨r, rfl, _, ws, hS', hw', hg', -⟩
            have hF := HOw.out.free.same (hg'.block _ (map_lt HWk.out.mem) (fun e => map_ne HWk.out.mem HOw.out.obj (Option.some.inj e).symm))
            have HW' := Aside0.mk (HWk.out.set HOw.out hg')
            have HO' : Aside0 (Own Bf w w1.heap.size (meets l s n i) ws w') := ⟨⟨HOw.out.lo, hw', hF, hS'.congr fun j _ => by rw [HS2.out]; simp [h0]⟩⟩
            clear hS' hw' hg' hF
            go_wp2_with fail
            go_meet
            exact ⟨_, ws, rfl, HW', HO'⟩
          | false =>
            have HO' : Aside0 (Own Bf w w1.heap.size (meets l s n i) (fun _ => 0) w5) := ⟨⟨HOw.out.lo, HOw.out.obj, HOw.out.free, HOw.out.set.congr fun j _ => by rw [HS2.out]; simp⟩⟩
            go_wp2_with fail
            go_meet
            exact ⟨_, _, rfl, HWk, HO'⟩
        · have h0i : ((i : Int) < (s.size : Int)) = False := eq_false (by omega)
          have HO' : Aside0 (Own Bf w w1.heap.size (meets l s n i) (fun _ => 0) w2) := ⟨⟨HOw.out.lo, HOw.out.obj, HOw.out.free, HOw.out.set.congr fun j _ => by rw [HS2.out]; simp [h0]⟩⟩
          go_upto_region 25 with fail
          go_quiet (fail)
          have HO2 : Aside0 (Own Bf w w1.heap.size (meets l s n i) (fun _ => 0) (w2.drewN nq)) := ⟨HO'.out.move HWk.out.mem (pw_below_drewN (Below.refl _ _) _)⟩
          go_wp2_with fail
          go_meet
          exact ⟨_, _, rfl, ⟨HWk.out.move (pw_below_drewN (Below.refl _ _) _)⟩, HO2⟩
      · as_aux_lemma =>
        have HS2 : Aside0 (∀ j, meets l s n i j ↔ i = 0 ∧ j = 0) := ⟨fun j => by rw [HMeet.out, if_pos (by decide)]; simp [leafR]⟩
        by_cases h0 : i = 0
        · subst h0
          have hcall := add_zero_calls w1.heap.size _ _ HOw.out.set w2 HOw.out.obj
          go_wp2_with fail
          refine hcall.mono ?_
          rintro e w' ⟨r, rfl, _, ws, hS', hw', hg', -⟩
          have hF := HOw.out.free.same (hg'.block _ (map_lt HWk.out.mem) (fun e => map_ne HWk.out.mem HOw.out.obj (Option.some.inj e).symm))
          have HW' := Aside0.mk (HWk.out.set HOw.out hg')
          have HO' : Aside0 (Own Bf w w1.heap.size (meets l s n 0) ws w') := ⟨⟨HOw.out.lo, hw', hF, hS'.congr fun j _ => by rw [HS2.out]; simp⟩⟩
          clear hS' hw' hg' hF
          go_wp2_with fail
          go_meet
          exact ⟨_, ws, rfl, HW', HO'⟩
        · have h0i : ((i : Int) == 0) = false := beq_eq_false_iff_ne.mpr (by omega)
          have HO' : Aside0 (Own Bf w w1.heap.size (meets l s n i) (fun _ => 0) w2) := ⟨⟨HOw.out.lo, HOw.out.obj, HOw.out.free, HOw.out.set.congr fun j _ => by rw [HS2.out]; simp [h0]⟩⟩
          go_wp2_with fail
          go_meet
          exact ⟨_, _, rfl, HWk, HO'⟩
      · as_aux_lemma =>
        have HS2 : Aside0 (∀ j, meets l s n i j ↔ i = s.size ∧ j = i) := ⟨fun j => by rw [HMeet.out, if_pos (by decide)]; simp [leafR]⟩
        by_cases h0 : i = s.size
        · have h0i : ((i : Int) == (s.size : Int)) = true := beq_iff_eq.mpr (by omega)
          have H0 := Aside0.mk h0
          clear h0
          have hcall := add_calls w1.heap.size i (by have := HI.out; have := HS.out; omega) _ _ HOw.out.set w2 HOw.out.obj
          go_wp2_with fail
          refine hcall.mono ?_
          rintro e w' ⟨r, rfl, _, ws, hS', hw', hg', -⟩
          have hF := HOw.out.free.same (hg'.block _ (map_lt HWk.out.mem) (fun e => map_ne HWk.out.mem HOw.out.obj (Option.some.inj e).symm))
          have HW' := Aside0.mk (HWk.out.set HOw.out hg')
          have HO' : Aside0 (Own Bf w w1.heap.size (meets l s n i) ws w') := ⟨⟨HOw.out.lo, hw', hF, hS'.congr fun j _ => by rw [HS2.out]; simp [H0.out]⟩⟩
          clear hS' hw' hg' hF
          go_wp2_with fail
          go_meet
          exact ⟨_, ws, rfl, HW', HO'⟩
        · have h0i : ((i : Int) == (s.size : Int)) = false := beq_eq_false_iff_ne.mpr (by omega)
          have HO' : Aside0 (Own Bf w w1.heap.size (meets l s n i) (fun _ => 0) w2) := ⟨⟨HOw.out.lo, HOw.out.obj, HOw.out.free, HOw.out.set.congr fun j _ => by rw [HS2.out]; simp [h0]⟩⟩
          go_wp2_with fail
          go_meet
          exact ⟨_, _, rfl, HWk, HO'⟩
      · as_aux_lemma =>
        have HKid := Aside0.mk (HOk.out.kid n HN.out)
        rw [HXE.out] at HKid
        have HS2 : Aside0 (∀ j, meets l s n i j ↔ seqR (f3.map fun k => meets l s k.toNat) i j) := ⟨fun j => by
          have e : kidsR l s n = f3.map fun k => meets l s k.toNat := by unfold kidsR; rw [HXE.out]
          rw [HMeet.out, if_neg (by decide), if_pos rfl, e]⟩
        have HFw : Aside0 (∀ j y, seqR ((f3.take j).map fun k => meets l s k.toNat) i y → y ≤ s.size) := ⟨fun j y hy => (fwd_seq s.size _ (fun R hR => by
          obtain ⟨k, hk, rfl⟩ := List.mem_map.mp hR
          have hk := HKid.out k (List.mem_of_mem_take hk)
          exact meets_fwd HOk.out s k.toNat (by have := HN.out; omega)) i y HI.out hy).2⟩
        have HL3 : Aside0 (f3.length ≤ 9223372036854775807) := ⟨HRK.out.2.1⟩
        have HT0 := Aside0.mk HBase.out.tabs
        have hcall := add_calls w1.heap.size i (by have := HI.out; have := HS.out; omega) _ _ HOw.out.set w2 HOw.out.obj
        go_wp2_with fail
        refine hcall.mono ?_
        rintro e w' ⟨r, rfl, _, ws, hS', hw', hg', -⟩
        have hF := HOw.out.free.same (hg'.block _ (map_lt HWk.out.mem) (fun e => map_ne HWk.out.mem HOw.out.obj (Option.some.inj e).symm))
        have HW' := Aside0.mk (HWk.out.set HOw.out hg')
        have HO' : Aside0 (Own Bf w w1.heap.size (seqR ((f3.take 0).map fun k => meets l s k.toNat) i) ws w') := ⟨⟨HOw.out.lo, hw', hF, hS'.congr fun j _ => by simp [seqR, eq_comm]⟩⟩
        have hcl := HW'.out.loc
        have hn3' : w'.cell? ⟨w1.heap.size + 1, 3, none⟩ = some (.slice A3 f3.length c3) := by simp [World.cell?, hcl]
        clear hS' hw' hg' hF hcall hcl hn0 hn1 hn2 hn3 hm0 hm1 hm2
        go_wp2_with fail
        go_loopg [10, 154] f3.length (fun gg v10 v154 wr => ∃ (j b : Nat) (ws : Nat → Nat), v10 = .pointer (some ⟨b, 0, none⟩) ∧ v154 = .int .i64 j ∧ j ≤ f3.length ∧ f3.length - j ≤ gg ∧ Aside0 (Work l s (some ad) c0 Bm Bf w0 w n i (w1.heap.size + 1) ⟨3, f1, f2, f3⟩ A3 c3 wr) ∧ Aside0 (Own Bf w b (seqR ((f3.take j).map fun k => meets l s k.toNat) i) ws wr))
        case atStart => exact ⟨0, _, _, rfl, rfl, by omega, by omega, HW', HO'⟩
        case round =>
          clear HWk HOw HW' HO' hn3'
          obtain ⟨j, b, ws, rfl, rfl, hj, hg, HWk, HOw⟩ := hrel
          by_cases hlt : j < f3.length
          · have HLt := Aside0.mk hlt
            have hlt0 : (j : Int) < (f3.length : Int) := by omega
            obtain ⟨ad3, c, e0, _, hK, hcell⟩ := Kd.C_get (Kd.C_below HRK.out HWk.out.mem.below) (0 : Int) j (by omega) (by omega)
            subst e0
            have hK : c = [.int .i64 (f3.getD ((j : Int)).toNat 0)] := hK
            subst hK
            have hce := hcell 0 _ rfl
            replace hce : wr.cell? (ad3.add j) = some (.int .i64 (f3.getD j 0)) := by simpa [Kd.int, Kd.scalar] using hce
            clear hcell
            have HMem3 : Aside0 (f3.getD j 0 ∈ f3 ∧ f3.take (j + 1) = f3.take j ++ [f3.getD j 0]) := ⟨by
              rw [List.getD_eq_getElem?_getD, List.getElem?_eq_getElem hlt]
              exact ⟨List.getElem_mem hlt, by rw [List.take_add_one, List.getElem?_eq_getElem hlt]; rfl⟩⟩
            generalize f3.getD j 0 = z at *
            have hz := HKid.out z HMem3.out.1
            obtain ⟨m, rfl⟩ : ∃ m : Nat, z = (m : Int) := ⟨z.toNat, by omega⟩
            have HMn : Aside0 (m < n) := ⟨by omega⟩
            clear hz
            go_upto_region 39 with fail
            obtain ⟨w3, hw3⟩ : ∃ w3, w3 = wr.alloc (.cells #[.int .u64 0, .int .u64 0, .int .u64 0, .int .u64 0, .int .u64 0, .int .u64 0, .int .u64 0, .int .u64 0] 113) := ⟨_, rfl⟩
            rw [← hw3]
            have hBe : Below wr.heap.size wr w3 := by rw [hw3]; exact below_alloc (Below.refl _ _) _
            have HWk3 := Aside0.mk (HWk.out.move hBe)
            have HOw3 := Aside0.mk (HOw.out.move HWk.out.mem hBe)
            have HNx : Aside0 (Own Bf w wr.heap.size (fun _ => False) (fun _ => 0) w3) := ⟨{
              lo := HWk.out.grown.size
              obj := by rw [hw3]; exact heap_alloc_new _ _
              free := (HWk.out.mem.map.free (Nat.le_refl _)).same (hBe.block _ (map_lt HWk.out.mem))
              set := IsSet.empty }⟩
            have HNN : Aside0 (b ≠ wr.heap.size) := ⟨fun e => by have := (Array.getElem?_eq_some_iff.mp HOw.out.obj).1; omega⟩
            clear hBe hw3 hce HWk HOw
            have hlist := list_calls b ws _ HOw3.out.set w3 HOw3.out.obj (HT0.out.below HWk3.out.mem.below)
            go_wp2_with fail
            refine hlist.mono ?_
            rintro e w4 ⟨v4, rfl, hR4, hB4⟩
            dsimp only
            obtain ⟨L, hL⟩ : ∃ L, L = upto (seqR ((f3.take j).map fun k => meets l s k.toNat) i) 512 := ⟨_, rfl⟩
            rw [← hL] at hR4
            have HLm : Aside0 (∀ y, y ∈ L ↔ y < 512 ∧ seqR ((f3.take j).map fun k => meets l s k.toNat) i y) := ⟨fun y => by rw [hL]; exact mem_upto⟩
            have HLl : Aside0 (L.length ≤ 512) := ⟨by rw [hL]; exact upto_len _ _⟩
            obtain ⟨A4, c4, rfl, hl4, hC4⟩ := Kd.R_reads hR4
            rw [nats_len] at hR4 hl4 ⊢
            have HR4 := Aside0.mk hR4
            have HWk4 := Aside0.mk (HWk3.out.move hB4)
            have HNx4 := Aside0.mk (HNx.out.move HWk3.out.mem hB4)
            obtain ⟨nx, hnx⟩ : ∃ nx, nx = wr.heap.size := ⟨_, rfl⟩
            rw [← hnx] at HNx4 HNN ⊢
            obtain ⟨bs, hbs⟩ : ∃ bs, bs = w3.heap.size := ⟨_, rfl⟩
            rw [← hbs] at HR4
            clear hlist hL hR4 hB4 hl4 hC4 HWk3 HOw3 HNx hnx hbs
            go_wp2_with fail
            go_loopg [163] L.length (fun g2 v163 wr2 => ∃ (p : Nat) (vs : Nat → Nat), v163 = .int .i64 p ∧ p ≤ L.length ∧ L.length - p ≤ g2 ∧ Aside0 (Work l s (some ad) c0 Bm Bf w0 w n i (w1.heap.size + 1) ⟨3, f1, f2, f3⟩ (some ad3) c3 wr2) ∧ Aside0 (Own Bf w nx (fun y => ∃ x, x ∈ L.take p ∧ meets l s m x y) vs wr2) ∧ Aside0 (Kd.R (Kd.int .i64) 3 wr2 bs (fun _ => True) (.slice A4 L.length c4) (nats L)))
            case atStart => exact ⟨0, _, rfl, by omega, by omega, HWk4, ⟨⟨HNx4.out.lo, HNx4.out.obj, HNx4.out.free, HNx4.out.set.congr fun y _ => by simp⟩⟩, HR4⟩
            case round =>
              clear HWk4 HNx4 HR4
              obtain ⟨p, vs, rfl, hp, hg2, HWk, HNx, HR4⟩ := hrel
              by_cases hpl : p < L.length
              · have hpl0 : (p : Int) < (L.length : Int) := by omega
                have HPl := Aside0.mk hpl
                obtain ⟨ad4, e4, hcp⟩ := row_get HR4.out p (by rw [nats_len]; exact hpl)
                subst e4
                rw [nats_get L p hpl] at hcp
                obtain ⟨htk, hmem⟩ := take_next L p hpl
                generalize L.getD p 0 = x at hcp htk hmem
                have HTk := Aside0.mk htk
                have HXs : Aside0 (x ≤ s.size) := ⟨HFw.out j x ((HLm.out x).mp hmem).2⟩
                have hcall := HIH.out m HMn.out x HXs.out wr HWk.out.mem
                clear htk hmem
                go_wp2_with fail
                refine hcall.mono ?_
                rintro e w5 ⟨b2, ws2, rfl, hb0, hbw, hbS, hM3, hG3, hnF, hFr⟩
                dsimp only
                have HNx5 := Aside0.mk (HNx.out.call HWk.out.mem hG3 hFr)
                have HR5 := Aside0.mk (row_call HR4.out HWk.out.mem hG3)
                have HWk5 := Aside0.mk (HWk.out.call hM3 hG3 hFr)
                have HB2 : Aside0 (w5.heap[b2]? = some (wobj ws2)) := ⟨hbw⟩
                have HS3 : Aside0 (IsSet ws2 (meets l s m x)) := ⟨hbS⟩
                have HNe : Aside0 (b2 ≠ nx) := ⟨fun e => hnF (e ▸ HNx5.out.free)⟩
                clear hcall hb0 hbw hbS hM3 hG3 hnF hFr HNx HWk HR4 hcp
                go_wp2_with fail
                go_loopg [171] 8 (fun g3 v171 wr3 => ∃ (q : Nat), v171 = .int .i64 q ∧ q ≤ 8 ∧ 8 - q ≤ g3 ∧ Aside0 (Work l s (some ad) c0 Bm Bf w0 w n i (w1.heap.size + 1) ⟨3, f1, f2, f3⟩ (some ad3) c3 wr3) ∧ Aside0 (wr3.heap[b2]? = some (wobj ws2)) ∧ Aside0 (wr3.heap[nx]? = some (wobj (part vs ws2 q)) ∧ Free Bf nx wr3) ∧ Aside0 (Kd.R (Kd.int .i64) 3 wr3 bs (fun _ => True) (.slice (some ad4) L.length c4) (nats L)))
                case atStart => exact ⟨0, rfl, by omega, by omega, HWk5, HB2, ⟨by rw [part_zero]; exact HNx5.out.obj, HNx5.out.free⟩, HR5⟩
                case round =>
                  clear HWk5 HB2 HR5
                  obtain ⟨q, rfl, hq, hg3, HWk4, HB4, HO4, HR4⟩ := hrel
                  by_cases hq8 : q < 8
                  · have hq0 : (q : Int) < 8 := by omega
                    have hq1 : (0 : Int) ≤ (q : Int) := by omega
                    have hcb := wobj_cell HB4.out q hq8
                    have hco := wobj_cell HO4.out.1 q hq8
                    have hfo := wobj_frozen HO4.out.1 q
                    have hpq : part vs ws2 q q = vs q := if_neg (by omega)
                    rw [hpq] at hco
                    have hor := part_lt HNx5.out.set HS3.out q hq8
                    clear hpq
                    go_wp2_with fail
                    go_quiet (fail)
                    go_wp2_with fail
                    go_region
                    go_wp2_with fail
                    have HJ := HWk4.out.join HNx5.out.lo HNe.out hq8 HB4.out HO4.out (nq + 1)
                    have HR6 := Aside0.mk (row_put (q := q) (u := .int .u64 ((vs q ||| ws2 q : Nat) : Int)) (Kd.R_drewN HR4.out (nq + 1)) HO4.out.1)
                    go_roundg (8 - (q + 1))
                    case measure => omega
                    case rel => exact ⟨q + 1, by go_num, by omega, by omega, ⟨HJ.1⟩, ⟨HJ.2.1⟩, ⟨HJ.2.2⟩, HR6⟩
                  · obtain rfl : q = 8 := by omega
                    have hq0 : ¬ ((8 : Nat) : Int) < 8 := by omega
                    have HTx : Aside0 (∀ y, (∃ x', x' ∈ L.take (p + 1) ∧ meets l s m x' y) ↔ (∃ x', x' ∈ L.take p ∧ meets l s m x' y) ∨ meets l s m x y) := ⟨fun y => by
                      rw [HTk.out]
                      constructor
                      · rintro ⟨k, hk, hm⟩
                        rcases List.mem_append.mp hk with h | h
                        · exact .inl ⟨k, h, hm⟩
                        · have h : k = x := by simpa using h
                          subst h
                          exact .inr hm
                      · rintro (⟨k, hk, hm⟩ | hm)
                        · exact ⟨k, List.mem_append_left _ hk, hm⟩
                        · exact ⟨x, List.mem_append_right _ (by simp), hm⟩⟩
                    have HO5 : Aside0 (Own Bf w nx (fun y => ∃ x', x' ∈ L.take (p + 1) ∧ meets l s m x' y) (part vs ws2 8) wr) := ⟨⟨HNx5.out.lo, HO4.out.1, HO4.out.2, (part_set HNx5.out.set HS3.out).congr fun y _ => (HTx.out y).symm⟩⟩
                    have hpi : (p : Int) + 1 ≤ 513 := by have := HPl.out; have := HLl.out; omega
                    go_wp2_with fail
                    go_roundg (L.length - (p + 1))
                    case measure => have := HPl.out; omega
                    case rel => exact ⟨p + 1, _, by go_num, HPl.out, Nat.le_refl _, HWk4, HO5, HR4⟩
              · obtain rfl : p = L.length := by omega
                have hpl0 : ¬ (L.length : Int) < (L.length : Int) := by omega
                have HO5 : Aside0 (Own Bf w nx (seqR ((f3.take (j + 1)).map fun k => meets l s k.toNat) i) vs wr) := ⟨⟨HNx.out.lo, HNx.out.obj, HNx.out.free, HNx.out.set.congr fun y _ => by
                  rw [List.take_length, HMem3.out.2, List.map_append, List.map_cons, List.map_nil, seqR_snoc]
                  constructor
                  · rintro ⟨x', hx', hm⟩
                    exact ⟨x', ((HLm.out x').mp hx').2, by simpa using hm⟩
                  · rintro ⟨x', hx', hm⟩
                    exact ⟨x', (HLm.out x').mpr ⟨by have := HFw.out j x' hx'; have := HS.out; omega, hx'⟩, by simpa using hm⟩⟩⟩
                go_wp2_with fail
                go_roundg (f3.length - (j + 1))
                case measure => have := HLt.out; omega
                case rel => exact ⟨j + 1, nx, _, rfl, congrArg (Value.int .i64) (by have h1 := HLt.out; have h2 := HL3.out; unfold wrap64; omega), HLt.out, Nat.le_refl _, HWk, HO5⟩
          · obtain rfl : j = f3.length := by omega
            have hlt0 : ¬ (f3.length : Int) < (f3.length : Int) := by omega
            have HO6 : Aside0 (Own Bf w b (meets l s n i) ws wr) := ⟨⟨HOw.out.lo, HOw.out.obj, HOw.out.free, HOw.out.set.congr fun y _ => by rw [List.take_length]; exact (HS2.out y).symm⟩⟩
            go_wp2_with fail
            go_meet
            exact ⟨b, ws, rfl, HWk, HO6⟩
      · as_aux_lemma =>
        have HS2 : Aside0 (∀ j, meets l s n i j ↔ ∃ k, k ∈ f3 ∧ meets l s k.toNat i j) := ⟨fun j => by rw [HMeet.out, if_neg (by decide), if_neg (by decide), if_pos rfl]⟩
        have HKid := Aside0.mk (HOk.out.kid n HN.out)
        rw [HXE.out] at HKid
        have HL3 : Aside0 (f3.length ≤ 9223372036854775807) := ⟨HRK.out.2.1⟩
        go_wp2_with fail
        go_loopg [196] f3.length (fun gg v196 wr => ∃ (j : Nat) (ws : Nat → Nat), v196 = .int .i64 j ∧ j ≤ f3.length ∧ f3.length - j ≤ gg ∧ Aside0 (Work l s (some ad) c0 Bm Bf w0 w n i (w1.heap.size + 1) ⟨4, f1, f2, f3⟩ A3 c3 wr) ∧ Aside0 (Own Bf w w1.heap.size (fun y => ∃ k, k ∈ f3.take j ∧ meets l s k.toNat i y) ws wr))
        case atStart => exact ⟨0, _, rfl, by omega, by omega, HWk, ⟨⟨HOw.out.lo, HOw.out.obj, HOw.out.free, HOw.out.set.congr fun j _ => by simp⟩⟩⟩
        case round =>
          clear HWk HOw hn0 hn1 hn2 hn3 hm0 hm1 hm2
          obtain ⟨j, ws, rfl, hj, hg, HWk, HOw⟩ := hrel
          by_cases hlt : j < f3.length
          · have HLt := Aside0.mk hlt
            have hlt0 : (j : Int) < (f3.length : Int) := by omega
            obtain ⟨ad3, c, e0, _, hK, hcell⟩ := Kd.C_get (Kd.C_below HRK.out HWk.out.mem.below) (0 : Int) j (by omega) (by omega)
            subst e0
            have hK : c = [.int .i64 (f3.getD ((j : Int)).toNat 0)] := hK
            subst hK
            have hce := hcell 0 _ rfl
            replace hce : wr.cell? (ad3.add j) = some (.int .i64 (f3.getD j 0)) := by simpa [Kd.int, Kd.scalar] using hce
            clear hcell
            have HMem3 : Aside0 (f3.getD j 0 ∈ f3 ∧ f3.take (j + 1) = f3.take j ++ [f3.getD j 0]) := ⟨by
              rw [List.getD_eq_getElem?_getD, List.getElem?_eq_getElem hlt]
              exact ⟨List.getElem_mem hlt, by rw [List.take_add_one, List.getElem?_eq_getElem hlt]; rfl⟩⟩
            generalize f3.getD j 0 = z at *
            have hz := HKid.out z HMem3.out.1
            obtain ⟨m, rfl⟩ : ∃ m : Nat, z = (m : Int) := ⟨z.toNat, by omega⟩
            have hcall := HIH.out m (by omega) i HI.out wr HWk.out.mem
            clear hz
            go_wp2_with fail
            refine hcall.mono ?_
            rintro e w3 ⟨b2, ws2, rfl, hb0, hbw, hbS, hM3, hG3, hnF, hFr⟩
            dsimp only
            have HOw3 := Aside0.mk (HOw.out.call HWk.out.mem hG3 hFr)
            have HWk3 := Aside0.mk (HWk.out.call hM3 hG3 hFr)
            have HB2 : Aside0 (w3.heap[b2]? = some (wobj ws2)) := ⟨hbw⟩
            have HS3 : Aside0 (IsSet ws2 (meets l s m i)) := ⟨hbS⟩
            have HNe : Aside0 (b2 ≠ w1.heap.size) := ⟨fun e => hnF (e ▸ HOw3.out.free)⟩
            clear hcall hb0 hbw hbS hM3 hG3 hnF hFr HOw HWk hce
            go_wp2_with fail
            go_loopg [204] 8 (fun g2 v204 wr2 => ∃ (q : Nat), v204 = .int .i64 q ∧ q ≤ 8 ∧ 8 - q ≤ g2 ∧ Aside0 (Work l s (some ad) c0 Bm Bf w0 w n i (w1.heap.size + 1) ⟨4, f1, f2, f3⟩ (some ad3) c3 wr2) ∧ Aside0 (wr2.heap[b2]? = some (wobj ws2)) ∧ Aside0 (wr2.heap[w1.heap.size]? = some (wobj (part ws ws2 q)) ∧ Free Bf w1.heap.size wr2))
            case atStart => exact ⟨0, rfl, by omega, by omega, HWk3, HB2, ⟨by rw [part_zero]; exact HOw3.out.obj, HOw3.out.free⟩⟩
            case round =>
              clear HWk3 HB2
              obtain ⟨q, rfl, hq, hg2, HWk4, HB4, HO4⟩ := hrel
              by_cases hq8 : q < 8
              · have hq0 : (q : Int) < 8 := by omega
                have hq1 : (0 : Int) ≤ (q : Int) := by omega
                have hcb := wobj_cell HB4.out q hq8
                have hco := wobj_cell HO4.out.1 q hq8
                have hfo := wobj_frozen HO4.out.1 q
                have hpq : part ws ws2 q q = ws q := if_neg (by omega)
                rw [hpq] at hco
                have hor := part_lt HOw3.out.set HS3.out q hq8
                clear hpq
                go_wp2_with fail
                go_quiet (fail)
                go_wp2_with fail
                go_region
                go_wp2_with fail
                have HJ := HWk4.out.join HOw3.out.lo HNe.out hq8 HB4.out HO4.out (nq + 1)
                go_roundg (8 - (q + 1))
                case measure => omega
                case rel => exact ⟨q + 1, by go_num, by omega, by omega, ⟨HJ.1⟩, ⟨HJ.2.1⟩, ⟨HJ.2.2⟩⟩
              · obtain rfl : q = 8 := by omega
                have hq0 : ¬ ((8 : Nat) : Int) < 8 := by omega
                have HTk : Aside0 (∀ y, (∃ k, k ∈ f3.take (j + 1) ∧ meets l s k.toNat i y) ↔ (∃ k, k ∈ f3.take j ∧ meets l s k.toNat i y) ∨ meets l s m i y) := ⟨fun y => by
                  rw [HMem3.out.2]
                  constructor
                  · rintro ⟨k, hk, hm⟩
                    rcases List.mem_append.mp hk with h | h
                    · exact .inl ⟨k, h, hm⟩
                    · have h : k = (m : Int) := by simpa using h
                      subst h
                      exact .inr (by simpa using hm)
                  · rintro (⟨k, hk, hm⟩ | hm)
                    · exact ⟨k, List.mem_append_left _ hk, hm⟩
                    · exact ⟨m, List.mem_append_right _ (by simp), by simpa using hm⟩⟩
                have HO5 : Aside0 (Own Bf w w1.heap.size (fun y => ∃ k, k ∈ f3.take (j + 1) ∧ meets l s k.toNat i y) (part ws ws2 8) wr) := ⟨⟨HOw3.out.lo, HO4.out.1, HO4.out.2, (part_set HOw3.out.set HS3.out).congr fun y _ => (HTk.out y).symm⟩⟩
                go_wp2_with fail
                go_roundg (f3.length - (j + 1))
                case measure => have := HLt.out; omega
                case rel => exact ⟨j + 1, _, congrArg (Value.int .i64) (by have h1 := HLt.out; have h2 := HL3.out; unfold wrap64; omega), HLt.out, Nat.le_refl _, HWk4, HO5⟩
          · obtain rfl : j = f3.length := by omega
            have hlt0 : ¬ (f3.length : Int) < (f3.length : Int) := by omega
            have hcl := HWk.out.loc
            have hn0 : wr.cell? ⟨w1.heap.size + 1, 0, none⟩ = some (.int .i64 4) := by simp [World.cell?, hcl]
            have HO5 : Aside0 (Own Bf w w1.heap.size (fun y => ∃ k, k ∈ f3 ∧ meets l s k.toNat i y) ws wr) := ⟨⟨HOw.out.lo, HOw.out.obj, HOw.out.free, HOw.out.set.congr fun y _ => by rw [List.take_length]⟩⟩
            clear hcl
            have HO6 : Aside0 (Own Bf w w1.heap.size (meets l s n i) ws wr) := ⟨⟨HO5.out.lo, HO5.out.obj, HO5.out.free, HO5.out.set.congr fun y _ => (HS2.out y).symm⟩⟩
            go_wp2_with fail
            go_meet
            exact ⟨_, ws, rfl, HWk, HO6⟩
      · as_aux_lemma =>
        have HOne := HOk.out.one n HN.out (by rw [HXE.out]; show (5 : Int) ≤ 7; decide)
        rw [HXE.out] at HOne
        have HS2 : Aside0 (∀ j, meets l s n i j ↔ (∃ k, k ∈ f3 ∧ meets l s k.toNat i j) ∨ j = i) := ⟨fun j => by
          obtain ⟨k1, hk1⟩ := HOne
          have hk1 : f3 = [k1] := hk1
          rw [HMeet.out, if_neg (by decide), if_neg (by decide), if_neg (by decide), if_neg (by decide), if_neg (by decide), hk1]
          simp only [List.headD_cons, List.mem_singleton, exists_eq_left]
          constructor
          · rintro (e | h)
            · exact .inr e.symm
            · exact .inl h
          · rintro (h | e)
            · exact .inr h
            · exact .inl e.symm⟩
        clear HOne
        have HKid := Aside0.mk (HOk.out.kid n HN.out)
        rw [HXE.out] at HKid
        have HL3 : Aside0 (f3.length ≤ 9223372036854775807) := ⟨HRK.out.2.1⟩
        go_wp2_with fail
        go_loopg [196] f3.length (fun gg v196 wr => ∃ (j : Nat) (ws : Nat → Nat), v196 = .int .i64 j ∧ j ≤ f3.length ∧ f3.length - j ≤ gg ∧ Aside0 (Work l s (some ad) c0 Bm Bf w0 w n i (w1.heap.size + 1) ⟨7, f1, f2, f3⟩ A3 c3 wr) ∧ Aside0 (Own Bf w w1.heap.size (fun y => ∃ k, k ∈ f3.take j ∧ meets l s k.toNat i y) ws wr))
        case atStart => exact ⟨0, _, rfl, by omega, by omega, HWk, ⟨⟨HOw.out.lo, HOw.out.obj, HOw.out.free, HOw.out.set.congr fun j _ => by simp⟩⟩⟩
        case round =>
          clear HWk HOw hn0 hn1 hn2 hn3 hm0 hm1 hm2
          obtain ⟨j, ws, rfl, hj, hg, HWk, HOw⟩ := hrel
          by_cases hlt : j < f3.length
          · have HLt := Aside0.mk hlt
            have hlt0 : (j : Int) < (f3.length : Int) := by omega
            obtain ⟨ad3, c, e0, _, hK, hcell⟩ := Kd.C_get (Kd.C_below HRK.out HWk.out.mem.below) (0 : Int) j (by omega) (by omega)
            subst e0
            have hK : c = [.int .i64 (f3.getD ((j : Int)).toNat 0)] := hK
            subst hK
            have hce := hcell 0 _ rfl
            replace hce : wr.cell? (ad3.add j) = some (.int .i64 (f3.getD j 0)) := by simpa [Kd.int, Kd.scalar] using hce
            clear hcell
            have HMem3 : Aside0 (f3.getD j 0 ∈ f3 ∧ f3.take (j + 1) = f3.take j ++ [f3.getD j 0]) := ⟨by
              rw [List.getD_eq_getElem?_getD, List.getElem?_eq_getElem hlt]
              exact ⟨List.getElem_mem hlt, by rw [List.take_add_one, List.getElem?_eq_getElem hlt]; rfl⟩⟩
            generalize f3.getD j 0 = z at *
            have hz := HKid.out z HMem3.out.1
            obtain ⟨m, rfl⟩ : ∃ m : Nat, z = (m : Int) := ⟨z.toNat, by omega⟩
            have hcall := HIH.out m (by omega) i HI.out wr HWk.out.mem
            clear hz
            go_wp2_with fail
            refine hcall.mono ?_
            rintro e w3 ⟨b2, ws2, rfl, hb0, hbw, hbS, hM3, hG3, hnF, hFr⟩
            dsimp only
            have HOw3 := Aside0.mk (HOw.out.call HWk.out.mem hG3 hFr)
            have HWk3 := Aside0.mk (HWk.out.call hM3 hG3 hFr)
            have HB2 : Aside0 (w3.heap[b2]? = some (wobj ws2)) := ⟨hbw⟩
            have HS3 : Aside0 (IsSet ws2 (meets l s m i)) := ⟨hbS⟩
            have HNe : Aside0 (b2 ≠ w1.heap.size) := ⟨fun e => hnF (e ▸ HOw3.out.free)⟩
            clear hcall hb0 hbw hbS hM3 hG3 hnF hFr HOw HWk hce
            go_wp2_with fail
            go_loopg [204] 8 (fun g2 v204 wr2 => ∃ (q : Nat), v204 = .int .i64 q ∧ q ≤ 8 ∧ 8 - q ≤ g2 ∧ Aside0 (Work l s (some ad) c0 Bm Bf w0 w n i (w1.heap.size + 1) ⟨7, f1, f2, f3⟩ (some ad3) c3 wr2) ∧ Aside0 (wr2.heap[b2]? = some (wobj ws2)) ∧ Aside0 (wr2.heap[w1.heap.size]? = some (wobj (part ws ws2 q)) ∧ Free Bf w1.heap.size wr2))
            case atStart => exact ⟨0, rfl, by omega, by omega, HWk3, HB2, ⟨by rw [part_zero]; exact HOw3.out.obj, HOw3.out.free⟩⟩
            case round =>
              clear HWk3 HB2
              obtain ⟨q, rfl, hq, hg2, HWk4, HB4, HO4⟩ := hrel
              by_cases hq8 : q < 8
              · have hq0 : (q : Int) < 8 := by omega
                have hq1 : (0 : Int) ≤ (q : Int) := by omega
                have hcb := wobj_cell HB4.out q hq8
                have hco := wobj_cell HO4.out.1 q hq8
                have hfo := wobj_frozen HO4.out.1 q
                have hpq : part ws ws2 q q = ws q := if_neg (by omega)
                rw [hpq] at hco
                have hor := part_lt HOw3.out.set HS3.out q hq8
                clear hpq
                go_wp2_with fail
                go_quiet (fail)
                go_wp2_with fail
                go_region
                go_wp2_with fail
                have HJ := HWk4.out.join HOw3.out.lo HNe.out hq8 HB4.out HO4.out (nq + 1)
                go_roundg (8 - (q + 1))
                case measure => omega
                case rel => exact ⟨q + 1, by go_num, by omega, by omega, ⟨HJ.1⟩, ⟨HJ.2.1⟩, ⟨HJ.2.2⟩⟩
              · obtain rfl : q = 8 := by omega
                have hq0 : ¬ ((8 : Nat) : Int) < 8 := by omega
                have HTk : Aside0 (∀ y, (∃ k, k ∈ f3.take (j + 1) ∧ meets l s k.toNat i y) ↔ (∃ k, k ∈ f3.take j ∧ meets l s k.toNat i y) ∨ meets l s m i y) := ⟨fun y => by
                  rw [HMem3.out.2]
                  constructor
                  · rintro ⟨k, hk, hm⟩
                    rcases List.mem_append.mp hk with h | h
                    · exact .inl ⟨k, h, hm⟩
                    · have h : k = (m : Int) := by simpa using h
                      subst h
                      exact .inr (by simpa using hm)
                  · rintro (⟨k, hk, hm⟩ | hm)
                    · exact ⟨k, List.mem_append_left _ hk, hm⟩
                    · exact ⟨m, List.mem_append_right _ (by simp), by simpa using hm⟩⟩
                have HO5 : Aside0 (Own Bf w w1.heap.size (fun y => ∃ k, k ∈ f3.take (j + 1) ∧ meets l s k.toNat i y) (part ws ws2 8) wr) := ⟨⟨HOw3.out.lo, HO4.out.1, HO4.out.2, (part_set HOw3.out.set HS3.out).congr fun y _ => (HTk.out y).symm⟩⟩
                go_wp2_with fail
                go_roundg (f3.length - (j + 1))
                case measure => have := HLt.out; omega
                case rel => exact ⟨j + 1, _, congrArg (Value.int .i64) (by have h1 := HLt.out; have h2 := HL3.out; unfold wrap64; omega), HLt.out, Nat.le_refl _, HWk4, HO5⟩
          · obtain rfl : j = f3.length := by omega
            have hlt0 : ¬ (f3.length : Int) < (f3.length : Int) := by omega
            have hcl := HWk.out.loc
            have hn0 : wr.cell? ⟨w1.heap.size + 1, 0, none⟩ = some (.int .i64 7) := by simp [World.cell?, hcl]
            have HO5 : Aside0 (Own Bf w w1.heap.size (fun y => ∃ k, k ∈ f3 ∧ meets l s k.toNat i y) ws wr) := ⟨⟨HOw.out.lo, HOw.out.obj, HOw.out.free, HOw.out.set.congr fun y _ => by rw [List.take_length]⟩⟩
            clear hcl
            have hcall := add_calls w1.heap.size i (by have := HI.out; have := HS.out; omega) _ _ HO5.out.set wr HO5.out.obj
            go_wp2_with fail
            refine hcall.mono ?_
            rintro e w' ⟨r, rfl, _, ws', hS', hw', hg', -⟩
            have hF := HO5.out.free.same (hg'.block _ (map_lt HWk.out.mem) (fun e => map_ne HWk.out.mem HO5.out.obj (Option.some.inj e).symm))
            have HW' := Aside0.mk (HWk.out.set HO5.out hg')
            have HO' : Aside0 (Own Bf w w1.heap.size (meets l s n i) ws' w') := ⟨⟨HO5.out.lo, hw', hF, hS'.congr fun y _ => (HS2.out y).symm⟩⟩
            clear hS' hw' hg' hF
            go_wp2_with fail
            go_meet
            exact ⟨_, ws', rfl, HW', HO'⟩
      · as_aux_lemma =>
        have HOne := HOk.out.one n HN.out (by rw [HXE.out]; show (5 : Int) ≤ 5; decide)
        have HKid := HOk.out.kid n HN.out
        rw [HXE.out] at HOne HKid
        obtain ⟨k1, hk1⟩ := HOne
        have hk1 : f3 = [k1] := hk1
        subst hk1
        have hz := HKid k1 (by simp)
        obtain ⟨m, rfl⟩ : ∃ m : Nat, k1 = (m : Int) := ⟨k1.toNat, by omega⟩
        have HMn : Aside0 (m < n) := ⟨by omega⟩
        clear hz HKid
        have HFw : Aside0 (Fwd (meets l s m) s.size) := ⟨meets_fwd HOk.out s m (by have := HN.out; have := HMn.out; omega)⟩
        have HS2 : Aside0 (∀ j, meets l s n i j ↔ Plus (meets l s m) i j ∨ j = i) := ⟨fun j => by
          rw [HMeet.out, if_neg (by decide), if_neg (by decide), if_neg (by decide), if_pos rfl]
          show Star (meets l s ((m : Int)).toNat) i j ↔ _
          rw [Int.toNat_natCast]
          exact plus_star⟩
        have HT0 := Aside0.mk HBase.out.tabs
        obtain ⟨ad3, c, e0, _, hK, hcell⟩ := Kd.C_get (Kd.C_below HRK.out HWk.out.mem.below) (0 : Int) 0 (by omega) (by simp)
        subst e0
        have hK : c = [.int .i64 (([(m : Int)] : List Int).getD ((0 : Int)).toNat 0)] := hK
        subst hK
        have hce := hcell 0 _ rfl
        have hce2 : w2.cell? ad3 = some (.int .i64 m) := by simpa [Kd.int, Kd.scalar, Addr.add] using hce
        replace hce : w2.cell? (ad3.add 0) = some (.int .i64 m) := by simpa [Kd.int, Kd.scalar] using hce
        clear hcell
        have hcall := HIH.out m HMn.out i HI.out w2 HWk.out.mem
        go_wp2_with fail
        refine hcall.mono ?_
        rintro e w3 ⟨b2, ws2, rfl, hb0, hbw, hbS, hM3, hG3, hnF, hFr⟩
        dsimp only
        have HOw3 := Aside0.mk (HOw.out.call HWk.out.mem hG3 hFr)
        have HWk3 := Aside0.mk (HWk.out.call hM3 hG3 hFr)
        have hlist := list_calls b2 ws2 _ hbS w3 hbw (HT0.out.below HWk3.out.mem.below)
        clear hcall hb0 hbw hbS hM3 hG3 hnF hFr HOw HWk hce hce2 hn0 hn1 hn2 hn3 hm0 hm1 hm2
        go_wp2_with fail
        refine hlist.mono ?_
        rintro e w4 ⟨v4, rfl, hR4, hB4⟩
        dsimp only
        obtain ⟨Q0, hQ0⟩ : ∃ Q0, Q0 = upto (meets l s m i) (s.size + 1) := ⟨_, rfl⟩
        rw [upto_big (n := s.size + 1) (fun y hy => by have := HFw.out i y HI.out hy; omega) (by have := HS.out; omega), ← hQ0] at hR4
        have HQ0 : Aside0 (Re.Queue (meets l s m) i (s.size + 1) Q0 0) := ⟨by rw [hQ0]; exact Queue.start fun y hy => by have := HFw.out i y HI.out hy; omega⟩
        have HQl : Aside0 (Q0.length ≤ 501) := ⟨by have := HQ0.out.len; have := HS.out; omega⟩
        obtain ⟨A4, c4, rfl, hl4, hC4⟩ := Kd.R_reads hR4
        rw [nats_len] at hR4 hl4 ⊢
        have HR4 := Aside0.mk hR4
        have HOw4 := Aside0.mk (HOw3.out.move HWk3.out.mem hB4)
        have HWk4 := Aside0.mk (HWk3.out.move hB4)
        replace HR4 := Aside0.mk (Kd.R_lower HR4.out HWk3.out.grown.size)
        clear hlist hQ0 hR4 hB4 hl4 hC4 HWk3 HOw3
        go_wp2_with fail
        go_loopg [61] Q0.length (fun g2 v61 wr2 => ∃ (p : Nat) (vs : Nat → Nat), v61 = .int .i64 p ∧ p ≤ Q0.length ∧ Q0.length - p ≤ g2 ∧ Aside0 (Work l s (some ad) c0 Bm Bf w0 w n i (w1.heap.size + 1) ⟨5, f1, f2, [(m : Int)]⟩ (some ad3) c3 wr2) ∧ Aside0 (Own Bf w w1.heap.size (fun y => y ∈ Q0.take p) vs wr2) ∧ Aside0 (Kd.R (Kd.int .i64) 3 wr2 w.heap.size (fun _ => True) (.slice A4 Q0.length c4) (nats Q0)))
        case atStart => exact ⟨0, _, rfl, by omega, by omega, HWk4, ⟨⟨HOw4.out.lo, HOw4.out.obj, HOw4.out.free, HOw4.out.set.congr fun y _ => by simp⟩⟩, HR4⟩
        case round =>
          clear HWk4 HOw4 HR4
          obtain ⟨p, vs, rfl, hp, hg2, HWk, HOw, HR4⟩ := hrel
          by_cases hpl : p < Q0.length
          · have hpl0 : (p : Int) < (Q0.length : Int) := by omega
            have HPl := Aside0.mk hpl
            obtain ⟨ad4, e4, hcp⟩ := row_get HR4.out p (by rw [nats_len]; exact hpl)
            subst e4
            rw [nats_get Q0 p hpl] at hcp
            obtain ⟨htk, hmem⟩ := take_next Q0 p hpl
            generalize Q0.getD p 0 = x at hcp htk hmem
            have hxl := HQ0.out.lt x hmem
            have hcall := add_calls w1.heap.size x (by have := HS.out; omega) _ _ HOw.out.set wr HOw.out.obj
            have HTk := Aside0.mk htk
            clear htk hmem hxl
            go_wp2_with fail
            refine hcall.mono ?_
            rintro e w' ⟨r, rfl, _, ws', hS', hw', hg', -⟩
            dsimp only
            have hF := HOw.out.free.same (hg'.block _ (map_lt HWk.out.mem) (fun e => map_ne HWk.out.mem HOw.out.obj (Option.some.inj e).symm))
            have HW' := Aside0.mk (HWk.out.set HOw.out hg')
            have HR' := Aside0.mk (row_grown2 HR4.out HOw.out.obj hg')
            have HO' : Aside0 (Own Bf w w1.heap.size (fun y => y ∈ Q0.take (p + 1)) ws' w') := ⟨⟨HOw.out.lo, hw', hF, hS'.congr fun y _ => by rw [HTk.out]; simp⟩⟩
            have hpi : (p : Int) + 1 ≤ 513 := by have := HPl.out; have := HQl.out; omega
            clear hS' hw' hg' hF hcp hcall
            go_wp2_with fail
            go_roundg (Q0.length - (p + 1))
            case measure => have := HPl.out; omega
            case rel => exact ⟨p + 1, _, by go_num, HPl.out, Nat.le_refl _, HW', HO', HR'⟩
          · obtain rfl : p = Q0.length := by omega
            have hpl0 : ¬ (Q0.length : Int) < (Q0.length : Int) := by omega
            have HOw5 : Aside0 (Own Bf w w1.heap.size (fun y => y ∈ Q0) vs wr) := ⟨⟨HOw.out.lo, HOw.out.obj, HOw.out.free, HOw.out.set.congr fun y _ => by rw [List.take_length]⟩⟩
            clear HOw
            go_wp2_with fail
            go_loopg [22, 25] 513 (fun gg v22 v25 wr => ∃ (i' : Nat) (Q : List Nat) (ws : Nat → Nat), v25 = .int .i64 i' ∧ 513 - i' ≤ gg ∧ i' ≤ Q.length ∧ Aside0 (Re.Queue (meets l s m) i (s.size + 1) Q i') ∧ Aside0 (Work l s (some ad) c0 Bm Bf w0 w n i (w1.heap.size + 1) ⟨5, f1, f2, [(m : Int)]⟩ (some ad3) c3 wr) ∧ Aside0 (Own Bf w w1.heap.size (fun y => y ∈ Q) ws wr) ∧ Aside0 (Kd.R (Kd.int .i64) 3 wr w.heap.size (fun _ => True) v22 (nats Q)))
            case atStart => exact ⟨0, Q0, vs, rfl, by omega, by omega, HQ0, HWk, HOw5, HR4⟩
            case round =>
              clear HWk HOw5 HR4 HQ0
              obtain ⟨i', Q, ws, rfl, hg, hi', HQ, HWk, HOw, HR⟩ := hrel
              obtain ⟨A5, c5, hv, _, _⟩ := Kd.R_reads HR.out
              rw [nats_len] at hv
              subst hv
              have HQ5 : Aside0 (Q.length ≤ 501) := ⟨by have := HQ.out.len; have := HS.out; omega⟩
              have hcl := HWk.out.loc
              have hn3 : wr.cell? ⟨w1.heap.size + 1, 3, none⟩ = some (.slice (some ad3) 1 c3) := by simp [World.cell?, hcl]
              have hn0 : wr.cell? ⟨w1.heap.size + 1, 0, none⟩ = some (.int .i64 5) := by simp [World.cell?, hcl]
              clear hcl
              by_cases hlt : i' < Q.length
              · have hlt0 : (i' : Int) < (Q.length : Int) := by omega
                have HLt := Aside0.mk hlt
                obtain ⟨ad5, e5, hcq⟩ := row_get HR.out i' (by rw [nats_len]; exact hlt)
                subst e5
                rw [nats_get Q i' hlt] at hcq
                have HStep := Aside0.mk (HQ.out.step hlt (fun q x hq hx => by have := HFw.out q x (by omega) hx; omega))
                have hmem := (take_next Q i' hlt).2
                have HXq : Aside0 (∃ x, Q.getD i' 0 = x) := ⟨_, rfl⟩
                obtain ⟨x, hx⟩ := HXq.out
                rw [hx] at hcq HStep hmem
                replace HXq : Aside0 (Q.getD i' 0 = x) := ⟨hx⟩
                clear hx
                have HXs : Aside0 (x ≤ s.size) := ⟨by have := HQ.out.lt x hmem; omega⟩
                obtain ⟨ad3', cc, e0, _, hK, hcell⟩ := Kd.C_get (Kd.C_below HRK.out HWk.out.mem.below) (0 : Int) 0 (by omega) (by simp)
                obtain rfl : ad3 = ad3' := Option.some.inj e0
                have hK : cc = [.int .i64 (([(m : Int)] : List Int).getD ((0 : Int)).toNat 0)] := hK
                subst hK
                have hce := hcell 0 _ rfl
                replace hce : wr.cell? ad3 = some (.int .i64 m) := by simpa [Kd.int, Kd.scalar, Addr.add] using hce
                clear hcell e0 hmem
                go_upto_region 16 with fail
                refine wp_region_aside_at (v := .int .i64 0) 9 12 (by kernel_rfl) rfl (by kernel_rfl) (by kernel_rfl) (by kernel_rfl) (fun _ _ _ h => h) (Or.inl ⟨by rfl, fun w => ?_⟩) (by kernel_rfl) (by kernel_rfl) ?_
                · first | rfl | (go_simp; done)
                simp only [List.take_succ_cons, List.take_zero, List.drop_succ_cons, List.drop_zero]
                repeat still_step
                try refine wpStill_nil ?_
                change wpList _ _ _ _ _ wr.drew
                have hdr : Below wr.heap.size wr wr.drew := (Below.refl _ _).drew
                replace HOw := Aside0.mk (HOw.out.move HWk.out.mem hdr)
                replace HWk := Aside0.mk (HWk.out.move hdr)
                replace HR := Aside0.mk (Kd.R_below HR.out hdr)
                clear hdr hce hcq hn3 hn0
                generalize wr.drew = w6 at *
                have hcall := HIH.out m HMn.out x HXs.out w6 HWk.out.mem
                go_wp2_with fail
                refine hcall.mono ?_
                rintro e w7 ⟨b2, ws2, rfl, hb0, hbw, hbS, hM3, hG3, hnF, hFr⟩
                dsimp only
                replace HR := Aside0.mk (row_call HR.out HWk.out.mem hG3)
                replace HOw := Aside0.mk (HOw.out.call HWk.out.mem hG3 hFr)
                replace HWk := Aside0.mk (HWk.out.call hM3 hG3 hFr)
                have hlist := list_calls b2 ws2 _ hbS w7 hbw (HT0.out.below HWk.out.mem.below)
                clear hcall hb0 hbw hbS hM3 hG3 hnF hFr
                go_wp2_with fail
                refine hlist.mono ?_
                rintro e w8 ⟨v4, rfl, hR4, hB4⟩
                dsimp only
                obtain ⟨L, hL⟩ : ∃ L, L = upto (meets l s m x) (s.size + 1) := ⟨_, rfl⟩
                rw [upto_big (n := s.size + 1) (fun y hy => by have := HFw.out x y HXs.out hy; omega) (by have := HS.out; omega), ← hL] at hR4
                rw [← hL] at HStep
                have HLb : Aside0 (L.length ≤ 501 ∧ ∀ y, y ∈ L → y ≤ s.size) := ⟨by rw [hL]; have := upto_len (meets l s m x) (s.size + 1); have := HS.out; omega, fun y hy => by rw [hL] at hy; have := (mem_upto.mp hy).1; omega⟩
                obtain ⟨inner, hown⟩ := Kd.R_own HR.out
                have hR5 := Kd.R_mono (Kd.R_new hR4 hown) (fun k hk => hk.2)
                obtain ⟨A6, c6, rfl, hl6, hC6⟩ := Kd.R_reads hR4
                rw [nats_len L] at hR5 hl6 ⊢
                have HL5 := Aside0.mk hR5
                replace HR := Aside0.mk (Kd.R_below HR.out hB4)
                replace HOw := Aside0.mk (HOw.out.move HWk.out.mem hB4)
                replace HWk := Aside0.mk (HWk.out.move hB4)
                obtain ⟨bl, hbl⟩ : ∃ bl, bl = w7.heap.size := ⟨_, rfl⟩
                rw [← hbl] at HL5
                clear hlist hL hR4 hR5 hB4 hl6 hC6 hown hbl
                go_wp2_with fail
                go_loopg [22, 87] L.length (fun g2 v22 v87 wr2 => ∃ (p : Nat) (vs : Nat → Nat), v87 = .int .i64 p ∧ p ≤ L.length ∧ L.length - p ≤ g2 ∧ Aside0 (Work l s (some ad) c0 Bm Bf w0 w n i (w1.heap.size + 1) ⟨5, f1, f2, [(m : Int)]⟩ (some ad3) c3 wr2) ∧ Aside0 (Own Bf w w1.heap.size (fun y => y ∈ ext Q (L.take p)) vs wr2) ∧ Aside0 (Kd.R (Kd.int .i64) 3 wr2 w.heap.size (fun _ => True) v22 (nats (ext Q (L.take p)))) ∧ Aside0 (Kd.R (Kd.int .i64) 3 wr2 bl (fun k => some k ≠ v22.ownBlock) (.slice A6 L.length c6) (nats L)) ∧ Aside0 ((ext Q (L.take p)).length ≤ 501 + p))
                case atStart => exact ⟨0, ws, rfl, by omega, by omega, HWk, HOw, HR, HL5, HQ5⟩
                case round =>
                  clear HWk HOw HR HL5
                  obtain ⟨p, vs, rfl, hp, hg2, HWk, HOw, HR, HL5, HEl⟩ := hrel
                  by_cases hpl : p < L.length
                  · have hpl0 : (p : Int) < (L.length : Int) := by omega
                    have HPl := Aside0.mk hpl
                    obtain ⟨ad6, e6, hcp⟩ := row_get (row_true HL5.out) p (by rw [nats_len]; exact hpl)
                    subst e6
                    rw [nats_get L p hpl] at hcp
                    have hext := ext_take Q L p hpl
                    have hmem := (take_next L p hpl).2
                    generalize L.getD p 0 = z at hcp hext hmem
                    have hzl := HLb.out.2 z hmem
                    have hcall := add_calls w1.heap.size z (by have := HS.out; omega) _ _ HOw.out.set wr HOw.out.obj
                    have HExt := Aside0.mk hext
                    have hpi : (p : Int) + 1 ≤ 513 := by have := HLb.out.1; omega
                    clear hext hmem hzl
                    go_wp2_with fail
                    refine hcall.mono ?_
                    rintro e w' ⟨r, rfl, hr, ws', hS', hw', hg', -⟩
                    dsimp only
                    have hF := HOw.out.free.same (hg'.block _ (map_lt HWk.out.mem) (fun e => map_ne HWk.out.mem HOw.out.obj (Option.some.inj e).symm))
                    have HW' := Aside0.mk (HWk.out.set HOw.out hg')
                    have HR' := Aside0.mk (row_grown2 HR.out HOw.out.obj hg')
                    have HL' := Aside0.mk (row_grown2 HL5.out HOw.out.obj hg')
                    have HO' : Aside0 (Own Bf w w1.heap.size (fun y => y ∈ ext Q (L.take (p + 1))) ws' w') := ⟨⟨HOw.out.lo, hw', hF, hS'.congr fun y _ => by
                      rw [HExt.out]
                      split
                      · rename_i h
                        constructor
                        · rintro (h1 | h1)
                          · exact h1
                          · rw [h1]; exact h
                        · exact .inl
                      · simp⟩⟩
                    clear hS' hw' hg' hF hcp hcall HWk HOw HR HL5
                    cases r with
                    | false =>
                      have hin : z ∈ ext Q (L.take p) := Classical.byContradiction fun h => absurd (hr.mpr h) (by decide)
                      have HE : Aside0 (ext Q (L.take (p + 1)) = ext Q (L.take p)) := ⟨by rw [HExt.out, if_pos hin]⟩
                      clear hr hin
                      go_wp2_with fail
                      go_roundg (L.length - (p + 1))
                      case measure => have := HPl.out; omega
                      case rel => exact ⟨p + 1, _, by go_num, HPl.out, Nat.le_refl _, HW', HO', ⟨by rw [HE.out]; exact HR'.out⟩, HL', ⟨by rw [HE.out]; have := HEl.out; omega⟩⟩
                    | true =>
                      have hout := hr.mp rfl
                      have HE : Aside0 (ext Q (L.take (p + 1)) = ext Q (L.take p) ++ [z]) := ⟨by rw [HExt.out, if_neg hout]⟩
                      have HLN : Aside0 ((nats (ext Q (L.take p))).length < 17592186044415) := ⟨by rw [nats_len]; have := HEl.out; have := HPl.out; have := HLb.out.1; omega⟩
                      have HBsz : Aside0 (w.heap.size ≤ w'.heap.size) := ⟨HW'.out.grown.size⟩
                      clear hr hout
                      go_wp2_with (first | ((with_reducible refine gate_builtin (b := .append) (xs := #[.tmp 94, .tmp 96]) rfl ?_); at_builtin; refine Kd.R_append (Kd.int .i64) (w0 := w') w.heap.size rfl (.tmp 94) (.tmp 96) 31 3 (.int .i64 0) 8 rfl Tryd.underlying31 info3 rfl (by decide) (by omega) _ (nats (ext Q (L.take p))) (z : Int) [.int .i64 (z : Int)] (fun _ => True) (fun _ => False) rfl rfl ?aP (fun _ hk => hk.elim) (fun _ _ => trivial) ?aO ?aB ?aS ?aL ?_; (case aP => exact rfl); (case aO => exact HR'.out); (case aB => exact Below.refl _ _); (case aS => exact HBsz.out); (case aL => have := HLN.out; omega); intro v159 w24 ho hb hg hat; rw [← nats_snoc] at ho; have HO2 := Aside0.mk ho; have HG2 := Aside0.mk hg; have HA2 := Aside0.mk hat; clear ho hb hg hat))
                      have HWn := Aside0.mk (HW'.out.row HR'.out (Nat.le_refl _) HG2.out)
                      have HOn := Aside0.mk (HO'.out.row HW'.out.mem HR'.out HG2.out)
                      have HLn := Aside0.mk (row_row HL'.out HG2.out HA2.out)
                      go_wp2_with fail
                      go_roundg (L.length - (p + 1))
                      case measure => have := HPl.out; omega
                      case rel => exact ⟨p + 1, _, by go_num, HPl.out, Nat.le_refl _, HWn, HOn, ⟨by rw [HE.out]; exact HO2.out⟩, HLn, ⟨by rw [HE.out, List.length_append, List.length_singleton]; have := HEl.out; omega⟩⟩
                  · obtain rfl : p = L.length := by omega
                    have hpl0 : ¬ (L.length : Int) < (L.length : Int) := by omega
                    have HOn : Aside0 (Own Bf w w1.heap.size (fun y => y ∈ ext Q L) vs wr) := ⟨⟨HOw.out.lo, HOw.out.obj, HOw.out.free, HOw.out.set.congr fun y _ => by rw [List.take_length]⟩⟩
                    have HRn : Aside0 (Kd.R (Kd.int .i64) 3 wr w.heap.size (fun _ => True) u22 (nats (ext Q L))) := ⟨by have h := HR.out; rw [List.take_length] at h; exact h⟩
                    have HLe : Aside0 (i' + 1 ≤ (ext Q L).length) := ⟨by
                      obtain ⟨m', hm'⟩ := ext_head L Q
                      rw [hm', List.length_append]
                      have := HLt.out
                      omega⟩
                    have hii : (i' : Int) + 1 ≤ 513 := by have := HLt.out; have := HQ5.out; omega
                    clear HOw HR
                    go_wp2_with fail
                    go_roundg (513 - (i' + 1))
                    case measure => have := HLt.out; have := HQ5.out; omega
                    case rel => exact ⟨i' + 1, _, _, by go_num, Nat.le_refl _, HLe.out, HStep, HWk, HOn, HRn⟩
              · obtain rfl : i' = Q.length := by omega
                have hlt0 : ¬ (Q.length : Int) < (Q.length : Int) := by omega
                have HDone := Aside0.mk (fun y => HQ.out.done y)
                have HO5 : Aside0 (Own Bf w w1.heap.size (fun y => Plus (meets l s m) i y) ws wr) := ⟨⟨HOw.out.lo, HOw.out.obj, HOw.out.free, HOw.out.set.congr fun y _ => HDone.out y⟩⟩
                clear HOw
                have hcall := add_calls w1.heap.size i (by have := HI.out; have := HS.out; omega) _ _ HO5.out.set wr HO5.out.obj
                go_wp2_with fail
                refine hcall.mono ?_
                rintro e w' ⟨r, rfl, _, ws', hS', hw', hg', -⟩
                dsimp only
                have hF := HO5.out.free.same (hg'.block _ (map_lt HWk.out.mem) (fun e => map_ne HWk.out.mem HO5.out.obj (Option.some.inj e).symm))
                have HW' := Aside0.mk (HWk.out.set HO5.out hg')
                have HO' : Aside0 (Own Bf w w1.heap.size (meets l s n i) ws' w') := ⟨⟨HO5.out.lo, hw', hF, hS'.congr fun y _ => (HS2.out y).symm⟩⟩
                clear hS' hw' hg' hF
                go_wp2_with fail
                go_meet
                exact ⟨_, ws', rfl, HW', HO'⟩
      · as_aux_lemma =>
        have HOne := HOk.out.one n HN.out (by rw [HXE.out]; show (5 : Int) ≤ 6; decide)
        have HKid := HOk.out.kid n HN.out
        rw [HXE.out] at HOne HKid
        obtain ⟨k1, hk1⟩ := HOne
        have hk1 : f3 = [k1] := hk1
        subst hk1
        have hz := HKid k1 (by simp)
        obtain ⟨m, rfl⟩ : ∃ m : Nat, k1 = (m : Int) := ⟨k1.toNat, by omega⟩
        have HMn : Aside0 (m < n) := ⟨by omega⟩
        clear hz HKid
        have HFw : Aside0 (Fwd (meets l s m) s.size) := ⟨meets_fwd HOk.out s m (by have := HN.out; have := HMn.out; omega)⟩
        have HS2 : Aside0 (∀ j, meets l s n i j ↔ Plus (meets l s m) i j) := ⟨fun j => by
          rw [HMeet.out, if_neg (by decide), if_neg (by decide), if_neg (by decide), if_neg (by decide), if_pos rfl]
          show Plus (meets l s ((m : Int)).toNat) i j ↔ _
          rw [Int.toNat_natCast]⟩
        have HT0 := Aside0.mk HBase.out.tabs
        obtain ⟨ad3, c, e0, _, hK, hcell⟩ := Kd.C_get (Kd.C_below HRK.out HWk.out.mem.below) (0 : Int) 0 (by omega) (by simp)
        subst e0
        have hK : c = [.int .i64 (([(m : Int)] : List Int).getD ((0 : Int)).toNat 0)] := hK
        subst hK
        have hce := hcell 0 _ rfl
        have hce2 : w2.cell? ad3 = some (.int .i64 m) := by simpa [Kd.int, Kd.scalar, Addr.add] using hce
        replace hce : w2.cell? (ad3.add 0) = some (.int .i64 m) := by simpa [Kd.int, Kd.scalar] using hce
        clear hcell
        have hcall := HIH.out m HMn.out i HI.out w2 HWk.out.mem
        go_wp2_with fail
        refine hcall.mono ?_
        rintro e w3 ⟨b2, ws2, rfl, hb0, hbw, hbS, hM3, hG3, hnF, hFr⟩
        dsimp only
        have HOw3 := Aside0.mk (HOw.out.call HWk.out.mem hG3 hFr)
        have HWk3 := Aside0.mk (HWk.out.call hM3 hG3 hFr)
        have hlist := list_calls b2 ws2 _ hbS w3 hbw (HT0.out.below HWk3.out.mem.below)
        clear hcall hb0 hbw hbS hM3 hG3 hnF hFr HOw HWk hce hce2 hn0 hn1 hn2 hn3 hm0 hm1 hm2
        go_wp2_with fail
        refine hlist.mono ?_
        rintro e w4 ⟨v4, rfl, hR4, hB4⟩
        dsimp only
        obtain ⟨Q0, hQ0⟩ : ∃ Q0, Q0 = upto (meets l s m i) (s.size + 1) := ⟨_, rfl⟩
        rw [upto_big (n := s.size + 1) (fun y hy => by have := HFw.out i y HI.out hy; omega) (by have := HS.out; omega), ← hQ0] at hR4
        have HQ0 : Aside0 (Re.Queue (meets l s m) i (s.size + 1) Q0 0) := ⟨by rw [hQ0]; exact Queue.start fun y hy => by have := HFw.out i y HI.out hy; omega⟩
        have HQl : Aside0 (Q0.length ≤ 501) := ⟨by have := HQ0.out.len; have := HS.out; omega⟩
        obtain ⟨A4, c4, rfl, hl4, hC4⟩ := Kd.R_reads hR4
        rw [nats_len] at hR4 hl4 ⊢
        have HR4 := Aside0.mk hR4
        have HOw4 := Aside0.mk (HOw3.out.move HWk3.out.mem hB4)
        have HWk4 := Aside0.mk (HWk3.out.move hB4)
        replace HR4 := Aside0.mk (Kd.R_lower HR4.out HWk3.out.grown.size)
        clear hlist hQ0 hR4 hB4 hl4 hC4 HWk3 HOw3
        go_wp2_with fail
        go_loopg [61] Q0.length (fun g2 v61 wr2 => ∃ (p : Nat) (vs : Nat → Nat), v61 = .int .i64 p ∧ p ≤ Q0.length ∧ Q0.length - p ≤ g2 ∧ Aside0 (Work l s (some ad) c0 Bm Bf w0 w n i (w1.heap.size + 1) ⟨6, f1, f2, [(m : Int)]⟩ (some ad3) c3 wr2) ∧ Aside0 (Own Bf w w1.heap.size (fun y => y ∈ Q0.take p) vs wr2) ∧ Aside0 (Kd.R (Kd.int .i64) 3 wr2 w.heap.size (fun _ => True) (.slice A4 Q0.length c4) (nats Q0)))
        case atStart => exact ⟨0, _, rfl, by omega, by omega, HWk4, ⟨⟨HOw4.out.lo, HOw4.out.obj, HOw4.out.free, HOw4.out.set.congr fun y _ => by simp⟩⟩, HR4⟩
        case round =>
          clear HWk4 HOw4 HR4
          obtain ⟨p, vs, rfl, hp, hg2, HWk, HOw, HR4⟩ := hrel
          by_cases hpl : p < Q0.length
          · have hpl0 : (p : Int) < (Q0.length : Int) := by omega
            have HPl := Aside0.mk hpl
            obtain ⟨ad4, e4, hcp⟩ := row_get HR4.out p (by rw [nats_len]; exact hpl)
            subst e4
            rw [nats_get Q0 p hpl] at hcp
            obtain ⟨htk, hmem⟩ := take_next Q0 p hpl
            generalize Q0.getD p 0 = x at hcp htk hmem
            have hxl := HQ0.out.lt x hmem
            have hcall := add_calls w1.heap.size x (by have := HS.out; omega) _ _ HOw.out.set wr HOw.out.obj
            have HTk := Aside0.mk htk
            clear htk hmem hxl
            go_wp2_with fail
            refine hcall.mono ?_
            rintro e w' ⟨r, rfl, _, ws', hS', hw', hg', -⟩
            dsimp only
            have hF := HOw.out.free.same (hg'.block _ (map_lt HWk.out.mem) (fun e => map_ne HWk.out.mem HOw.out.obj (Option.some.inj e).symm))
            have HW' := Aside0.mk (HWk.out.set HOw.out hg')
            have HR' := Aside0.mk (row_grown2 HR4.out HOw.out.obj hg')
            have HO' : Aside0 (Own Bf w w1.heap.size (fun y => y ∈ Q0.take (p + 1)) ws' w') := ⟨⟨HOw.out.lo, hw', hF, hS'.congr fun y _ => by rw [HTk.out]; simp⟩⟩
            have hpi : (p : Int) + 1 ≤ 513 := by have := HPl.out; have := HQl.out; omega
            clear hS' hw' hg' hF hcp hcall
            go_wp2_with fail
            go_roundg (Q0.length - (p + 1))
            case measure => have := HPl.out; omega
            case rel => exact ⟨p + 1, _, by go_num, HPl.out, Nat.le_refl _, HW', HO', HR'⟩
          · obtain rfl : p = Q0.length := by omega
            have hpl0 : ¬ (Q0.length : Int) < (Q0.length : Int) := by omega
            have HOw5 : Aside0 (Own Bf w w1.heap.size (fun y => y ∈ Q0) vs wr) := ⟨⟨HOw.out.lo, HOw.out.obj, HOw.out.free, HOw.out.set.congr fun y _ => by rw [List.take_length]⟩⟩
            clear HOw
            go_wp2_with fail
            go_loopg [22, 25] 513 (fun gg v22 v25 wr => ∃ (i' : Nat) (Q : List Nat) (ws : Nat → Nat), v25 = .int .i64 i' ∧ 513 - i' ≤ gg ∧ i' ≤ Q.length ∧ Aside0 (Re.Queue (meets l s m) i (s.size + 1) Q i') ∧ Aside0 (Work l s (some ad) c0 Bm Bf w0 w n i (w1.heap.size + 1) ⟨6, f1, f2, [(m : Int)]⟩ (some ad3) c3 wr) ∧ Aside0 (Own Bf w w1.heap.size (fun y => y ∈ Q) ws wr) ∧ Aside0 (Kd.R (Kd.int .i64) 3 wr w.heap.size (fun _ => True) v22 (nats Q)))
            case atStart => exact ⟨0, Q0, vs, rfl, by omega, by omega, HQ0, HWk, HOw5, HR4⟩
            case round =>
              clear HWk HOw5 HR4 HQ0
              obtain ⟨i', Q, ws, rfl, hg, hi', HQ, HWk, HOw, HR⟩ := hrel
              obtain ⟨A5, c5, hv, _, _⟩ := Kd.R_reads HR.out
              rw [nats_len] at hv
              subst hv
              have HQ5 : Aside0 (Q.length ≤ 501) := ⟨by have := HQ.out.len; have := HS.out; omega⟩
              have hcl := HWk.out.loc
              have hn3 : wr.cell? ⟨w1.heap.size + 1, 3, none⟩ = some (.slice (some ad3) 1 c3) := by simp [World.cell?, hcl]
              have hn0 : wr.cell? ⟨w1.heap.size + 1, 0, none⟩ = some (.int .i64 6) := by simp [World.cell?, hcl]
              clear hcl
              by_cases hlt : i' < Q.length
              · have hlt0 : (i' : Int) < (Q.length : Int) := by omega
                have HLt := Aside0.mk hlt
                obtain ⟨ad5, e5, hcq⟩ := row_get HR.out i' (by rw [nats_len]; exact hlt)
                subst e5
                rw [nats_get Q i' hlt] at hcq
                have HStep := Aside0.mk (HQ.out.step hlt (fun q x hq hx => by have := HFw.out q x (by omega) hx; omega))
                have hmem := (take_next Q i' hlt).2
                generalize Q.getD i' 0 = x at hcq HStep hmem
                have HXs : Aside0 (x ≤ s.size) := ⟨by have := HQ.out.lt x hmem; omega⟩
                obtain ⟨ad3', cc, e0, _, hK, hcell⟩ := Kd.C_get (Kd.C_below HRK.out HWk.out.mem.below) (0 : Int) 0 (by omega) (by simp)
                obtain rfl : ad3 = ad3' := Option.some.inj e0
                have hK : cc = [.int .i64 (([(m : Int)] : List Int).getD ((0 : Int)).toNat 0)] := hK
                subst hK
                have hce := hcell 0 _ rfl
                replace hce : wr.cell? ad3 = some (.int .i64 m) := by simpa [Kd.int, Kd.scalar, Addr.add] using hce
                clear hcell e0 hmem
                go_upto_region 16 with fail
                refine wp_region_aside_at (v := .int .i64 0) 9 12 (by kernel_rfl) rfl (by kernel_rfl) (by kernel_rfl) (by kernel_rfl) (fun _ _ _ h => h) (Or.inl ⟨by rfl, fun w => ?_⟩) (by kernel_rfl) (by kernel_rfl) ?_
                · first | rfl | (go_simp; done)
                simp only [List.take_succ_cons, List.take_zero, List.drop_succ_cons, List.drop_zero]
                repeat still_step
                try refine wpStill_nil ?_
                change wpList _ _ _ _ _ wr.drew
                have hdr : Below wr.heap.size wr wr.drew := (Below.refl _ _).drew
                replace HOw := Aside0.mk (HOw.out.move HWk.out.mem hdr)
                replace HWk := Aside0.mk (HWk.out.move hdr)
                replace HR := Aside0.mk (Kd.R_below HR.out hdr)
                clear hdr hce hcq hn3 hn0
                generalize wr.drew = w6 at *
                have hcall := HIH.out m HMn.out x HXs.out w6 HWk.out.mem
                go_wp2_with fail
                refine hcall.mono ?_
                rintro e w7 ⟨b2, ws2, rfl, hb0, hbw, hbS, hM3, hG3, hnF, hFr⟩
                dsimp only
                replace HR := Aside0.mk (row_call HR.out HWk.out.mem hG3)
                replace HOw := Aside0.mk (HOw.out.call HWk.out.mem hG3 hFr)
                replace HWk := Aside0.mk (HWk.out.call hM3 hG3 hFr)
                have hlist := list_calls b2 ws2 _ hbS w7 hbw (HT0.out.below HWk.out.mem.below)
                clear hcall hb0 hbw hbS hM3 hG3 hnF hFr
                go_wp2_with fail
                refine hlist.mono ?_
                rintro e w8 ⟨v4, rfl, hR4, hB4⟩
                dsimp only
                obtain ⟨L, hL⟩ : ∃ L, L = upto (meets l s m x) (s.size + 1) := ⟨_, rfl⟩
                rw [upto_big (n := s.size + 1) (fun y hy => by have := HFw.out x y HXs.out hy; omega) (by have := HS.out; omega), ← hL] at hR4
                rw [← hL] at HStep
                have HLb : Aside0 (L.length ≤ 501 ∧ ∀ y, y ∈ L → y ≤ s.size) := ⟨by rw [hL]; have := upto_len (meets l s m x) (s.size + 1); have := HS.out; omega, fun y hy => by rw [hL] at hy; have := (mem_upto.mp hy).1; omega⟩
                obtain ⟨inner, hown⟩ := Kd.R_own HR.out
                have hR5 := Kd.R_mono (Kd.R_new hR4 hown) (fun k hk => hk.2)
                obtain ⟨A6, c6, rfl, hl6, hC6⟩ := Kd.R_reads hR4
                rw [nats_len L] at hR5 hl6 ⊢
                have HL5 := Aside0.mk hR5
                replace HR := Aside0.mk (Kd.R_below HR.out hB4)
                replace HOw := Aside0.mk (HOw.out.move HWk.out.mem hB4)
                replace HWk := Aside0.mk (HWk.out.move hB4)
                obtain ⟨bl, hbl⟩ : ∃ bl, bl = w7.heap.size := ⟨_, rfl⟩
                rw [← hbl] at HL5
                clear hlist hL hR4 hR5 hB4 hl6 hC6 hown hbl
                go_wp2_with fail
                go_loopg [22, 87] L.length (fun g2 v22 v87 wr2 => ∃ (p : Nat) (vs : Nat → Nat), v87 = .int .i64 p ∧ p ≤ L.length ∧ L.length - p ≤ g2 ∧ Aside0 (Work l s (some ad) c0 Bm Bf w0 w n i (w1.heap.size + 1) ⟨6, f1, f2, [(m : Int)]⟩ (some ad3) c3 wr2) ∧ Aside0 (Own Bf w w1.heap.size (fun y => y ∈ ext Q (L.take p)) vs wr2) ∧ Aside0 (Kd.R (Kd.int .i64) 3 wr2 w.heap.size (fun _ => True) v22 (nats (ext Q (L.take p)))) ∧ Aside0 (Kd.R (Kd.int .i64) 3 wr2 bl (fun k => some k ≠ v22.ownBlock) (.slice A6 L.length c6) (nats L)) ∧ Aside0 ((ext Q (L.take p)).length ≤ 501 + p))
                case atStart => exact ⟨0, ws, rfl, by omega, by omega, HWk, HOw, HR, HL5, HQ5⟩
                case round =>
                  clear HWk HOw HR HL5
                  obtain ⟨p, vs, rfl, hp, hg2, HWk, HOw, HR, HL5, HEl⟩ := hrel
                  by_cases hpl : p < L.length
                  · have hpl0 : (p : Int) < (L.length : Int) := by omega
                    have HPl := Aside0.mk hpl
                    obtain ⟨ad6, e6, hcp⟩ := row_get (row_true HL5.out) p (by rw [nats_len]; exact hpl)
                    subst e6
                    rw [nats_get L p hpl] at hcp
                    have hext := ext_take Q L p hpl
                    have hmem := (take_next L p hpl).2
                    generalize L.getD p 0 = z at hcp hext hmem
                    have hzl := HLb.out.2 z hmem
                    have hcall := add_calls w1.heap.size z (by have := HS.out; omega) _ _ HOw.out.set wr HOw.out.obj
                    have HExt := Aside0.mk hext
                    have hpi : (p : Int) + 1 ≤ 513 := by have := HLb.out.1; omega
                    clear hext hmem hzl
                    go_wp2_with fail
                    refine hcall.mono ?_
                    rintro e w' ⟨r, rfl, hr, ws', hS', hw', hg', -⟩
                    dsimp only
                    have hF := HOw.out.free.same (hg'.block _ (map_lt HWk.out.mem) (fun e => map_ne HWk.out.mem HOw.out.obj (Option.some.inj e).symm))
                    have HW' := Aside0.mk (HWk.out.set HOw.out hg')
                    have HR' := Aside0.mk (row_grown2 HR.out HOw.out.obj hg')
                    have HL' := Aside0.mk (row_grown2 HL5.out HOw.out.obj hg')
                    have HO' : Aside0 (Own Bf w w1.heap.size (fun y => y ∈ ext Q (L.take (p + 1))) ws' w') := ⟨⟨HOw.out.lo, hw', hF, hS'.congr fun y _ => by
                      rw [HExt.out]
                      split
                      · rename_i h
                        constructor
                        · rintro (h1 | h1)
                          · exact h1
                          · rw [h1]; exact h
                        · exact .inl
                      · simp⟩⟩
                    clear hS' hw' hg' hF hcp hcall HWk HOw HR HL5
                    cases r with
                    | false =>
                      have hin : z ∈ ext Q (L.take p) := Classical.byContradiction fun h => absurd (hr.mpr h) (by decide)
                      have HE : Aside0 (ext Q (L.take (p + 1)) = ext Q (L.take p)) := ⟨by rw [HExt.out, if_pos hin]⟩
                      clear hr hin
                      go_wp2_with fail
                      go_roundg (L.length - (p + 1))
                      case measure => have := HPl.out; omega
                      case rel => exact ⟨p + 1, _, by go_num, HPl.out, Nat.le_refl _, HW', HO', ⟨by rw [HE.out]; exact HR'.out⟩, HL', ⟨by rw [HE.out]; have := HEl.out; omega⟩⟩
                    | true =>
                      have hout := hr.mp rfl
                      have HE : Aside0 (ext Q (L.take (p + 1)) = ext Q (L.take p) ++ [z]) := ⟨by rw [HExt.out, if_neg hout]⟩
                      have HLN : Aside0 ((nats (ext Q (L.take p))).length < 17592186044415) := ⟨by rw [nats_len]; have := HEl.out; have := HPl.out; have := HLb.out.1; omega⟩
                      have HBsz : Aside0 (w.heap.size ≤ w'.heap.size) := ⟨HW'.out.grown.size⟩
                      clear hr hout
                      go_wp2_with (first | ((with_reducible refine gate_builtin (b := .append) (xs := #[.tmp 94, .tmp 96]) rfl ?_); at_builtin; refine Kd.R_append (Kd.int .i64) (w0 := w') w.heap.size rfl (.tmp 94) (.tmp 96) 31 3 (.int .i64 0) 8 rfl Tryd.underlying31 info3 rfl (by decide) (by omega) _ (nats (ext Q (L.take p))) (z : Int) [.int .i64 (z : Int)] (fun _ => True) (fun _ => False) rfl rfl ?aP (fun _ hk => hk.elim) (fun _ _ => trivial) ?aO ?aB ?aS ?aL ?_; (case aP => exact rfl); (case aO => exact HR'.out); (case aB => exact Below.refl _ _); (case aS => exact HBsz.out); (case aL => have := HLN.out; omega); intro v159 w24 ho hb hg hat; rw [← nats_snoc] at ho; have HO2 := Aside0.mk ho; have HG2 := Aside0.mk hg; have HA2 := Aside0.mk hat; clear ho hb hg hat))
                      have HWn := Aside0.mk (HW'.out.row HR'.out (Nat.le_refl _) HG2.out)
                      have HOn := Aside0.mk (HO'.out.row HW'.out.mem HR'.out HG2.out)
                      have HLn := Aside0.mk (row_row HL'.out HG2.out HA2.out)
                      go_wp2_with fail
                      go_roundg (L.length - (p + 1))
                      case measure => have := HPl.out; omega
                      case rel => exact ⟨p + 1, _, by go_num, HPl.out, Nat.le_refl _, HWn, HOn, ⟨by rw [HE.out]; exact HO2.out⟩, HLn, ⟨by rw [HE.out, List.length_append, List.length_singleton]; have := HEl.out; omega⟩⟩
                  · obtain rfl : p = L.length := by omega
                    have hpl0 : ¬ (L.length : Int) < (L.length : Int) := by omega
                    have HOn : Aside0 (Own Bf w w1.heap.size (fun y => y ∈ ext Q L) vs wr) := ⟨⟨HOw.out.lo, HOw.out.obj, HOw.out.free, HOw.out.set.congr fun y _ => by rw [List.take_length]⟩⟩
                    have HRn : Aside0 (Kd.R (Kd.int .i64) 3 wr w.heap.size (fun _ => True) u22 (nats (ext Q L))) := ⟨by have h := HR.out; rw [List.take_length] at h; exact h⟩
                    have HLe : Aside0 (i' + 1 ≤ (ext Q L).length) := ⟨by
                      obtain ⟨m', hm'⟩ := ext_head L Q
                      rw [hm', List.length_append]
                      have := HLt.out
                      omega⟩
                    have hii : (i' : Int) + 1 ≤ 513 := by have := HLt.out; have := HQ5.out; omega
                    clear HOw HR
                    go_wp2_with fail
                    go_roundg (513 - (i' + 1))
                    case measure => have := HLt.out; have := HQ5.out; omega
                    case rel => exact ⟨i' + 1, _, _, by go_num, Nat.le_refl _, HLe.out, HStep, HWk, HOn, HRn⟩
              · obtain rfl : i' = Q.length := by omega
                have hlt0 : ¬ (Q.length : Int) < (Q.length : Int) := by omega
                have HDone := Aside0.mk (fun y => HQ.out.done y)
                have HO5 : Aside0 (Own Bf w w1.heap.size (fun y => Plus (meets l s m) i y) ws wr) := ⟨⟨HOw.out.lo, HOw.out.obj, HOw.out.free, HOw.out.set.congr fun y _ => HDone.out y⟩⟩
                clear HOw
                have HO' : Aside0 (Own Bf w w1.heap.size (meets l s n i) ws wr) := ⟨⟨HO5.out.lo, HO5.out.obj, HO5.out.free, HO5.out.set.congr fun y _ => (HS2.out y).symm⟩⟩
                go_wp2_with fail
                go_meet
                exact ⟨_, ws, rfl, HWk, HO'⟩
    case rest =>
      obtain ⟨b, ws, rfl, HWc, HOc⟩ := hcut
      have hkc := HWc.out.key
      have hkc0 : wc.cell? ⟨w.heap.size, 0, none⟩ = some (.int .i64 n) := by simp [World.cell?, hkc]
      have hkc1 : wc.cell? ⟨w.heap.size, 1, none⟩ = some (.int .i64 i) := by simp [World.cell?, hkc]
      obtain ⟨hm0, hm1, hm2⟩ := HWc.out.mem.cell
      have hdr : Below wc.heap.size wc wc.drew := (Below.refl _ _).drew
      replace HOc : Aside0 (Own Bf w b (meets l s n i) ws wc.drew) := ⟨HOc.out.move HWc.out.mem hdr⟩
      replace HWc : Aside0 (Work l s (some ad) c0 Bm Bf w0 w n i (w1.heap.size + 1) x A3 c3 wc.drew) := ⟨HWc.out.move hdr⟩
      obtain ⟨o, hst, hM3, hG3, hZ3, hN3, hF3⟩ := HWc.out.mem.map.store (by have := HL.out; omega) (by have := HS.out; omega) HN.out HI.out (Nat.le_trans HWc.out.lo HOc.out.lo) HOc.out.obj HOc.out.set
      have hb3 := hG3.block b (Array.getElem?_eq_some_iff.mp HOc.out.obj).1 (fun e => map_ne HWc.out.mem HOc.out.obj (Option.some.inj e))
      have hbm3 := hG3.block Bm (Array.getElem?_eq_some_iff.mp HWc.out.mem.obj).1 (fun e => map_ne HWc.out.mem HWc.out.mem.obj (Option.some.inj e))
      unfold pkey at hst
      generalize setBlock wc.drew Bf o = w3 at hst hM3 hG3 hZ3 hN3 hF3 hb3 hbm3
      have HRes : Aside0 (w0.heap.size ≤ b ∧ w3.heap[b]? = some (wobj ws) ∧ IsSet ws (meets l s n i) ∧ Mem l s (some ad) c0 Bm Bf w0 w3 ∧ w.grownBy w3 (some Bf) ∧ ¬ Free Bf b w3 ∧ ∀ r, r < w.heap.size → Free Bf r w → Free Bf r w3) := ⟨⟨Nat.le_trans HWc.out.lo HOc.out.lo, hb3.trans HOc.out.obj, HOc.out.set, {
        below := HWc.out.mem.below.grown hG3 HWc.out.mem.below.size (fun k e => by rw [← Option.some.inj e]; exact HWc.out.mem.bf)
        bm := HWc.out.mem.bm
        bf := HWc.out.mem.bf
        obj := hbm3.trans HWc.out.mem.obj
        map := hM3 }, HWc.out.grown.trans hG3, hN3, fun r hr hf => hF3 r (by have := HOc.out.lo; omega) (HWc.out.free r hr hf)⟩⟩
      clear hM3 hG3 hZ3 hN3 hF3 hb3 hbm3 hkc hdr hk0 hk1 hc0 hc1 hc2 hx0 hx1 hx2 hx3 hlook
      go_wp2_with fail
      go_region
      go_wp2_with fail
      go_ret
      exact ⟨b, ws, rfl, HRes.out.1, HRes.out.2.1, HRes.out.2.2.1, HRes.out.2.2.2.1, HRes.out.2.2.2.2.1, HRes.out.2.2.2.2.2.1, HRes.out.2.2.2.2.2.2⟩
  · have HF : Aside0 (w0.heap.size ≤ b ∧ w1.heap[b]? = some (wobj ws) ∧ IsSet ws (meets l s n i) ∧ ¬ Free Bf b w1) := ⟨⟨hb0, hbw, hbS, hbF⟩⟩
    clear hb0 hbw hbS hbF
    go_quiet (fail)
    go_wp2_with fail
    go_ret
    exact ⟨b, ws, rfl, HF.out.1, HF.out.2.1, HF.out.2.2.1, HM1.out.move ⟨rfl, rfl, rfl, Nat.le_refl _, fun _ _ => rfl⟩, ⟨HG1.out.os, HG1.out.tape, HG1.out.output, HG1.out.size, HG1.out.block⟩, HF.out.2.2.2, HF1.out⟩
end Go.Proofs.YtlakdfbfkbndiaaDoor.Q
namespace Go.Proofs.YtlakdfbfkbndiaaDoor.Q
open Go.RowKit Go.Proofs.YtlakdfbfkbndiaaDoor.Re Go.Proofs.YtlakdfbfkbndiaaDoorW.PrintWords Go.Proofs.YtlakdfbfkbndiaaDoorW.PrintLast Go.Proofs.YtlakdfbfkbndiaaDoorW.PrintMore
noncomputable def endsL (l : List S49) (s : ByteArray) (i : Nat) : List Nat := upto (meets l s (l.length - 1) i) (s.size + 1)
noncomputable def findV (l : List S49) (s : ByteArray) : Nat → Nat → Int × Int
  | 0, _ => (-1, 0)
  | d + 1, i => if (endsL l s i).length = 0 then findV l s d (i + 1) else ((i : Int), (((endsL l s i).getD ((endsL l s i).length - 1) 0 : Nat) : Int))
end Go.Proofs.YtlakdfbfkbndiaaDoor.Q
namespace Go.Proofs.YtlakdfbfkbndiaaDoor.Q
open Go.RowKit Go.Proofs.YtlakdfbfkbndiaaDoor.Re Go.Proofs.YtlakdfbfkbndiaaDoorW.PrintWords Go.Proofs.YtlakdfbfkbndiaaDoorW.PrintLast Go.Proofs.YtlakdfbfkbndiaaDoorW.PrintMore
section
variable {l : List S49} {s : ByteArray} {A0 : Option Addr} {c0 Bm Bf : Nat} {w0 : World}
theorem ends_calls (hB : Base l s A0 c0 w0) (n : Nat) : n < l.length → EndsAt l s A0 c0 Bm Bf w0 n := by
  induction n using Nat.strongRecOn with
  | _ n ih => exact fun hn => ends_step hB n hn fun m hm => ih m hm (by omega)
set_option maxRecDepth 100000 in
theorem at_calls (hB : Base l s A0 c0 w0) (i : Nat) (hi : i ≤ s.size) (w : World) (hM : Mem l s A0 c0 Bm Bf w0 w) :
    Calls Tryd.prog 45 #[.pointer (some ⟨Bm, 0, none⟩), .int .i64 i] w fun e w' => ∃ v, e = .returned v ∧ Kd.R (Kd.int .i64) 3 w' w.heap.size (fun _ => True) v (nats (endsL l s i)) ∧ Mem l s A0 c0 Bm Bf w0 w' ∧ w.grownBy w' (some Bf) := by
  have hcall := ends_calls (Bm := Bm) (Bf := Bf) hB (l.length - 1) (by have := hB.ok.pos; omega) i hi w hM
  have e1 : ((l.length - 1 : Nat) : Int) = (l.length : Int) - 1 := by have := hB.ok.pos; omega
  rw [e1] at hcall
  have h1 : (1 : Int) ≤ (l.length : Int) := by have := hB.ok.pos; omega
  have h2 : (l.length : Int) ≤ 200 := by have := hB.ok.len; omega
  obtain ⟨hm0, hm1, hm2⟩ := hM.cell
  have HB := Aside0.mk hB
  have HI := Aside0.mk hi
  clear hB hM hi e1
  go_enter Tryd.func45, Tryd.ntmps45
  go_wp2_with fail
  refine hcall.mono ?_
  rintro e w3 ⟨b2, ws2, rfl, hb0, hbw, hbS, hM3, hG3, hnF, hFr⟩
  dsimp only
  have hlist := list_calls b2 ws2 _ hbS w3 hbw (HB.out.tabs.below hM3.below)
  have HM3 := Aside0.mk hM3
  have HG3 := Aside0.mk hG3
  clear hcall hb0 hbw hbS hM3 hG3 hnF hFr
  go_wp2_with fail
  refine hlist.mono ?_
  rintro e w4 ⟨v4, rfl, hR4, hB4⟩
  dsimp only
  rw [upto_big (n := s.size + 1) (fun y hy => by have := meets_fwd HB.out.ok s (l.length - 1) (by have := HB.out.ok.pos; omega) i y HI.out hy; omega) (by have := HB.out.sz; omega)] at hR4
  have HR := Aside0.mk hR4
  have HM4 := Aside0.mk (HM3.out.move hB4)
  have HG4 : Aside0 (w.grownBy w4 (some Bf)) := ⟨HG3.out.trans ⟨hB4.os, hB4.tape, hB4.output, hB4.size, fun k hk _ => hB4.block k hk⟩⟩
  clear hlist hR4 hB4
  go_wp2_with fail
  go_ret
  exact ⟨v4, rfl, Kd.R_lower HR.out HG3.out.size, HM4.out, HG4.out⟩
end
end Go.Proofs.YtlakdfbfkbndiaaDoor.Q
namespace Go.Proofs.YtlakdfbfkbndiaaDoor.Q
open Go.RowKit Go.Proofs.YtlakdfbfkbndiaaDoor.Re Go.Proofs.YtlakdfbfkbndiaaDoorW.PrintWords Go.Proofs.YtlakdfbfkbndiaaDoorW.PrintLast Go.Proofs.YtlakdfbfkbndiaaDoorW.PrintMore
theorem MapOk.empty {D : Nat → Nat → Nat → Prop} {N L B0 Bf : Nat} {w : World} (h : w.heap[Bf]? = some (.map #[] 0)) : MapOk D N L B0 Bf w :=
  ⟨#[], 0, h, by simp, fun e he => by simp at he⟩
theorem heap_last (w : World) (o : Obj) : (w.alloc o).heap[w.heap.size]? = some o := by
  show (w.heap.push o)[w.heap.size]? = some o
  simp
set_option maxRecDepth 100000 in
theorem new_calls (l : List S49) (s : ByteArray) (A0 : Option Addr) (c0 : Nat) (w : World) (k : Nat) (b : Bool) (hr : Kd.C k49 w A0 l.length l) (hc : l.length ≤ c0) (hok : impl_ReOk.f k l = some b) :
    Calls Tryd.prog 41 #[.slice A0 l.length c0, .string s] w fun e w' =>
      Below w.heap.size w w' ∧ ((b = true ∧ s.size ≤ 500 ∧ ∃ Bm Bf, e = .returned (.pointer (some ⟨Bm, 0, none⟩)) ∧ Mem l s A0 c0 Bm Bf w w') ∨ (¬ (b = true ∧ s.size ≤ 500) ∧ e = .returned (.pointer none))) := by
  have hcall := impl_ReOk.calls k A0 c0 l b w hr hc hok
  have hmm := @run_makeMap Tryd.prog
  have HD := Aside0.mk (Below.refl w.heap.size w)
  cases b with
  | false =>
    go_enter Tryd.func41, Tryd.ntmps41
    go_wp2_with fail
    refine hcall.mono ?_
    rintro e w1 ⟨rfl, hb⟩
    dsimp only
    have HB := Aside0.mk hb
    clear hcall hb
    go_wp2_with fail
    go_ret
    exact ⟨HB.out, .inr ⟨by simp, rfl⟩⟩
  | true =>
    by_cases hs : s.size ≤ 500
    · have hs0 : ((500 : Int) < (s.size : Int)) = False := eq_false (by omega)
      go_enter Tryd.func41, Tryd.ntmps41
      go_wp2_with fail
      refine hcall.mono ?_
      rintro e w1 ⟨rfl, hb⟩
      dsimp only
      have HB := Aside0.mk hb
      clear hcall hb
      go_wp2_with fail
      go_ret
      have h1 : ((w1.alloc (.map #[] 0)).alloc (.cells #[.slice A0 l.length c0, .string s, .map (some w1.heap.size)] 90)).heap[w1.heap.size]? = some (.map #[] 0) := (Below.heap_alloc _ _ _ (by simp)).trans (heap_last w1 _)
      have h2 : ((w1.alloc (.map #[] 0)).alloc (.cells #[.slice A0 l.length c0, .string s, .map (some w1.heap.size)] 90)).heap[w1.heap.size + 1]? = some (.cells #[.slice A0 l.length c0, .string s, .map (some w1.heap.size)] 90 (0, 0)) := by
        have := heap_last (w1.alloc (.map #[] 0)) (.cells #[.slice A0 l.length c0, .string s, .map (some w1.heap.size)] 90)
        rwa [World.size_alloc] at this
      have hB2 := below_alloc (below_alloc HB.out (.map #[] 0)) (.cells #[.slice A0 l.length c0, .string s, .map (some w1.heap.size)] 90)
      exact ⟨hB2, .inl ⟨trivial, hs, w1.heap.size + 1, w1.heap.size, rfl, ⟨hB2, by have := HB.out.size; omega, HB.out.size, h2, MapOk.empty h1⟩⟩⟩
    · have hs0 : ((500 : Int) < (s.size : Int)) = True := eq_true (by omega)
      go_enter Tryd.func41, Tryd.ntmps41
      go_wp2_with fail
      refine hcall.mono ?_
      rintro e w1 ⟨rfl, hb⟩
      dsimp only
      have HB := Aside0.mk hb
      clear hcall hb
      go_wp2_with fail
      go_ret
      exact ⟨HB.out, .inr ⟨fun h => hs h.2, rfl⟩⟩
end Go.Proofs.YtlakdfbfkbndiaaDoor.Q
namespace Go.Proofs.YtlakdfbfkbndiaaDoor.Q
open Go.RowKit Go.Proofs.YtlakdfbfkbndiaaDoor.Re Go.Proofs.YtlakdfbfkbndiaaDoorW.PrintWords Go.Proofs.YtlakdfbfkbndiaaDoorW.PrintLast Go.Proofs.YtlakdfbfkbndiaaDoorW.PrintMore
section
variable {l : List S49} {s : ByteArray} {A0 : Option Addr} {c0 Bm Bf : Nat} {w0 : World}
theorem endsL_len (hB : Base l s A0 c0 w0) (i : Nat) : (endsL l s i).length ≤ 501 := by
  have := upto_len (meets l s (l.length - 1) i) (s.size + 1)
  have := hB.sz
  unfold endsL
  omega
set_option maxRecDepth 100000 in
theorem find_calls (hB : Base l s A0 c0 w0) (i : Nat) (hi : i ≤ s.size + 1) (w : World) (hM : Mem l s A0 c0 Bm Bf w0 w) :
    Calls Tryd.prog 42 #[.pointer (some ⟨Bm, 0, none⟩), .int .i64 i] w fun e w' =>
      e = .returned (.tuple #[.int .i64 (findV l s (s.size + 1 - i) i).1, .int .i64 (findV l s (s.size + 1 - i) i).2]) ∧ Mem l s A0 c0 Bm Bf w0 w' ∧ w.grownBy w' (some Bf) := by
  have HB := Aside0.mk hB
  have HM := Aside0.mk hM
  have HI := Aside0.mk hi
  have HG := Aside0.mk (World.grownBy.refl w (some Bf))
  clear hB hM hi
  go_enter Tryd.func42, Tryd.ntmps42
  go_wp2_with fail
  go_loopg [6] (s.size + 2) (fun g v6 wr => ∃ (j : Nat), v6 = .int .i64 j ∧ s.size + 2 - j ≤ g ∧ j ≤ s.size + 1 ∧ findV l s (s.size + 1 - i) i = findV l s (s.size + 1 - j) j ∧ Aside0 (Mem l s A0 c0 Bm Bf w0 wr) ∧ Aside0 (w.grownBy wr (some Bf)))
  case atStart => exact ⟨i, rfl, by omega, HI.out, rfl, HM, HG⟩
  case round =>
    clear HM HG
    obtain ⟨j, rfl, hg, hj, hv, HM, HG⟩ := hrel
    obtain ⟨hm0, hm1, hm2⟩ := HM.out.cell
    clear hm0 hm2
    have HV := Aside0.mk hv
    clear hv
    by_cases hlt : j ≤ s.size
    · have hlt0 : ((j : Int) ≤ (s.size : Int)) = True := eq_true (by omega)
      have hcall := at_calls HB.out j hlt wr HM.out
      have HLt := Aside0.mk hlt
      have hcap := endsL_len HB.out j
      clear hlt
      go_wp2_with fail
      refine hcall.mono ?_
      rintro e w4 ⟨v4, rfl, hR4, hM4, hG4⟩
      dsimp only
      obtain ⟨A4, c4, rfl, hl4, hC4⟩ := Kd.R_reads hR4
      rw [nats_len] at hR4 hl4 ⊢
      have HR4 := Aside0.mk hR4
      have HM4 := Aside0.mk hM4
      have HG4 := Aside0.mk (HG.out.trans hG4)
      clear hcall hR4 hM4 hG4 hl4 hC4 HM HG
      by_cases hn : (endsL l s j).length = 0
      · have hn0 : ((0 : Int) < ((endsL l s j).length : Int)) = False := eq_false (by omega)
        have hv2 : findV l s (s.size + 1 - j) j = findV l s (s.size + 1 - (j + 1)) (j + 1) := by
          rw [show s.size + 1 - j = (s.size + 1 - (j + 1)) + 1 by have := HLt.out; omega]
          simp only [findV]
          rw [if_pos hn]
        have hji : (j : Int) + 1 ≤ 502 := by have := HB.out.sz; have := HLt.out; omega
        have HV2 := Aside0.mk (HV.out.trans hv2)
        clear HV hv2
        go_wp2_with fail
        go_roundg (s.size + 2 - (j + 1))
        case measure => have := HLt.out; omega
        case rel => exact ⟨j + 1, by go_num, Nat.le_refl _, by have := HLt.out; omega, HV2.out, HM4, HG4⟩
      · have hn0 : ((0 : Int) < ((endsL l s j).length : Int)) = True := eq_true (by omega)
        obtain ⟨n, hnn⟩ : ∃ n, (endsL l s j).length = n + 1 := ⟨(endsL l s j).length - 1, by omega⟩
        have hv2 : findV l s (s.size + 1 - j) j = ((j : Int), (((endsL l s j).getD n 0 : Nat) : Int)) := by
          rw [show s.size + 1 - j = (s.size + 1 - (j + 1)) + 1 by have := HLt.out; omega]
          simp only [findV]
          rw [if_neg hn, hnn]; rfl
        obtain ⟨ad4, e4, hcp⟩ := row_get HR4.out n (by rw [nats_len]; omega)
        subst e4
        rw [nats_get _ n (by omega)] at hcp
        obtain ⟨x, hx⟩ : ∃ x, (endsL l s j).getD n 0 = x := ⟨_, rfl⟩
        rw [hx] at hcp hv2
        clear hx
        have h1 : ((endsL l s j).length : Int) - 1 = (n : Int) := by omega
        have h2 : (0 : Int) ≤ (n : Int) := by omega
        have h3 : ((n : Int) < ((endsL l s j).length : Int)) := by omega
        have HV2 := Aside0.mk (HV.out.trans hv2)
        clear HV hv2
        go_wp2_with fail
        go_region
        go_wp2_with fail
        go_ret2
        rw [HV2.out]
        have hdr : Below w4.heap.size w4 w4.drew := (Below.refl _ _).drew
        exact ⟨rfl, HM4.out.move hdr, HG4.out.trans ⟨hdr.os, hdr.tape, hdr.output, hdr.size, fun k hk _ => hdr.block k hk⟩⟩
    · have hlt0 : ((j : Int) ≤ (s.size : Int)) = False := eq_false (by omega)
      have hv2 : findV l s (s.size + 1 - j) j = (-1, 0) := by
        rw [show s.size + 1 - j = 0 by omega]; rfl
      have HV2 := Aside0.mk (HV.out.trans hv2)
      clear HV hv2
      go_wp2_with fail
      go_ret2
      rw [HV2.out]
      exact ⟨rfl, HM.out, HG.out⟩
end
end Go.Proofs.YtlakdfbfkbndiaaDoor.Q
namespace Go.Proofs.YtlakdfbfkbndiaaDoor.Q
open Go.RowKit Go.Proofs.YtlakdfbfkbndiaaDoor.Re Go.Proofs.YtlakdfbfkbndiaaDoorW.PrintWords Go.Proofs.YtlakdfbfkbndiaaDoorW.PrintLast Go.Proofs.YtlakdfbfkbndiaaDoorW.PrintMore
def kPair : Kd (Int × Int) := Kd.pair (Kd.int .i64) (Kd.int .i64)
theorem kPair_mkM (w : World) (base : Nat) (ok : Nat → Prop) (x : Int × Int) : kPair.M w base ok x [.int .i64 x.1, .int .i64 x.2] := ⟨[.int .i64 x.1], [.int .i64 x.2], rfl, rfl, rfl⟩
theorem kPair_open {w : World} {x : Int × Int} {cs : List Value} (h : kPair.K w x cs) : cs = [.int .i64 x.1, .int .i64 x.2] := by
  obtain ⟨a, b, rfl, h0, h1⟩ := h
  have h0 : a = [.int .i64 x.1] := h0
  have h1 : b = [.int .i64 x.2] := h1
  rw [h0, h1]; rfl
theorem infoPair : (Tryd.prog.info? 72).map (fun i => (i.zero, i.size, i.bytes)) = some (some (.agg #[.int .i64 0, .int .i64 0]), 2, 16) := by kernel_rfl
theorem findV_spec (l : List S49) (s : ByteArray) (hV : Valid l) : ∀ (d i : Nat), i + d = s.size + 1 → (findV l s d i = (-1, 0)) ∨ ∃ j x : Nat, findV l s d i = ((j : Int), (x : Int)) ∧ i ≤ j ∧ j ≤ x ∧ x ≤ s.size
  | 0, i, _ => .inl rfl
  | d + 1, i, h => by
    simp only [findV]
    by_cases hn : (endsL l s i).length = 0
    · rw [if_pos hn]
      rcases findV_spec l s hV d (i + 1) (by omega) with h1 | ⟨j, x, h1, h2, h3, h4⟩
      · exact .inl h1
      · exact .inr ⟨j, x, h1, by omega, h3, h4⟩
    · rw [if_neg hn]
      refine .inr ⟨i, (endsL l s i).getD ((endsL l s i).length - 1) 0, rfl, Nat.le_refl _, ?_⟩
      have hm : (endsL l s i).getD ((endsL l s i).length - 1) 0 ∈ endsL l s i := by
        rw [List.getD_eq_getElem?_getD, List.getElem?_eq_getElem (by omega)]
        exact List.getElem_mem _
      have := (mem_upto.mp hm).2
      exact meets_fwd hV s (l.length - 1) (by have := hV.pos; omega) i _ (by omega) this
noncomputable def occV (l : List S49) (s : ByteArray) : Nat → Nat → List (Int × Int)
  | 0, _ => []
  | g + 1, i => if i ≤ s.size then (if (findV l s (s.size + 1 - i) i).1 < 0 then [] else findV l s (s.size + 1 - i) i :: occV l s g (if (findV l s (s.size + 1 - i) i).1 = (findV l s (s.size + 1 - i) i).2 then (findV l s (s.size + 1 - i) i).2.toNat + 1 else (findV l s (s.size + 1 - i) i).2.toNat)) else []
end Go.Proofs.YtlakdfbfkbndiaaDoor.Q
namespace Go.Proofs.YtlakdfbfkbndiaaDoor.Q
open Go.RowKit Go.Proofs.YtlakdfbfkbndiaaDoor.Re Go.Proofs.YtlakdfbfkbndiaaDoorW.PrintWords Go.Proofs.YtlakdfbfkbndiaaDoorW.PrintLast Go.Proofs.YtlakdfbfkbndiaaDoorW.PrintMore
section
variable {l : List S49} {s : ByteArray} {A0 : Option Addr} {c0 Bm Bf : Nat} {w0 w wr w1 : World} {base : Nat} {v : Value} {xs : List (Int × Int)}
theorem pair_ne {k : Nat} {ok : Nat → Prop} {o : Obj} (h : Kd.R kPair 72 wr base ok v xs) (hb : wr.heap[k]? = some o) (ho : ∀ c, o ≠ .cells c 72 (0, 0)) : some k ≠ v.ownBlock := fun e => by
  obtain ⟨c, hc⟩ := Kd.R_typed h k e.symm
  rw [hb] at hc
  exact ho c (Option.some.inj hc)
theorem Mem.pairs (h : Mem l s A0 c0 Bm Bf w0 wr) (hR : Kd.R kPair 72 wr base (fun _ => True) v xs) (hbase : w0.heap.size ≤ base) (hg : wr.grownBy w1 v.ownBlock) : Mem l s A0 c0 Bm Bf w0 w1 := by
  have keep : ∀ {k : Nat} {o : Obj}, wr.heap[k]? = some o → (∀ c, o ≠ .cells c 72 (0, 0)) → w1.heap[k]? = some o := fun {k o} hb ho => (hg.block k (Array.getElem?_eq_some_iff.mp hb).1 (pair_ne hR hb ho)).trans hb
  have hlo : ∀ k, v.ownBlock = some k → w0.heap.size ≤ k := fun k hk => Nat.le_trans hbase (Kd.R_base hR k hk)
  exact {
    below := h.below.grown hg h.below.size (fun k hk => hlo k hk)
    bm := h.bm
    bf := h.bf
    obj := keep h.obj (by simp)
    map := by
      obtain ⟨es, clock, hb, hd, he⟩ := h.map
      refine ⟨es, clock, keep hb (by simp), hd, fun e hm => ?_⟩
      obtain ⟨n', i', b', ws', g1, g2, g3, g4, g5, g6, g7⟩ := he e hm
      exact ⟨n', i', b', ws', g1, g2, g3, g4, g5, keep g6 (by simp [wobj]), g7⟩ }
theorem pairs_call (h : Kd.R kPair 72 wr base (fun _ => True) v xs) (hm : Mem l s A0 c0 Bm Bf w0 wr) (hg : wr.grownBy w1 (some Bf)) : Kd.R kPair 72 w1 base (fun _ => True) v xs := by
  obtain ⟨es, clock, hb, _⟩ := hm.map
  exact Kd.R_mono (Kd.R_grown (Kd.R_mono (ok' := fun k => k ≠ Bf) (Kd.R_mono (Kd.R_bound h) (ok' := fun k => k ≠ Bf) (fun k hk e => by
    obtain ⟨q, _, cells, hc⟩ := hk.2.2.2
    rw [e, hb] at hc
    cases hc)) (fun _ hk => hk)) hg (fun k hk e => hk (Option.some.inj e))) (fun _ _ => trivial)
set_option maxRecDepth 100000 in
theorem occ_calls (hB : Base l s A0 c0 w0) (w : World) (hM : Mem l s A0 c0 Bm Bf w0 w) :
    Calls Tryd.prog 48 #[.pointer (some ⟨Bm, 0, none⟩)] w fun e w' => ∃ v, e = .returned v ∧ Kd.R kPair 72 w' w.heap.size (fun _ => True) v (occV l s (s.size + 2) 0) ∧ Mem l s A0 c0 Bm Bf w0 w' ∧ (occV l s (s.size + 2) 0).length ≤ 502 := by
  have HB := Aside0.mk hB
  have HM := Aside0.mk hM
  have HS := Aside0.mk hB.sz
  generalize hVV : occV l s (s.size + 2) 0 = V
  have HVV := Aside0.mk hVV
  clear hB hM hVV
  go_enter Tryd.func48, Tryd.ntmps48
  go_wp2_with fail
  have h0 : Kd.R kPair 72 (w.alloc (.cells #[] 72)) w.heap.size (fun _ => True) (.slice (some ⟨w.heap.size, 0, none⟩) 0 0) ([] : List (Int × Int)) :=
    ⟨fun _ _ => trivial, [], World.ownsRow_lit (base := w.heap.size) (e := 72) (size := 2) w #[] 0 (Nat.le_refl _) (by unfold maxLen; omega) rfl, rfl, fun j p hj => by simp at hj⟩
  have hb0 : Below w.heap.size w (w.alloc (.cells #[] 72)) := below_alloc (Below.refl _ _) _
  go_loopg [3, 4] (s.size + 2) (fun g v3 v4 wr => ∃ (i : Nat) (L : List (Int × Int)), v4 = .int .i64 i ∧ s.size + 2 - i ≤ g ∧ i ≤ s.size + 1 ∧ L.length ≤ i ∧ Aside0 (Kd.R kPair 72 wr w.heap.size (fun _ => True) v3 L) ∧ Aside0 (Mem l s A0 c0 Bm Bf w0 wr) ∧ Aside0 (w.heap.size ≤ wr.heap.size) ∧ Aside0 (∃ h, s.size + 1 < h + i ∧ V = L ++ occV l s h i))
  case atStart => exact ⟨0, [], rfl, by omega, by omega, Nat.le_refl _, ⟨h0⟩, ⟨HM.out.move hb0⟩, ⟨hb0.size⟩, ⟨s.size + 2, by omega, HVV.out.symm⟩⟩
  case round =>
    clear h0 hb0
    have HSz := Aside0.mk (HM.out.below.size)
    clear HM
    obtain ⟨i, L, rfl, hg, hi, hL, HR, HM, HW, HV⟩ := hrel
    obtain ⟨hm0, hm1, hm2⟩ := HM.out.cell
    clear hm0 hm2
    by_cases hlt : i ≤ s.size
    · have hlt0 : ((i : Int) ≤ (s.size : Int)) = True := eq_true (by omega)
      have hcall := find_calls HB.out i (by omega) wr HM.out
      have HLt := Aside0.mk hlt
      have HLL := Aside0.mk hL
      have hstep : ∃ h, s.size + 1 < h + 1 + i ∧ V = L ++ occV l s (h + 1) i := by
        obtain ⟨h, h1, h2⟩ := HV.out
        exact ⟨h - 1, by omega, by rw [show h - 1 + 1 = h by omega]; exact h2⟩
      obtain ⟨h, h1, h2⟩ := hstep
      simp only [occV] at h2
      rw [if_pos hlt] at h2
      clear hlt HV hL
      rcases findV_spec l s HB.out.ok (s.size + 1 - i) i (by have := HLt.out; omega) with e | ⟨j, x, e, e1, e2, e3⟩
      · rw [e] at hcall h2
        simp only at h2
        rw [if_pos (by omega), List.append_nil] at h2
        have HF := Aside0.mk h2
        clear h2 e h1
        go_wp2_with fail
        refine hcall.mono ?_
        rintro e w4 ⟨rfl, hM4, hG4⟩
        dsimp only
        have HR4 := Aside0.mk (pairs_call HR.out HM.out hG4)
        have HM4 := Aside0.mk hM4
        clear hcall hM4 hG4 HR HM
        go_wp2_with fail
        go_ret
        rw [HF.out]
        exact ⟨_, rfl, HR4.out, HM4.out, by have := HLL.out; have := HLt.out; have := HS.out; omega⟩
      · rw [e] at hcall h2
        simp only at h2
        rw [if_neg (by omega)] at h2
        have HF := Aside0.mk h2
        have H1 := Aside0.mk h1
        have HE := Aside0.mk (And.intro e1 (And.intro e2 e3))
        have hj0 : ((j : Int) < 0) = False := eq_false (by omega)
        clear h2 e h1 e1 e2 e3
        go_wp2_with fail
        refine hcall.mono ?_
        rintro e w4 ⟨rfl, hM4, hG4⟩
        dsimp only
        have HR4 := Aside0.mk (pairs_call HR.out HM.out hG4)
        have HM4 := Aside0.mk hM4
        have HW4 : Aside0 (w.heap.size ≤ w4.heap.size) := ⟨Nat.le_trans HW.out hG4.size⟩
        clear hcall hM4 hG4 HR HM HW
        have hL2 : (L ++ [((j : Int), (x : Int))]).length ≤ x + (if j = x then 1 else 0) := by
          rw [List.length_append, List.length_singleton]
          have := HLL.out; have := HE.out
          split <;> omega
        have HL2 := Aside0.mk hL2
        clear hL2
        by_cases hjx : j = x
        · have hjx0 : ((j : Int) == (x : Int)) = true := by rw [hjx]; simp
          have hxi : (x : Int) + 1 ≤ 502 := by have := HE.out; have := HS.out; omega
          have HJX := Aside0.mk hjx
          clear hjx
          go_wp2_with (first | ((with_reducible refine gate_builtin (b := .append) (xs := #[.tmp 23, .tmp 27]) rfl ?_); at_builtin; refine Kd.R_append kPair (w0 := w4) w.heap.size rfl (.tmp 23) (.tmp 27) 70 72 (.agg #[.int .i64 0, .int .i64 0]) 16 rfl Tryd.underlying70 infoPair rfl (by decide) (by omega) _ L ((j : Int), (x : Int)) [.int .i64 (j : Int), .int .i64 (x : Int)] (fun _ => True) (fun _ => False) rfl rfl ?aP (fun _ hk => hk.elim) (fun _ _ => trivial) ?aO ?aB ?aS ?aL ?_; (case aP => exact kPair_mkM _ _ _ ((j : Int), (x : Int))); (case aO => exact HR4.out); (case aB => exact Below.refl _ _); (case aS => exact HW4.out); (case aL => have := HLL.out; have := HLt.out; have := HS.out; omega); intro v9 w9 ho hb hg hat; have HO2 := Aside0.mk ho; have HG2 := Aside0.mk hg; clear ho hb hg hat))
          have HM9 := Aside0.mk (HM4.out.pairs HR4.out HSz.out HG2.out)
          have HW9 : Aside0 (w.heap.size ≤ w9.heap.size) := ⟨Nat.le_trans HW4.out HG2.out.size⟩
          go_wp2_with fail
          go_roundg (s.size + 2 - (x + 1))
          case measure => have := HE.out; have := HLt.out; omega
          case rel => exact ⟨x + 1, L ++ [((j : Int), (x : Int))], by go_num, Nat.le_refl _, by have := HE.out; omega, by have := HL2.out; rw [if_pos HJX.out] at this; exact this, HO2, HM9, HW9, ⟨h, by have := H1.out; have := HE.out; omega, by
            rw [HF.out, if_pos (by rw [HJX.out]), Int.toNat_natCast, List.append_assoc]; rfl⟩⟩
        · have hjx0 : ((j : Int) == (x : Int)) = false := beq_eq_false_iff_ne.mpr (fun h => hjx (Int.ofNat.inj h))
          have HJX := Aside0.mk hjx
          clear hjx
          go_wp2_with (first | ((with_reducible refine gate_builtin (b := .append) (xs := #[.tmp 23, .tmp 27]) rfl ?_); at_builtin; refine Kd.R_append kPair (w0 := w4) w.heap.size rfl (.tmp 23) (.tmp 27) 70 72 (.agg #[.int .i64 0, .int .i64 0]) 16 rfl Tryd.underlying70 infoPair rfl (by decide) (by omega) _ L ((j : Int), (x : Int)) [.int .i64 (j : Int), .int .i64 (x : Int)] (fun _ => True) (fun _ => False) rfl rfl ?aP (fun _ hk => hk.elim) (fun _ _ => trivial) ?aO ?aB ?aS ?aL ?_; (case aP => exact kPair_mkM _ _ _ ((j : Int), (x : Int))); (case aO => exact HR4.out); (case aB => exact Below.refl _ _); (case aS => exact HW4.out); (case aL => have := HLL.out; have := HLt.out; have := HS.out; omega); intro v9 w9 ho hb hg hat; have HO2 := Aside0.mk ho; have HG2 := Aside0.mk hg; clear ho hb hg hat))
          have HM9 := Aside0.mk (HM4.out.pairs HR4.out HSz.out HG2.out)
          have HW9 : Aside0 (w.heap.size ≤ w9.heap.size) := ⟨Nat.le_trans HW4.out HG2.out.size⟩
          go_wp2_with fail
          go_roundg (s.size + 2 - x)
          case measure => have := HE.out; have := HLt.out; have := HJX.out; omega
          case rel => exact ⟨x, L ++ [((j : Int), (x : Int))], rfl, Nat.le_refl _, by have := HE.out; omega, by have := HL2.out; rw [if_neg HJX.out] at this; exact this, HO2, HM9, HW9, ⟨h, by have := H1.out; have := HE.out; have := HJX.out; omega, by
            rw [HF.out, if_neg (by have := HJX.out; omega), Int.toNat_natCast, List.append_assoc]; rfl⟩⟩
    · have hlt0 : ((i : Int) ≤ (s.size : Int)) = False := eq_false (by omega)
      have hF : V = L := by
        obtain ⟨h, h1, h2⟩ := HV.out
        cases h with
        | zero => exact h2.trans (List.append_nil _)
        | succ h =>
          simp only [occV] at h2
          rw [if_neg hlt, List.append_nil] at h2
          exact h2
      have HF := Aside0.mk hF
      have HLL := Aside0.mk hL
      have HI := Aside0.mk hi
      clear hF HV hL
      go_wp2_with fail
      go_ret
      rw [HF.out]
      exact ⟨_, rfl, HR.out, HM.out, by have := HLL.out; have := HI.out; have := HS.out; omega⟩
end
end Go.Proofs.YtlakdfbfkbndiaaDoor.Q
namespace Go.Proofs.YtlakdfbfkbndiaaDoor.Q
open Go.RowKit Go.Proofs.YtlakdfbfkbndiaaDoor.Re Go.Proofs.YtlakdfbfkbndiaaDoorW.PrintWords Go.Proofs.YtlakdfbfkbndiaaDoorW.PrintLast Go.Proofs.YtlakdfbfkbndiaaDoorW.PrintMore
def okV (l : List S49) : Prop := ∃ k, impl_ReOk.f k l = some true
def sureL (l : List S49) : Prop := (∃ k b, impl_ReOk.f k l = some b) ∧ (okV l → Valid l)
theorem leO_le {α : Type} {f : Nat → Option α} (h : ∀ k, LeO (f k) (f (k + 1))) {k m : Nat} (hk : k ≤ m) {r : α} (hr : f k = some r) : f m = some r := by
  induction hk with
  | refl => exact hr
  | step _ ih => exact h _ _ ih
theorem ok_one {l : List S49} {k : Nat} {b : Bool} (h : impl_ReOk.f k l = some b) : (b = true ↔ okV l) := by
  constructor
  · rintro rfl; exact ⟨k, h⟩
  · rintro ⟨m, hm⟩
    have h1 := leO_le (f := fun k => impl_ReOk.f k l) (fun k => impl_ReOk.mono l k) (Nat.le_max_left k m) h
    have h2 := leO_le (f := fun k => impl_ReOk.f k l) (fun k => impl_ReOk.mono l k) (Nat.le_max_right k m) hm
    exact Option.some.inj (h1.symm.trans h2)
theorem new_any (l : List S49) (s : ByteArray) (A0 : Option Addr) (c0 : Nat) (w : World) (hS : sureL l) (hr : Kd.C k49 w A0 l.length l) (hc : l.length ≤ c0) :
    Calls Tryd.prog 41 #[.slice A0 l.length c0, .string s] w fun e w' =>
      Below w.heap.size w w' ∧ (((okV l ∧ s.size ≤ 500) ∧ ∃ Bm Bf, e = .returned (.pointer (some ⟨Bm, 0, none⟩)) ∧ Mem l s A0 c0 Bm Bf w w') ∨ (¬ (okV l ∧ s.size ≤ 500) ∧ e = .returned (.pointer none))) := by
  obtain ⟨⟨k, b, hk⟩, _⟩ := hS
  refine (new_calls l s A0 c0 w k b hr hc hk).mono ?_
  rintro e w' ⟨hb, h⟩
  refine ⟨hb, ?_⟩
  rcases h with ⟨h1, h2, h3⟩ | ⟨h1, h2⟩
  · exact .inl ⟨⟨(ok_one hk).mp h1, h2⟩, h3⟩
  · exact .inr ⟨fun g => h1 ⟨(ok_one hk).mpr g.1, g.2⟩, h2⟩
def subL (s by_ : ByteArray) : List (Int × Int) → Nat → ByteArray → Option (ByteArray × Nat)
  | [], i, out => some (out, i)
  | x :: r, i, out => if (out ++ (s.extract i x.1.toNat ++ by_)).size > 500 then none else subL s by_ r x.2.toNat (out ++ (s.extract i x.1.toNat ++ by_))
def subR (s by_ : ByteArray) (L : List (Int × Int)) : ByteArray × Int :=
  match subL s by_ L 0 ⟨#[]⟩ with
  | none => (⟨#[]⟩, -1)
  | some (out, i) => if (out ++ s.extract i s.size).size > 500 then (⟨#[]⟩, -1) else (out ++ s.extract i s.size, (L.length : Int))
open Classical in
noncomputable def impl_ReSub.f (l : List S49) (s by_ : ByteArray) : Option (ByteArray × Int) :=
  if sureL l ∧ by_.size ≤ 1048576 then (if okV l ∧ s.size ≤ 500 then some (subR s by_ (occV l s (s.size + 2) 0)) else some (⟨#[]⟩, -1)) else none
theorem str_lh' {P : Program} {t : TypeId} (ht : P.underlying t = some .string) (s : ByteArray) (l h : Int) (h0 : 0 ≤ l) (h1 : l ≤ h) (h2 : h ≤ s.size) (W : World) :
    (Instr.slice t (.string s) (some (.int .i64 l)) (some (.int .i64 h)) none).run P W = .ok (.string (s.extract l.toNat h.toNat)) W := by
  have e1 : (h.toNat : Int) = h := Int.toNat_of_nonneg (by omega)
  have hu := run_underlying (P := P) ht
  simp [Instr.slice, Instr.sliceBounds, run_sliceBound, *, (by omega : 0 ≤ h)]
theorem str_l' {P : Program} {t : TypeId} (ht : P.underlying t = some .string) (s : ByteArray) (l : Int) (h0 : 0 ≤ l) (h2 : l ≤ s.size) (W : World) :
    (Instr.slice t (.string s) (some (.int .i64 l)) none none).run P W = .ok (.string (s.extract l.toNat s.size)) W := by
  have hu := run_underlying (P := P) ht
  simp [Instr.slice, Instr.sliceBounds, run_sliceBound, *]
def InOrder (n : Nat) : Nat → List (Int × Int) → Prop
  | _, [] => True
  | i, x :: r => ∃ j y : Nat, x = ((j : Int), (y : Int)) ∧ i ≤ j ∧ j ≤ y ∧ y ≤ n ∧ InOrder n y r
theorem InOrder.mono {n : Nat} {i k : Nat} (hk : k ≤ i) : ∀ {L : List (Int × Int)}, InOrder n i L → InOrder n k L
  | [], _ => trivial
  | _ :: _, ⟨j, y, e, h1, h2⟩ => ⟨j, y, e, by omega, h2⟩
theorem occ_order (l : List S49) (s : ByteArray) (hV : Valid l) : ∀ (g i : Nat), InOrder s.size i (occV l s g i)
  | 0, _ => trivial
  | g + 1, i => by
    simp only [occV]
    by_cases hi : i ≤ s.size
    · rw [if_pos hi]
      rcases findV_spec l s hV (s.size + 1 - i) i (by omega) with e | ⟨j, x, e, e1, e2, e3⟩
      · rw [e, if_pos (by decide)]; trivial
      · rw [e, if_neg (by dsimp only; omega)]
        refine ⟨j, x, rfl, e1, e2, e3, (occ_order l s hV g _).mono ?_⟩
        dsimp only
        split <;> omega
    · rw [if_neg hi]; trivial
set_option maxRecDepth 100000 in
theorem impl_ReSub.calls (A0 : Option Addr) (c0 : Nat) (l0 : List S49) (a1 : ByteArray) (a2 : ByteArray) (r1 : ByteArray) (r2 : Int) (w : World) (hr0 : Kd.C k49 w A0 l0.length l0) (hc0 : l0.length ≤ c0) (h : impl_ReSub.f l0 a1 a2 = some (r1, r2)) (hT : Tabs w := by first | assumption | (refine Aside0.out (p := Tabs _) ?_; assumption) | (refine Tabs.below (w := ?ww) (Aside0.out ?ha) ?hb; (case ha => assumption); (case hb => repeat (first | (with_reducible first | exact Below.refl _ _ | (refine Aside0.out ?_; assumption) | apply below_alloc | apply pw_below_drewN | apply below_drew1 | (refine below_set ?_ (Aside0.out ?_); (rotate_left; assumption))) | (refine Aside0.out ?_; assumption)))) | (refine Tabs.drewN (w := ?ww) (Aside0.out ?ha) _; (case ha => assumption))) :
    Calls Tryd.prog 27 #[.slice A0 l0.length c0, .string a1, .string a2] w fun e w' => e = .returned (.tuple #[.string r1, .int .i64 r2]) ∧ Below w.heap.size w w' := by
  unfold impl_ReSub.f at h
  by_cases hS : sureL l0 ∧ a2.size ≤ 1048576
  · rw [if_pos hS] at h
    have hcall := new_any l0 a1 A0 c0 w hS.1 hr0 hc0
    by_cases hok : okV l0 ∧ a1.size ≤ 500
    · rw [if_pos hok] at h
      have hBase : Base l0 a1 A0 c0 w := ⟨hS.1.2 hok.1, hok.2, hr0, hc0, hT⟩
      have HBase := Aside0.mk hBase
      have HOk := Aside0.mk hok
      have HBy := Aside0.mk hS.2
      have HOrd := Aside0.mk (occ_order l0 a1 hBase.ok (a1.size + 2) 0)
      have HRes := Aside0.mk (Option.some.inj h)
      clear hok hS hT hr0 hc0 hBase h
      go_enter Tryd.func27, Tryd.ntmps27
      go_wp2_with fail
      refine hcall.mono ?_
      rintro e w1 ⟨hb, (⟨_, Bm, Bf, rfl, hM⟩ | ⟨hn, _⟩)⟩
      · dsimp only
        have hocc := occ_calls HBase.out w1 hM
        clear hcall hM hb
        go_wp2_with fail
        refine hocc.mono ?_
        rintro e w4 ⟨v4, rfl, hR4, hM4, hL4⟩
        dsimp only
        obtain ⟨A4, c4, rfl, _, _⟩ := Kd.R_reads hR4
        generalize occV l0 a1 (a1.size + 2) 0 = L at *
        have HM4 := Aside0.mk hM4
        have HR4 := Aside0.mk hR4
        have HL4 := Aside0.mk hL4
        clear hocc hM4 hR4 hL4
        have HC4 := Aside0.mk (Kd.R_reads' HR4.out).2.2
        clear HR4
        go_wp2_with fail
        go_loopg [9, 10, 23] L.length (fun g v9 v10 v23 wr => ∃ (p i : Nat) (out : ByteArray), v23 = .int .i64 p ∧ v9 = .string out ∧ v10 = .int .i64 i ∧ p ≤ L.length ∧ L.length - p ≤ g ∧ out.size ≤ 500 ∧ i ≤ a1.size ∧ Aside0 (subL a1 a2 L 0 ⟨#[]⟩ = subL a1 a2 (L.drop p) i out) ∧ Aside0 (InOrder a1.size i (L.drop p)) ∧ Aside0 (Below w4.heap.size w4 wr))
        case atStart => exact ⟨0, 0, ⟨#[]⟩, rfl, rfl, rfl, by omega, by omega, by decide, by omega, ⟨rfl⟩, HOrd, ⟨Below.refl _ _⟩⟩
        case round =>
          obtain ⟨p, i, out, rfl, rfl, rfl, hp, hg, ho, hi, HE, HI, HW⟩ := hrel
          by_cases hpl : p < L.length
          · have hpl0 : ((p : Int) < (L.length : Int)) = True := eq_true (by omega)
            obtain ⟨ad4, cs, e0, _, hK, hcell⟩ := Kd.C_get (Kd.C_below HC4.out HW.out) ((0 : Int), (0 : Int)) p (by omega) (by omega)
            subst e0
            obtain rfl := kPair_open hK
            have hc0 := hcell 0 _ rfl
            have hc1 := hcell 1 _ rfl
            have hd : L.drop p = L.getD p (0, 0) :: L.drop (p + 1) := by
              rw [List.drop_eq_getElem_cons hpl, List.getD_eq_getElem?_getD, List.getElem?_eq_getElem hpl]; rfl
            rw [Int.toNat_natCast] at hc0 hc1
            have HIp := HI.out
            have HEp := HE.out
            rw [hd] at HIp HEp
            obtain ⟨j, y, ej, h1, h2, h3, h4⟩ := HIp
            rw [ej] at hc0 hc1 HEp
            simp only [show kPair.sz = 2 from rfl, Nat.add_zero] at hc0 hc1
            replace hc1 : wr.cell? ⟨(ad4.add (p * 2)).block, (ad4.add (p * 2)).off + 1, none⟩ = some (.int .i64 (y : Int)) := by
              rw [← add_field _ _ 1 (by omega)]; exact hc1
            have hsl := fun W => str_lh' (P := Tryd.prog) Tryd.underlying9 a1 (i : Int) (j : Int) (by omega) (by omega) (by omega) W
            simp only [Int.toNat_natCast] at hsl
            have hts : (a1.extract i j).size ≤ 500 := by rw [ByteArray.size_extract]; have := HOk.out.2; omega
            have HTx : Aside0 (∃ t, a1.extract i j = t) := ⟨_, rfl⟩
            obtain ⟨t, htx⟩ := HTx.out
            replace HTx := Aside0.mk htx
            rw [htx] at hsl hts
            have hby := HBy.out
            have hov1 : ¬ 9223372036854775807 < t.size + a2.size := by omega
            have hov2 : ¬ 9223372036854775807 < out.size + (t.size + a2.size) := by omega
            have HTs := Aside0.mk hts
            clear hts hby htx
            have hpi : (p : Int) + 1 ≤ 503 := by have := HL4.out; omega
            have HP := Aside0.mk (And.intro hp (And.intro hg (And.intro hi (And.intro h1 (And.intro h2 h3)))))
            have HI2 := Aside0.mk h4
            have HE2 := Aside0.mk HEp
            have HPl := Aside0.mk hpl
            have HO := Aside0.mk ho
            clear HEp h1 h2 h3 h4 hd ej hK hcell hp hg hi hpl HE HI ho
            by_cases hbig : out.size + (t.size + a2.size) > 500
            · have hbig0 : ((500 : Int) < (out.size : Int) + ((t.size : Int) + (a2.size : Int))) = True := eq_true (by omega)
              have HBig := Aside0.mk hbig
              clear hbig
              go_wp2_with fail
              go_ret2
              have hr : (r1, r2) = ((⟨#[]⟩ : ByteArray), (-1 : Int)) := HRes.out.symm.trans (by
                unfold subR
                rw [HE2.out]
                simp only [subL, Int.toNat_natCast]
                rw [HTx.out, if_pos (by rw [ByteArray.size_append, ByteArray.size_append]; exact HBig.out)])
              cases hr
              exact ⟨rfl, HM4.out.below.trans (Below.mono (below_alloc HW.out _) HM4.out.below.size)⟩
            · have hbig0 : ((500 : Int) < (out.size : Int) + ((t.size : Int) + (a2.size : Int))) = False := eq_false (by omega)
              have HBig := Aside0.mk hbig
              clear hbig
              go_wp2_with fail
              go_roundg (L.length - (p + 1))
              case measure => have := HPl.out; have := HP.out; omega
              case rel => exact ⟨p + 1, y, out ++ (t ++ a2), by go_num, rfl, rfl, by have := HPl.out; omega, Nat.le_refl _, by rw [ByteArray.size_append, ByteArray.size_append]; have := HBig.out; omega, HP.out.2.2.2.2.2, ⟨HE2.out.trans (by
                simp only [subL, Int.toNat_natCast]
                rw [HTx.out, if_neg (by rw [ByteArray.size_append, ByteArray.size_append]; exact HBig.out)])⟩, HI2, ⟨below_alloc HW.out _⟩⟩
          · obtain rfl : p = L.length := by omega
            have hpl0 : ((L.length : Int) < (L.length : Int)) = False := eq_false (by omega)
            have hsl := fun W => str_l' (P := Tryd.prog) Tryd.underlying9 a1 (i : Int) (by omega) (by omega) W
            simp only [Int.toNat_natCast] at hsl
            have hts : (a1.extract i a1.size).size ≤ 500 := by rw [ByteArray.size_extract]; have := HOk.out.2; omega
            have HTx : Aside0 (∃ t, a1.extract i a1.size = t) := ⟨_, rfl⟩
            obtain ⟨t, htx⟩ := HTx.out
            replace HTx := Aside0.mk htx
            rw [htx] at hsl hts
            have hov1 : ¬ 9223372036854775807 < out.size + t.size := by omega
            have HEp := HE.out
            rw [List.drop_eq_nil_of_le (Nat.le_refl _)] at HEp
            have HE2 := Aside0.mk HEp
            clear HEp htx hts hp hg hpl HE HI
            by_cases hbig : out.size + t.size > 500
            · have hbig0 : ((500 : Int) < (out.size : Int) + (t.size : Int)) = True := eq_true (by omega)
              have HBig := Aside0.mk hbig
              clear hbig
              go_wp2_with fail
              go_ret2
              have hr : (r1, r2) = ((⟨#[]⟩ : ByteArray), (-1 : Int)) := HRes.out.symm.trans (by
                unfold subR
                rw [HE2.out]
                simp only [subL]
                rw [HTx.out, if_pos (by rw [ByteArray.size_append]; exact HBig.out)])
              cases hr
              exact ⟨rfl, HM4.out.below.trans (Below.mono HW.out HM4.out.below.size)⟩
            · have hbig0 : ((500 : Int) < (out.size : Int) + (t.size : Int)) = False := eq_false (by omega)
              have HBig := Aside0.mk hbig
              clear hbig
              go_wp2_with fail
              go_ret2
              have hr : (r1, r2) = ((out ++ t : ByteArray), (L.length : Int)) := HRes.out.symm.trans (by
                unfold subR
                rw [HE2.out]
                simp only [subL]
                rw [HTx.out, if_neg (by rw [ByteArray.size_append]; exact HBig.out)])
              cases hr
              exact ⟨rfl, HM4.out.below.trans (Below.mono HW.out HM4.out.below.size)⟩
      · exact absurd HOk.out hn
    · rw [if_neg hok] at h
      cases h
      have HOk := Aside0.mk hok
      clear hok hS hT hr0 hc0
      go_enter Tryd.func27, Tryd.ntmps27
      go_wp2_with fail
      refine hcall.mono ?_
      rintro e w1 ⟨hb, (⟨hn, _⟩ | ⟨_, rfl⟩)⟩
      · exact absurd hn HOk.out
      · dsimp only
        have HB := Aside0.mk hb
        clear hcall hb
        go_wp2_with fail
        go_ret2
        exact ⟨rfl, HB.out⟩
  · rw [if_neg hS] at h; cases h
end Go.Proofs.YtlakdfbfkbndiaaDoor.Q
namespace Go.Proofs.YtlakdfbfkbndiaaDoor.Q
open Go.RowKit Go.Proofs.YtlakdfbfkbndiaaDoorW.PrintWords Go.Proofs.YtlakdfbfkbndiaaDoorW.PrintLast Go.Proofs.YtlakdfbfkbndiaaDoorW.PrintMore
attribute [local go_sem] max2_int min2_int max_two min_two max_three min_three max_four min_four   -- for this text's walks alone
set_option linter.unusedVariables false
set_option linter.unusedSimpArgs false
def laws_eqReNodeS.l0 : Nat → List (S49) → List (S49) → Int → Option (Bool)
 | 0,_,_,_=>none
 | k + 1,x0,x1,x5=>if x5 < (x0.length : Int) then (if 0 ≤ x5 then (if x5 < (x1.length : Int) then ((laws_eqReNode.f k ((rd_T49 x0 x5).f0) ((rd_T49 x0 x5).f1) ((rd_T49 x0 x5).f2) ((rd_T49 x0 x5).f3) ((rd_T49 x1 x5).f0) ((rd_T49 x1 x5).f1) ((rd_T49 x1 x5).f2) ((rd_T49 x1 x5).f3)).bind fun t210=>(if t210 = true then (laws_eqReNodeS.l0 k x0 x1 (wrap64 (x5 + 1))) else (some false))) else (none)) else (none)) else (some true)
def laws_eqReNodeS.f (k : Nat) (l0 : List (S49)) (l1 : List (S49)) : Option (Bool):=if (l0.length : Int) = (l1.length : Int) then (laws_eqReNodeS.l0 k l0 l1 0) else (some false)
def laws_eqReNodeS.T6 : Bool × List (List Nat × List Nat):=(true,[([],[]),([],[]),([0,1],[0,1]),([2],[2]),([],[]),([],[]),([4,5],[4,5]),([6],[6]),([3,7],[3,7]),([8],[8])])
def laws_eqReNodeS.B6 : List Nat:=[0,0,3,7,0,0,48,112,255,511]
theorem laws_eqReNodeS.tab6 : rtab .any (opsOf Tryd.f15 6) = laws_eqReNodeS.T6:=by kernel_rfl
theorem laws_eqReNodeS.bits6 : waitsOk laws_eqReNodeS.T6.2 laws_eqReNodeS.B6 = true:=by kernel_rfl
set_option maxHeartbeats 8000000 in
set_option maxRecDepth 100000 in
theorem laws_eqReNodeS.calls (k : Nat) (A0 : Option Addr) (c0 : Nat) (l0 : List (S49)) (A1 : Option Addr) (c1 : Nat) (l1 : List (S49)) (r : Bool) (w : World) (hr0 : Kd.C k49 w A0 l0.length l0) (hc0 : l0.length ≤ c0) (hr1 : Kd.C k49 w A1 l1.length l1) (hc1 : l1.length ≤ c1) (h : laws_eqReNodeS.f k l0 l1 = some r) :
  Calls Tryd.prog 15 #[.slice A0 l0.length c0,.slice A1 l1.length c1] w fun e w'=>e = .returned (.bool r) ∧ Below w.heap.size w w':=by
 have hu49:=Tryd.underlying49
 have HR0:=Aside0.mk hr0
 have HC0:=Aside0.mk hc0
 clear hr0 hc0
 have HR1:=Aside0.mk hr1
 have HC1:=Aside0.mk hc1
 clear hr1 hc1
 have HB:=Aside0.mk (Below.refl w.heap.size w)
 have H : (if (l0.length : Int) = (l1.length : Int) then (laws_eqReNodeS.l0 k l0 l1 0) else (some false)) = some r:=h
 clear h
 by_cases c3 : (l0.length : Int) = (l1.length : Int)
 ·rw [if_pos c3] at H
  have c3b0 : ((l0.length : Int) == (l1.length : Int)) = true:=beq_iff_eq.mpr c3
  have c3b1 : ((l0.length : Int) != (l1.length : Int)) = false:=bne_eq_false_iff_eq.mpr c3
  have c3b2 : (l0.length == l1.length) = true:=by first|simpa using c3|(simp at c3 ⊢;omega)
  clear c3
  have H':=Aside0.mk H
  clear H
  go_enter Tryd.func15,Tryd.ntmps15
  go_wp2
  go_loopg [5] k (fun kq v5 w'=>∃ (x5_1 : Int),v5 = .int .i64 x5_1 ∧ Aside0 (laws_eqReNodeS.l0 kq l0 l1 x5_1 = some r) ∧ Aside0 (kq ≤ k) ∧ Aside0 (Below w.heap.size w w'))
  case atStart=>exact ⟨(0),(by first|rfl|(simp;done)|(simp [*];done)),H',⟨Nat.le_refl _⟩,⟨by repeat (first|(with_reducible first|exact HB.out|apply below_alloc|apply pw_below_drewN|apply below_drew1)|exact HB.out)⟩⟩
  case round =>
   clear H'
   try clear c1
   try clear p2
   try clear c3
   try clear c3b0
   try clear c3b1
   try clear c3b2
   obtain ⟨x5_1,rfl,HA,HK1,HB⟩:=hrel
   cases gk with
   | zero=>exact absurd HA.out (by simp [laws_eqReNodeS.l0])
   | succ k1 =>
    have H:=HA.out
    clear HA
    simp only [laws_eqReNodeS.l0] at H
    by_cases c4 : x5_1 < (l0.length : Int)
    ·rw [if_pos c4] at H
     have c4b0 : decide (x5_1 < (l0.length : Int)) = true:=decide_eq_true c4
     clear c4
     by_cases c5 : 0 ≤ x5_1
     ·rw [if_pos c5] at H
      have c5b0 : decide (0 ≤ x5_1) = true:=decide_eq_true c5
      clear c5
      by_cases c6 : x5_1 < (l1.length : Int)
      ·rw [if_pos c6] at H
       have c6b0 : decide (x5_1 < (l1.length : Int)) = true:=decide_eq_true c6
       clear c6
       replace H:=Option.bind_eq_some_iff.mp H
       obtain ⟨t210,A70,H⟩:=H
       replace H : (if t210 = true then (laws_eqReNodeS.l0 k1 l0 l1 (wrap64 (x5_1 + 1))) else (some false)) = some r:=H
       have A7:=Aside0.mk A70
       clear A70
       by_cases c8 : t210 = true
       ·subst c8
        have H1 : (laws_eqReNodeS.l0 k1 l0 l1 (wrap64 (x5_1 + 1))) = some r:=by rw [if_pos rfl] at H;exact H
        clear H
        have H:=H1
        clear H1
        have H':=Aside0.mk H
        clear H
        try go_wp2
        have n0_:=Aside0.mk (below_drew1 HB.out)
        clear HB
        have HB:=n0_
        clear n0_
        have p208 : 0 ≤ (x5_1 : Int):=of_decide_eq_true (by first|(with_reducible assumption)|assumption)
        have q208 : x5_1 < (l0.length : Int):=of_decide_eq_true (by first|(with_reducible assumption)|assumption)
        obtain ⟨ad208,A208_3,c208_3,e208,hx208_0,hx208_1,hx208_2,hx208_3,hl208_3,hi208_3⟩:=at_T49 HR0.out x5_1 p208 q208
        have hw208_3:=hx208_3
        have hw208_2:=hx208_2
        have hw208_1:=hx208_1
        have hw208_0:=hx208_0
        cases e208
        replace hx208_0:=(HB.out.cell (World.block_lt_of_cell? w _ hx208_0)).trans hx208_0
        replace hx208_1:=(HB.out.cell (World.block_lt_of_cell? w _ hx208_1)).trans hx208_1
        replace hx208_2:=(HB.out.cell (World.block_lt_of_cell? w _ hx208_2)).trans hx208_2
        replace hx208_3:=(HB.out.cell (World.block_lt_of_cell? w _ hx208_3)).trans hx208_3
        have HR208_3:=Aside0.mk hi208_3
        have HC208_3:=Aside0.mk hl208_3
        clear hi208_3 hl208_3
        replace p208:=eq_true p208
        replace q208:=eq_true q208
        have p209 : 0 ≤ (x5_1 : Int):=of_decide_eq_true (by first|(with_reducible assumption)|assumption)
        have q209 : x5_1 < (l1.length : Int):=of_decide_eq_true (by first|(with_reducible assumption)|assumption)
        obtain ⟨ad209,A209_3,c209_3,e209,hx209_0,hx209_1,hx209_2,hx209_3,hl209_3,hi209_3⟩:=at_T49 HR1.out x5_1 p209 q209
        have hw209_3:=hx209_3
        have hw209_2:=hx209_2
        have hw209_1:=hx209_1
        have hw209_0:=hx209_0
        cases e209
        replace hx209_0:=(HB.out.cell (World.block_lt_of_cell? w _ hx209_0)).trans hx209_0
        replace hx209_1:=(HB.out.cell (World.block_lt_of_cell? w _ hx209_1)).trans hx209_1
        replace hx209_2:=(HB.out.cell (World.block_lt_of_cell? w _ hx209_2)).trans hx209_2
        replace hx209_3:=(HB.out.cell (World.block_lt_of_cell? w _ hx209_3)).trans hx209_3
        have HR209_3:=Aside0.mk hi209_3
        have HC209_3:=Aside0.mk hl209_3
        clear hi209_3 hl209_3
        replace p209:=eq_true p209
        replace q209:=eq_true q209
        refine start_ (n:=10) (S:=fun w'=>w'.cell? (ad208.add ((x5_1).toNat * 4)) = some (.int .i64 ((rd_T49 l0 x5_1).f0)) ∧ w'.cell? ⟨(ad208.add ((x5_1).toNat * 4)).block,(ad208.add ((x5_1).toNat * 4)).off + 1,none⟩ = some (.bool ((rd_T49 l0 x5_1).f1)) ∧ w'.cell? ⟨(ad208.add ((x5_1).toNat * 4)).block,(ad208.add ((x5_1).toNat * 4)).off + 2,none⟩ = some (.string ((rd_T49 l0 x5_1).f2)) ∧ w'.cell? ⟨(ad208.add ((x5_1).toNat * 4)).block,(ad208.add ((x5_1).toNat * 4)).off + 3,none⟩ = some (.slice A208_3 ((rd_T49 l0 x5_1).f3).length c208_3) ∧ w'.cell? (ad209.add ((x5_1).toNat * 4)) = some (.int .i64 ((rd_T49 l1 x5_1).f0)) ∧ w'.cell? ⟨(ad209.add ((x5_1).toNat * 4)).block,(ad209.add ((x5_1).toNat * 4)).off + 1,none⟩ = some (.bool ((rd_T49 l1 x5_1).f1)) ∧ w'.cell? ⟨(ad209.add ((x5_1).toNat * 4)).block,(ad209.add ((x5_1).toNat * 4)).off + 2,none⟩ = some (.string ((rd_T49 l1 x5_1).f2)) ∧ w'.cell? ⟨(ad209.add ((x5_1).toNat * 4)).block,(ad209.add ((x5_1).toNat * 4)).off + 3,none⟩ = some (.slice A209_3 ((rd_T49 l1 x5_1).f3).length c209_3)) (ds:=[]) #[false,false,false,false,false,false,false,false,false,false] (by kernel_rfl) rfl rfl ⟨((HB.out.cell (World.block_lt_of_cell? w _ hw208_0)).trans hw208_0),((HB.out.cell (World.block_lt_of_cell? w _ hw208_1)).trans hw208_1),((HB.out.cell (World.block_lt_of_cell? w _ hw208_2)).trans hw208_2),((HB.out.cell (World.block_lt_of_cell? w _ hw208_3)).trans hw208_3),((HB.out.cell (World.block_lt_of_cell? w _ hw209_0)).trans hw209_0),((HB.out.cell (World.block_lt_of_cell? w _ hw209_1)).trans hw209_1),((HB.out.cell (World.block_lt_of_cell? w _ hw209_2)).trans hw209_2),((HB.out.cell (World.block_lt_of_cell? w _ hw209_3)).trans hw209_3)⟩ (fun hHeld=>?_);refine with_tabW laws_eqReNodeS.tab6 laws_eqReNodeS.bits6 (fun HT_ HW_=>?_)
        generalize wr.drew = w9 at HB HR208_3 HR209_3 hx208_0 hx208_1 hx208_2 hx208_3 hx209_0 hx209_1 hx209_2 hx209_3 hHeld ⊢
        refine pure_ (i:=0) (N:=some 17) (v:=?_) (a':=?_) #[true,false,false,false,false,false,false,false,false,false] rfl rfl (any_of HT_.out (by kernel_rfl)) (fun _ _ _ h=>h) (Or.inl ⟨by rfl,?_⟩) ?_ ?_
        rotate_left
        ·intro w'
         go_simp
         first|with_reducible rfl|(rw [if_neg (by simp only [ByteArray.size_append,ByteArray.size_extract,eq_iff_iff,iff_true,iff_false] at *;omega)];try with_reducible rfl)
        rotate_left
        ·simp only [Act.put,List.setIfInBounds_toArray,List.set_cons_zero,List.set_cons_succ,i64_w,i32_w]
         rfl
        refine pure_ (i:=1) (N:=some 18) (v:=?_) (a':=?_) #[true,true,false,false,false,false,false,false,false,false] rfl rfl (any_of HT_.out (by kernel_rfl)) (fun _ _ _ h=>h) (Or.inl ⟨by rfl,?_⟩) ?_ ?_
        rotate_left
        ·intro w'
         go_simp
         first|with_reducible rfl|(rw [if_neg (by simp only [ByteArray.size_append,ByteArray.size_extract,eq_iff_iff,iff_true,iff_false] at *;omega)];try with_reducible rfl)
        rotate_left
        ·simp only [Act.put,List.setIfInBounds_toArray,List.set_cons_zero,List.set_cons_succ,i64_w,i32_w]
         rfl
        refine pure_ (i:=2) (N:=some 19) (v:=?_) (a':=?_) #[true,true,true,false,false,false,false,false,false,false] rfl rfl (any_of HT_.out (by kernel_rfl)) (fun _ _ _ h=>h) (Or.inl ⟨by rfl,?_⟩) ?_ ?_
        rotate_left
        ·intro w'
         go_simp
         first|with_reducible rfl|(rw [if_neg (by simp only [ByteArray.size_append,ByteArray.size_extract,eq_iff_iff,iff_true,iff_false] at *;omega)];try with_reducible rfl)
        rotate_left
        ·simp only [Act.put,List.setIfInBounds_toArray,List.set_cons_zero,List.set_cons_succ,i64_w,i32_w]
         rfl
        refine pure_ (i:=4) (N:=some 21) (v:=?_) (a':=?_) #[true,true,true,false,true,false,false,false,false,false] rfl rfl (any_of HT_.out (by kernel_rfl)) (fun _ _ _ h=>h) (Or.inl ⟨by rfl,?_⟩) ?_ ?_
        rotate_left
        ·intro w'
         go_simp
         first|with_reducible rfl|(rw [if_neg (by simp only [ByteArray.size_append,ByteArray.size_extract,eq_iff_iff,iff_true,iff_false] at *;omega)];try with_reducible rfl)
        rotate_left
        ·simp only [Act.put,List.setIfInBounds_toArray,List.set_cons_zero,List.set_cons_succ,i64_w,i32_w]
         rfl
        refine pure_ (i:=5) (N:=some 22) (v:=?_) (a':=?_) #[true,true,true,false,true,true,false,false,false,false] rfl rfl (any_of HT_.out (by kernel_rfl)) (fun _ _ _ h=>h) (Or.inl ⟨by rfl,?_⟩) ?_ ?_
        rotate_left
        ·intro w'
         go_simp
         first|with_reducible rfl|(rw [if_neg (by simp only [ByteArray.size_append,ByteArray.size_extract,eq_iff_iff,iff_true,iff_false] at *;omega)];try with_reducible rfl)
        rotate_left
        ·simp only [Act.put,List.setIfInBounds_toArray,List.set_cons_zero,List.set_cons_succ,i64_w,i32_w]
         rfl
        refine pure_ (i:=6) (N:=some 23) (v:=?_) (a':=?_) #[true,true,true,false,true,true,true,false,false,false] rfl rfl (any_of HT_.out (by kernel_rfl)) (fun _ _ _ h=>h) (Or.inl ⟨by rfl,?_⟩) ?_ ?_
        rotate_left
        ·intro w'
         go_simp
         first|with_reducible rfl|(rw [if_neg (by simp only [ByteArray.size_append,ByteArray.size_extract,eq_iff_iff,iff_true,iff_false] at *;omega)];try with_reducible rfl)
        rotate_left
        ·simp only [Act.put,List.setIfInBounds_toArray,List.set_cons_zero,List.set_cons_succ,i64_w,i32_w]
         rfl
        refine take_ (i:=3) (N:=some 20) (v:=?_) (a':=?_) #[true,true,true,true,true,true,true,false,false,false] rfl rfl (take_ofW HT_.out HW_.out (by kernel_rfl)) (fun _ _ _ h=>h) (Or.inl ⟨by rfl,?_⟩) hHeld ?_ ?_
        rotate_left
        ·rintro w' ⟨s0,s1,s2,s3,s4,s5,s6,s7⟩
         go_simp
         first|with_reducible rfl|(rw [if_neg (by simp only [ByteArray.size_append,ByteArray.size_extract,eq_iff_iff,iff_true,iff_false] at *;omega)];try with_reducible rfl)
        rotate_left
        ·simp only [Act.put,List.setIfInBounds_toArray,List.set_cons_zero,List.set_cons_succ,i64_w,i32_w]
         rfl
        refine take_ (i:=7) (N:=some 24) (v:=?_) (a':=?_) #[true,true,true,true,true,true,true,true,false,false] rfl rfl (take_ofW HT_.out HW_.out (by kernel_rfl)) (fun _ _ _ h=>h) (Or.inl ⟨by rfl,?_⟩) hHeld ?_ ?_
        rotate_left
        ·rintro w' ⟨s0,s1,s2,s3,s4,s5,s6,s7⟩
         go_simp
         first|with_reducible rfl|(rw [if_neg (by simp only [ByteArray.size_append,ByteArray.size_extract,eq_iff_iff,iff_true,iff_false] at *;omega)];try with_reducible rfl)
        rotate_left
        ·simp only [Act.put,List.setIfInBounds_toArray,List.set_cons_zero,List.set_cons_succ,i64_w,i32_w]
         rfl
        refine one_ (i:=8) (N:=some 25) #[true,true,true,true,true,true,true,true,true,false] rfl rfl (one_of HT_.out (by kernel_rfl)) (by decide) (fun K hK=>?_)
        refine goes_ Tryd.func43 (by kernel_rfl) rfl #[.agg #[.int .i64 ((rd_T49 l0 x5_1).f0),.bool ((rd_T49 l0 x5_1).f1),.string ((rd_T49 l0 x5_1).f2),.slice A208_3 ((rd_T49 l0 x5_1).f3).length c208_3],.agg #[.int .i64 ((rd_T49 l1 x5_1).f0),.bool ((rd_T49 l1 x5_1).f1),.string ((rd_T49 l1 x5_1).f2),.slice A209_3 ((rd_T49 l1 x5_1).f3).length c209_3]] (by rfl) rfl rfl (by (try simp only [List.map_toArray,List.map_cons,List.map_nil]);first|done|rfl|(simp only [List.length_drop,List.length_take];rfl)) ?_
        with_reducible refine (laws_eqReNode.calls k1 ((rd_T49 l0 x5_1).f0) ((rd_T49 l0 x5_1).f1) ((rd_T49 l0 x5_1).f2) _ _ ((rd_T49 l0 x5_1).f3) ((rd_T49 l1 x5_1).f0) ((rd_T49 l1 x5_1).f1) ((rd_T49 l1 x5_1).f2) _ _ ((rd_T49 l1 x5_1).f3) true _ ?side1 ?side2 ?side3 ?side4 A7.out).mono ?_
        (case side1=>repeat (first|exact (Kd.C_below HR208_3.out HB.out)|(with_reducible refine Kd.C_alloc ?_ _)|(with_reducible refine Kd.C_drewN ?_ _)|(with_reducible refine Kd.C_drew ?_)))
        (case side2=>exact HC208_3.out)
        (case side3=>repeat (first|exact (Kd.C_below HR209_3.out HB.out)|(with_reducible refine Kd.C_alloc ?_ _)|(with_reducible refine Kd.C_drewN ?_ _)|(with_reducible refine Kd.C_drew ?_)))
        (case side4=>exact HC209_3.out)
        rintro e w10 ⟨rfl,hb⟩
        refine ⟨_,rfl,?_⟩
        have n0_:=Aside0.mk (below_step (by repeat (first|(with_reducible first|exact HB.out|apply below_alloc|apply pw_below_drewN|apply below_drew1)|exact HB.out)) hb)
        clear HB
        have HB:=n0_
        clear n0_
        (try clear hb)
        (try clear hb2)
        (try clear hk)
        (try clear hi)
        refine hK.out _ _ ⟨((HB.out.cell (World.block_lt_of_cell? w _ hw208_0)).trans hw208_0),((HB.out.cell (World.block_lt_of_cell? w _ hw208_1)).trans hw208_1),((HB.out.cell (World.block_lt_of_cell? w _ hw208_2)).trans hw208_2),((HB.out.cell (World.block_lt_of_cell? w _ hw208_3)).trans hw208_3),((HB.out.cell (World.block_lt_of_cell? w _ hw209_0)).trans hw209_0),((HB.out.cell (World.block_lt_of_cell? w _ hw209_1)).trans hw209_1),((HB.out.cell (World.block_lt_of_cell? w _ hw209_2)).trans hw209_2),((HB.out.cell (World.block_lt_of_cell? w _ hw209_3)).trans hw209_3)⟩ (fun hHeld=>?_)
        clear hK K
        refine norm_ (a':=?_) ?_ ?_
        rotate_left
        ·show Act.put _ (some 25) _ = _
         simp only [Act.put,List.setIfInBounds_toArray,List.set_cons_zero,List.set_cons_succ,i64_w,i32_w]
         rfl
        refine pure_ (i:=9) (N:=some 26) (v:=?_) (a':=?_) #[true,true,true,true,true,true,true,true,true,true] rfl rfl (any_of HT_.out (by kernel_rfl)) (fun _ _ _ h=>h) (Or.inl ⟨by rfl,?_⟩) ?_ ?_
        rotate_left
        ·intro w'
         go_simp
         first|with_reducible rfl|(rw [if_neg (by simp only [ByteArray.size_append,ByteArray.size_extract,eq_iff_iff,iff_true,iff_false] at *;omega)];try with_reducible rfl)
        rotate_left
        ·simp only [Act.put,List.setIfInBounds_toArray,List.set_cons_zero,List.set_cons_succ,i64_w,i32_w]
         rfl
        refine done_ (done_of HT_.out (by kernel_rfl)) ?_
        try go_wp2
        go_roundg k1
        case measure=>have:=HK1.out;omega
        case rel=>exact ⟨(wrap64 (x5_1 + 1)),(by first|rfl|(simp;done)|(simp [*];done)),H',⟨by have:=HK1.out;omega⟩,⟨by repeat (first|(with_reducible first|exact HB.out|apply below_alloc|apply pw_below_drewN|apply below_drew1)|exact HB.out)⟩⟩
       ·replace c8:=Bool.eq_false_iff.mpr c8
        subst c8
        have H1 : (some false) = some r:=by rw [if_neg (show ¬ (false = true) by decide)] at H;exact H
        clear H
        have H:=H1
        clear H1
        obtain rfl:=Option.some.inj H
        try go_wp2
        have n0_:=Aside0.mk (below_drew1 HB.out)
        clear HB
        have HB:=n0_
        clear n0_
        have p208 : 0 ≤ (x5_1 : Int):=of_decide_eq_true (by first|(with_reducible assumption)|assumption)
        have q208 : x5_1 < (l0.length : Int):=of_decide_eq_true (by first|(with_reducible assumption)|assumption)
        obtain ⟨ad208,A208_3,c208_3,e208,hx208_0,hx208_1,hx208_2,hx208_3,hl208_3,hi208_3⟩:=at_T49 HR0.out x5_1 p208 q208
        have hw208_3:=hx208_3
        have hw208_2:=hx208_2
        have hw208_1:=hx208_1
        have hw208_0:=hx208_0
        cases e208
        replace hx208_0:=(HB.out.cell (World.block_lt_of_cell? w _ hx208_0)).trans hx208_0
        replace hx208_1:=(HB.out.cell (World.block_lt_of_cell? w _ hx208_1)).trans hx208_1
        replace hx208_2:=(HB.out.cell (World.block_lt_of_cell? w _ hx208_2)).trans hx208_2
        replace hx208_3:=(HB.out.cell (World.block_lt_of_cell? w _ hx208_3)).trans hx208_3
        have HR208_3:=Aside0.mk hi208_3
        have HC208_3:=Aside0.mk hl208_3
        clear hi208_3 hl208_3
        replace p208:=eq_true p208
        replace q208:=eq_true q208
        have p209 : 0 ≤ (x5_1 : Int):=of_decide_eq_true (by first|(with_reducible assumption)|assumption)
        have q209 : x5_1 < (l1.length : Int):=of_decide_eq_true (by first|(with_reducible assumption)|assumption)
        obtain ⟨ad209,A209_3,c209_3,e209,hx209_0,hx209_1,hx209_2,hx209_3,hl209_3,hi209_3⟩:=at_T49 HR1.out x5_1 p209 q209
        have hw209_3:=hx209_3
        have hw209_2:=hx209_2
        have hw209_1:=hx209_1
        have hw209_0:=hx209_0
        cases e209
        replace hx209_0:=(HB.out.cell (World.block_lt_of_cell? w _ hx209_0)).trans hx209_0
        replace hx209_1:=(HB.out.cell (World.block_lt_of_cell? w _ hx209_1)).trans hx209_1
        replace hx209_2:=(HB.out.cell (World.block_lt_of_cell? w _ hx209_2)).trans hx209_2
        replace hx209_3:=(HB.out.cell (World.block_lt_of_cell? w _ hx209_3)).trans hx209_3
        have HR209_3:=Aside0.mk hi209_3
        have HC209_3:=Aside0.mk hl209_3
        clear hi209_3 hl209_3
        replace p209:=eq_true p209
        replace q209:=eq_true q209
        refine start_ (n:=10) (S:=fun w'=>w'.cell? (ad208.add ((x5_1).toNat * 4)) = some (.int .i64 ((rd_T49 l0 x5_1).f0)) ∧ w'.cell? ⟨(ad208.add ((x5_1).toNat * 4)).block,(ad208.add ((x5_1).toNat * 4)).off + 1,none⟩ = some (.bool ((rd_T49 l0 x5_1).f1)) ∧ w'.cell? ⟨(ad208.add ((x5_1).toNat * 4)).block,(ad208.add ((x5_1).toNat * 4)).off + 2,none⟩ = some (.string ((rd_T49 l0 x5_1).f2)) ∧ w'.cell? ⟨(ad208.add ((x5_1).toNat * 4)).block,(ad208.add ((x5_1).toNat * 4)).off + 3,none⟩ = some (.slice A208_3 ((rd_T49 l0 x5_1).f3).length c208_3) ∧ w'.cell? (ad209.add ((x5_1).toNat * 4)) = some (.int .i64 ((rd_T49 l1 x5_1).f0)) ∧ w'.cell? ⟨(ad209.add ((x5_1).toNat * 4)).block,(ad209.add ((x5_1).toNat * 4)).off + 1,none⟩ = some (.bool ((rd_T49 l1 x5_1).f1)) ∧ w'.cell? ⟨(ad209.add ((x5_1).toNat * 4)).block,(ad209.add ((x5_1).toNat * 4)).off + 2,none⟩ = some (.string ((rd_T49 l1 x5_1).f2)) ∧ w'.cell? ⟨(ad209.add ((x5_1).toNat * 4)).block,(ad209.add ((x5_1).toNat * 4)).off + 3,none⟩ = some (.slice A209_3 ((rd_T49 l1 x5_1).f3).length c209_3)) (ds:=[]) #[false,false,false,false,false,false,false,false,false,false] (by kernel_rfl) rfl rfl ⟨((HB.out.cell (World.block_lt_of_cell? w _ hw208_0)).trans hw208_0),((HB.out.cell (World.block_lt_of_cell? w _ hw208_1)).trans hw208_1),((HB.out.cell (World.block_lt_of_cell? w _ hw208_2)).trans hw208_2),((HB.out.cell (World.block_lt_of_cell? w _ hw208_3)).trans hw208_3),((HB.out.cell (World.block_lt_of_cell? w _ hw209_0)).trans hw209_0),((HB.out.cell (World.block_lt_of_cell? w _ hw209_1)).trans hw209_1),((HB.out.cell (World.block_lt_of_cell? w _ hw209_2)).trans hw209_2),((HB.out.cell (World.block_lt_of_cell? w _ hw209_3)).trans hw209_3)⟩ (fun hHeld=>?_);refine with_tabW laws_eqReNodeS.tab6 laws_eqReNodeS.bits6 (fun HT_ HW_=>?_)
        generalize wr.drew = w11 at HB HR208_3 HR209_3 hx208_0 hx208_1 hx208_2 hx208_3 hx209_0 hx209_1 hx209_2 hx209_3 hHeld ⊢
        refine pure_ (i:=0) (N:=some 17) (v:=?_) (a':=?_) #[true,false,false,false,false,false,false,false,false,false] rfl rfl (any_of HT_.out (by kernel_rfl)) (fun _ _ _ h=>h) (Or.inl ⟨by rfl,?_⟩) ?_ ?_
        rotate_left
        ·intro w'
         go_simp
         first|with_reducible rfl|(rw [if_neg (by simp only [ByteArray.size_append,ByteArray.size_extract,eq_iff_iff,iff_true,iff_false] at *;omega)];try with_reducible rfl)
        rotate_left
        ·simp only [Act.put,List.setIfInBounds_toArray,List.set_cons_zero,List.set_cons_succ,i64_w,i32_w]
         rfl
        refine pure_ (i:=1) (N:=some 18) (v:=?_) (a':=?_) #[true,true,false,false,false,false,false,false,false,false] rfl rfl (any_of HT_.out (by kernel_rfl)) (fun _ _ _ h=>h) (Or.inl ⟨by rfl,?_⟩) ?_ ?_
        rotate_left
        ·intro w'
         go_simp
         first|with_reducible rfl|(rw [if_neg (by simp only [ByteArray.size_append,ByteArray.size_extract,eq_iff_iff,iff_true,iff_false] at *;omega)];try with_reducible rfl)
        rotate_left
        ·simp only [Act.put,List.setIfInBounds_toArray,List.set_cons_zero,List.set_cons_succ,i64_w,i32_w]
         rfl
        refine pure_ (i:=2) (N:=some 19) (v:=?_) (a':=?_) #[true,true,true,false,false,false,false,false,false,false] rfl rfl (any_of HT_.out (by kernel_rfl)) (fun _ _ _ h=>h) (Or.inl ⟨by rfl,?_⟩) ?_ ?_
        rotate_left
        ·intro w'
         go_simp
         first|with_reducible rfl|(rw [if_neg (by simp only [ByteArray.size_append,ByteArray.size_extract,eq_iff_iff,iff_true,iff_false] at *;omega)];try with_reducible rfl)
        rotate_left
        ·simp only [Act.put,List.setIfInBounds_toArray,List.set_cons_zero,List.set_cons_succ,i64_w,i32_w]
         rfl
        refine pure_ (i:=4) (N:=some 21) (v:=?_) (a':=?_) #[true,true,true,false,true,false,false,false,false,false] rfl rfl (any_of HT_.out (by kernel_rfl)) (fun _ _ _ h=>h) (Or.inl ⟨by rfl,?_⟩) ?_ ?_
        rotate_left
        ·intro w'
         go_simp
         first|with_reducible rfl|(rw [if_neg (by simp only [ByteArray.size_append,ByteArray.size_extract,eq_iff_iff,iff_true,iff_false] at *;omega)];try with_reducible rfl)
        rotate_left
        ·simp only [Act.put,List.setIfInBounds_toArray,List.set_cons_zero,List.set_cons_succ,i64_w,i32_w]
         rfl
        refine pure_ (i:=5) (N:=some 22) (v:=?_) (a':=?_) #[true,true,true,false,true,true,false,false,false,false] rfl rfl (any_of HT_.out (by kernel_rfl)) (fun _ _ _ h=>h) (Or.inl ⟨by rfl,?_⟩) ?_ ?_
        rotate_left
        ·intro w'
         go_simp
         first|with_reducible rfl|(rw [if_neg (by simp only [ByteArray.size_append,ByteArray.size_extract,eq_iff_iff,iff_true,iff_false] at *;omega)];try with_reducible rfl)
        rotate_left
        ·simp only [Act.put,List.setIfInBounds_toArray,List.set_cons_zero,List.set_cons_succ,i64_w,i32_w]
         rfl
        refine pure_ (i:=6) (N:=some 23) (v:=?_) (a':=?_) #[true,true,true,false,true,true,true,false,false,false] rfl rfl (any_of HT_.out (by kernel_rfl)) (fun _ _ _ h=>h) (Or.inl ⟨by rfl,?_⟩) ?_ ?_
        rotate_left
        ·intro w'
         go_simp
         first|with_reducible rfl|(rw [if_neg (by simp only [ByteArray.size_append,ByteArray.size_extract,eq_iff_iff,iff_true,iff_false] at *;omega)];try with_reducible rfl)
        rotate_left
        ·simp only [Act.put,List.setIfInBounds_toArray,List.set_cons_zero,List.set_cons_succ,i64_w,i32_w]
         rfl
        refine take_ (i:=3) (N:=some 20) (v:=?_) (a':=?_) #[true,true,true,true,true,true,true,false,false,false] rfl rfl (take_ofW HT_.out HW_.out (by kernel_rfl)) (fun _ _ _ h=>h) (Or.inl ⟨by rfl,?_⟩) hHeld ?_ ?_
        rotate_left
        ·rintro w' ⟨s0,s1,s2,s3,s4,s5,s6,s7⟩
         go_simp
         first|with_reducible rfl|(rw [if_neg (by simp only [ByteArray.size_append,ByteArray.size_extract,eq_iff_iff,iff_true,iff_false] at *;omega)];try with_reducible rfl)
        rotate_left
        ·simp only [Act.put,List.setIfInBounds_toArray,List.set_cons_zero,List.set_cons_succ,i64_w,i32_w]
         rfl
        refine take_ (i:=7) (N:=some 24) (v:=?_) (a':=?_) #[true,true,true,true,true,true,true,true,false,false] rfl rfl (take_ofW HT_.out HW_.out (by kernel_rfl)) (fun _ _ _ h=>h) (Or.inl ⟨by rfl,?_⟩) hHeld ?_ ?_
        rotate_left
        ·rintro w' ⟨s0,s1,s2,s3,s4,s5,s6,s7⟩
         go_simp
         first|with_reducible rfl|(rw [if_neg (by simp only [ByteArray.size_append,ByteArray.size_extract,eq_iff_iff,iff_true,iff_false] at *;omega)];try with_reducible rfl)
        rotate_left
        ·simp only [Act.put,List.setIfInBounds_toArray,List.set_cons_zero,List.set_cons_succ,i64_w,i32_w]
         rfl
        refine one_ (i:=8) (N:=some 25) #[true,true,true,true,true,true,true,true,true,false] rfl rfl (one_of HT_.out (by kernel_rfl)) (by decide) (fun K hK=>?_)
        refine goes_ Tryd.func43 (by kernel_rfl) rfl #[.agg #[.int .i64 ((rd_T49 l0 x5_1).f0),.bool ((rd_T49 l0 x5_1).f1),.string ((rd_T49 l0 x5_1).f2),.slice A208_3 ((rd_T49 l0 x5_1).f3).length c208_3],.agg #[.int .i64 ((rd_T49 l1 x5_1).f0),.bool ((rd_T49 l1 x5_1).f1),.string ((rd_T49 l1 x5_1).f2),.slice A209_3 ((rd_T49 l1 x5_1).f3).length c209_3]] (by rfl) rfl rfl (by (try simp only [List.map_toArray,List.map_cons,List.map_nil]);first|done|rfl|(simp only [List.length_drop,List.length_take];rfl)) ?_
        with_reducible refine (laws_eqReNode.calls k1 ((rd_T49 l0 x5_1).f0) ((rd_T49 l0 x5_1).f1) ((rd_T49 l0 x5_1).f2) _ _ ((rd_T49 l0 x5_1).f3) ((rd_T49 l1 x5_1).f0) ((rd_T49 l1 x5_1).f1) ((rd_T49 l1 x5_1).f2) _ _ ((rd_T49 l1 x5_1).f3) false _ ?side1 ?side2 ?side3 ?side4 A7.out).mono ?_
        (case side1=>repeat (first|exact (Kd.C_below HR208_3.out HB.out)|(with_reducible refine Kd.C_alloc ?_ _)|(with_reducible refine Kd.C_drewN ?_ _)|(with_reducible refine Kd.C_drew ?_)))
        (case side2=>exact HC208_3.out)
        (case side3=>repeat (first|exact (Kd.C_below HR209_3.out HB.out)|(with_reducible refine Kd.C_alloc ?_ _)|(with_reducible refine Kd.C_drewN ?_ _)|(with_reducible refine Kd.C_drew ?_)))
        (case side4=>exact HC209_3.out)
        rintro e w12 ⟨rfl,hb⟩
        refine ⟨_,rfl,?_⟩
        have n0_:=Aside0.mk (below_step (by repeat (first|(with_reducible first|exact HB.out|apply below_alloc|apply pw_below_drewN|apply below_drew1)|exact HB.out)) hb)
        clear HB
        have HB:=n0_
        clear n0_
        (try clear hb)
        (try clear hb2)
        (try clear hk)
        (try clear hi)
        refine hK.out _ _ ⟨((HB.out.cell (World.block_lt_of_cell? w _ hw208_0)).trans hw208_0),((HB.out.cell (World.block_lt_of_cell? w _ hw208_1)).trans hw208_1),((HB.out.cell (World.block_lt_of_cell? w _ hw208_2)).trans hw208_2),((HB.out.cell (World.block_lt_of_cell? w _ hw208_3)).trans hw208_3),((HB.out.cell (World.block_lt_of_cell? w _ hw209_0)).trans hw209_0),((HB.out.cell (World.block_lt_of_cell? w _ hw209_1)).trans hw209_1),((HB.out.cell (World.block_lt_of_cell? w _ hw209_2)).trans hw209_2),((HB.out.cell (World.block_lt_of_cell? w _ hw209_3)).trans hw209_3)⟩ (fun hHeld=>?_)
        clear hK K
        refine norm_ (a':=?_) ?_ ?_
        rotate_left
        ·show Act.put _ (some 25) _ = _
         simp only [Act.put,List.setIfInBounds_toArray,List.set_cons_zero,List.set_cons_succ,i64_w,i32_w]
         rfl
        refine pure_ (i:=9) (N:=some 26) (v:=?_) (a':=?_) #[true,true,true,true,true,true,true,true,true,true] rfl rfl (any_of HT_.out (by kernel_rfl)) (fun _ _ _ h=>h) (Or.inl ⟨by rfl,?_⟩) ?_ ?_
        rotate_left
        ·intro w'
         go_simp
         first|with_reducible rfl|(rw [if_neg (by simp only [ByteArray.size_append,ByteArray.size_extract,eq_iff_iff,iff_true,iff_false] at *;omega)];try with_reducible rfl)
        rotate_left
        ·simp only [Act.put,List.setIfInBounds_toArray,List.set_cons_zero,List.set_cons_succ,i64_w,i32_w]
         rfl
        refine done_ (done_of HT_.out (by kernel_rfl)) ?_
        try go_wp2
        go_ret
        exact ⟨by first|rfl|(simp [errW_none,errW_some] <;> rfl)|(simp [*,errW_none,errW_some] <;> rfl),by repeat (first|(with_reducible first|exact HB.out|apply below_alloc|apply pw_below_drewN|apply below_drew1)|exact HB.out)⟩
      ·rw [if_neg c6] at H
       exact absurd H (by simp)
     ·rw [if_neg c5] at H
      exact absurd H (by simp)
    ·rw [if_neg c4] at H
     have c4b0 : decide (x5_1 < (l0.length : Int)) = false:=decide_eq_false c4
     clear c4
     obtain rfl:=Option.some.inj H
     go_wp2
     go_ret
     exact ⟨by first|rfl|(simp [errW_none,errW_some] <;> rfl)|(simp [*,errW_none,errW_some] <;> rfl),by repeat (first|(with_reducible first|exact HB.out|apply below_alloc|apply pw_below_drewN|apply below_drew1)|exact HB.out)⟩
 ·rw [if_neg c3] at H
  have c3b0 : ((l0.length : Int) == (l1.length : Int)) = false:=beq_eq_false_iff_ne.mpr c3
  have c3b1 : ((l0.length : Int) != (l1.length : Int)) = true:=bne_iff_ne.mpr c3
  have c3b2 : (l0.length == l1.length) = false:=by first|simpa using c3|(simp at c3 ⊢;omega)
  obtain rfl:=Option.some.inj H
  go_enter Tryd.func15,Tryd.ntmps15
  go_wp2
  go_ret
  exact ⟨by first|rfl|(simp [errW_none,errW_some] <;> rfl)|(simp [*,errW_none,errW_some] <;> rfl),by repeat (first|(with_reducible first|exact HB.out|apply below_alloc|apply pw_below_drewN|apply below_drew1)|exact HB.out)⟩
mutual
def spec_l2sub.j0 : Nat → List (S49) → ByteArray → ByteArray → Bool → Option (ByteArray × Int)
 | 0,_,_,_,_=>none
 | k + 1,x0,x1,x2,x21=>if x21 = true then (some ((⟨#[]⟩ : ByteArray),(-1))) else ((spec_l2ways.f x0).bind fun bt273=>(spec_l2sub.l0 k x0 x1 x2 (⟨#[]⟩ : ByteArray) 0 0 bt273.1 bt273.2))
def spec_l2sub.l0 : Nat → List (S49) → ByteArray → ByteArray → ByteArray → Int → Int → List (S85) → Int → Option (ByteArray × Int)
 | 0,_,_,_,_,_,_,_,_=>none
 | k + 1,x0,x1,x2,x9,x10,x11,x278000,x278001=>if x11 ≤ (x1.size : Int) then ((spec_l2ends.f k x278000 x278001 x0 x1 x11).bind fun t278=>(if (t278.length : Int) = 0 then (if x11 < (x1.size : Int) then (if 0 ≤ x11 then (if x11 ≤ (wrap64 (x11 + 1)) then (if (wrap64 (x11 + 1)) ≤ (x1.size : Int) then (if x9.size + (x1.extract (x11 : Int).toNat ((wrap64 (x11 + 1)) : Int).toNat).size ≤ 9223372036854775807 then (spec_l2sub.l0 k x0 x1 x2 (x9 ++ (x1.extract (x11 : Int).toNat ((wrap64 (x11 + 1)) : Int).toNat)) x10 (wrap64 (x11 + 1)) x278000 x278001) else (none)) else (none)) else (none)) else (none)) else (spec_l2sub.l0 k x0 x1 x2 x9 x10 (wrap64 (x11 + 1)) x278000 x278001)) else (if 0 ≤ (wrap64 ((t278.length : Int) - 1)) then (if (wrap64 ((t278.length : Int) - 1)) < (t278.length : Int) then (if x9.size + x2.size ≤ 9223372036854775807 then (if (rd t278 (wrap64 ((t278.length : Int) - 1))) = x11 then (if x11 < (x1.size : Int) then (if 0 ≤ x11 then (if x11 ≤ (wrap64 (x11 + 1)) then (if (wrap64 (x11 + 1)) ≤ (x1.size : Int) then (if (x9 ++ x2).size + (x1.extract (x11 : Int).toNat ((wrap64 (x11 + 1)) : Int).toNat).size ≤ 9223372036854775807 then (if (((x9 ++ x2) ++ (x1.extract (x11 : Int).toNat ((wrap64 (x11 + 1)) : Int).toNat)).size : Int) > 1000 then (if 0 ≤ 1000 then (if 1000 ≤ (((x9 ++ x2) ++ (x1.extract (x11 : Int).toNat ((wrap64 (x11 + 1)) : Int).toNat)).size : Int) then (spec_l2sub.l0 k x0 x1 x2 (((x9 ++ x2) ++ (x1.extract (x11 : Int).toNat ((wrap64 (x11 + 1)) : Int).toNat)).extract 0 1000) (wrap64 (x10 + 1)) (wrap64 ((rd t278 (wrap64 ((t278.length : Int) - 1))) + 1)) x278000 x278001) else (none)) else (none)) else (spec_l2sub.l0 k x0 x1 x2 ((x9 ++ x2) ++ (x1.extract (x11 : Int).toNat ((wrap64 (x11 + 1)) : Int).toNat)) (wrap64 (x10 + 1)) (wrap64 ((rd t278 (wrap64 ((t278.length : Int) - 1))) + 1)) x278000 x278001)) else (none)) else (none)) else (none)) else (none)) else (if ((x9 ++ x2).size : Int) > 1000 then (if 0 ≤ 1000 then (if 1000 ≤ ((x9 ++ x2).size : Int) then (spec_l2sub.l0 k x0 x1 x2 ((x9 ++ x2).extract 0 1000) (wrap64 (x10 + 1)) (wrap64 ((rd t278 (wrap64 ((t278.length : Int) - 1))) + 1)) x278000 x278001) else (none)) else (none)) else (spec_l2sub.l0 k x0 x1 x2 (x9 ++ x2) (wrap64 (x10 + 1)) (wrap64 ((rd t278 (wrap64 ((t278.length : Int) - 1))) + 1)) x278000 x278001))) else (if ((x9 ++ x2).size : Int) > 1000 then (if 0 ≤ 1000 then (if 1000 ≤ ((x9 ++ x2).size : Int) then (spec_l2sub.l0 k x0 x1 x2 ((x9 ++ x2).extract 0 1000) (wrap64 (x10 + 1)) (rd t278 (wrap64 ((t278.length : Int) - 1))) x278000 x278001) else (none)) else (none)) else (spec_l2sub.l0 k x0 x1 x2 (x9 ++ x2) (wrap64 (x10 + 1)) (rd t278 (wrap64 ((t278.length : Int) - 1))) x278000 x278001))) else (none)) else (none)) else (none)))) else (some (x9,x10))
end
def spec_l2sub.f (k : Nat) (l0 : List (S49)) (a1 : ByteArray) (a2 : ByteArray) : Option (ByteArray × Int):=(spec_ReOk.f k l0).bind fun t272=>(if t272 = true then (spec_l2sub.j0 k l0 a1 a2 (decide ((a1.size : Int) > 500))) else (spec_l2sub.j0 k l0 a1 a2 true))
end Go.Proofs.YtlakdfbfkbndiaaDoor.Q
namespace Go.Proofs.YtlakdfbfkbndiaaDoor.Q
open Go.RowKit Go.Proofs.YtlakdfbfkbndiaaDoorW.PrintWords Go.Proofs.YtlakdfbfkbndiaaDoorW.PrintLast Go.Proofs.YtlakdfbfkbndiaaDoorW.PrintMore
attribute [local go_sem] max2_int min2_int max_two min_two max_three min_three max_four min_four   -- for this text's walks alone
set_option linter.unusedVariables false
set_option linter.unusedSimpArgs false
attribute [-simp] ByteArray.size_append ByteArray.size_extract
set_option maxHeartbeats 8000000 in
set_option maxRecDepth 100000 in
theorem spec_l2sub.calls (k : Nat) (A0 : Option Addr) (c0 : Nat) (l0 : List (S49)) (a1 : ByteArray) (a2 : ByteArray) (r1 : ByteArray) (r2 : Int) (w : World) (hr0 : Kd.C k49 w A0 l0.length l0) (hc0 : l0.length ≤ c0) (h : spec_l2sub.f k l0 a1 a2 = some (r1,r2)) :
  Calls Tryd.prog 47 #[.slice A0 l0.length c0,.string a1,.string a2] w fun e w'=>e = .returned (.tuple #[.string r1,.int .i64 r2]) ∧ Below w.heap.size w w':=by
 have hu59:=Tryd.underlying59
 have HR0:=Aside0.mk hr0
 have HC0:=Aside0.mk hc0
 clear hr0 hc0
 have HB:=Aside0.mk (Below.refl w.heap.size w)
 have H : ((spec_ReOk.f k l0).bind fun t272=>(if t272 = true then (spec_l2sub.j0 k l0 a1 a2 (decide ((a1.size : Int) > 500))) else (spec_l2sub.j0 k l0 a1 a2 true))) = some (r1,r2):=h
 clear h
 have HC4:=Aside0.mk H
 clear H
 go_enter Tryd.func47,Tryd.ntmps47
 go_upto_region 1 with (fail)
 go_cut [21] (fun v21 wc=>∃ (kq : Nat) (x21_3 : Bool),v21 = .bool x21_3 ∧ Aside0 (spec_l2sub.j0 kq l0 a1 a2 x21_3 = some (r1,r2)) ∧ Aside0 (kq ≤ k) ∧ Aside0 (Below w.heap.size w wc))
 case first =>
  have H:=HC4.out
  clear HC4
  replace H:=Option.bind_eq_some_iff.mp H
  obtain ⟨t272,A50,H⟩:=H
  replace H : (if t272 = true then (spec_l2sub.j0 k l0 a1 a2 (decide ((a1.size : Int) > 500))) else (spec_l2sub.j0 k l0 a1 a2 true)) = some (r1,r2):=H
  have A5:=Aside0.mk A50
  clear A50
  by_cases c6 : t272 = true
  ·subst c6
   have H1 : (spec_l2sub.j0 k l0 a1 a2 (decide ((a1.size : Int) > 500))) = some (r1,r2):=by rw [if_pos rfl] at H;exact H
   clear H
   have H:=H1
   clear H1
   have H':=Aside0.mk H
   clear H
   go_wp2_with (first|((with_reducible refine gate_callee (f:=29) rfl ?_);refine goesL_ (some 15) rfl rfl Tryd.func29 (by kernel_rfl) rfl #[.slice A0 l0.length c0] rfl (by (try simp only [List.map_toArray,List.map_cons,List.map_nil]);first|done|rfl|(simp only [List.length_drop,List.length_take];rfl)) ?_;(with_reducible refine (spec_ReOk.calls k _ _ l0 true _ ?side1 ?side2 A5.out).mono ?_);(case side1=>repeat (first|exact (Kd.C_below HR0.out HB.out)|(with_reducible refine Kd.C_alloc ?_ _)|(with_reducible refine Kd.C_drewN ?_ _)|(with_reducible refine Kd.C_drew ?_)));(case side2=>exact HC0.out);rintro e w7 ⟨rfl,hb⟩;refine ⟨_,rfl,?_⟩;have n0_:=Aside0.mk (below_step (by repeat (first|(with_reducible first|exact HB.out|apply below_alloc|apply pw_below_drewN|apply below_drew1)|exact HB.out)) hb);clear HB;have HB:=n0_;clear n0_;(try clear hb);(try clear hb2);(try clear hk);(try clear hi)))
   go_meet
   case rel=>exact ⟨_,(decide ((a1.size : Int) > 500)),(by first|rfl|(simp;done)|(simp [*];done)),H',⟨by first|omega|exact Nat.le_refl _⟩,⟨by repeat (first|(with_reducible first|exact HB.out|apply below_alloc|apply pw_below_drewN|apply below_drew1)|exact HB.out)⟩⟩
  ·replace c6:=Bool.eq_false_iff.mpr c6
   subst c6
   have H1 : (spec_l2sub.j0 k l0 a1 a2 true) = some (r1,r2):=by rw [if_neg (show ¬ (false = true) by decide)] at H;exact H
   clear H
   have H:=H1
   clear H1
   have H':=Aside0.mk H
   clear H
   go_wp2_with (first|((with_reducible refine gate_callee (f:=29) rfl ?_);refine goesL_ (some 15) rfl rfl Tryd.func29 (by kernel_rfl) rfl #[.slice A0 l0.length c0] rfl (by (try simp only [List.map_toArray,List.map_cons,List.map_nil]);first|done|rfl|(simp only [List.length_drop,List.length_take];rfl)) ?_;(with_reducible refine (spec_ReOk.calls k _ _ l0 false _ ?side1 ?side2 A5.out).mono ?_);(case side1=>repeat (first|exact (Kd.C_below HR0.out HB.out)|(with_reducible refine Kd.C_alloc ?_ _)|(with_reducible refine Kd.C_drewN ?_ _)|(with_reducible refine Kd.C_drew ?_)));(case side2=>exact HC0.out);rintro e w8 ⟨rfl,hb⟩;refine ⟨_,rfl,?_⟩;have n0_:=Aside0.mk (below_step (by repeat (first|(with_reducible first|exact HB.out|apply below_alloc|apply pw_below_drewN|apply below_drew1)|exact HB.out)) hb);clear HB;have HB:=n0_;clear n0_;(try clear hb);(try clear hb2);(try clear hk);(try clear hi)))
   go_meet
   case rel=>exact ⟨_,(true),(by first|rfl|(simp;done)|(simp [*];done)),H',⟨by first|omega|exact Nat.le_refl _⟩,⟨by repeat (first|(with_reducible first|exact HB.out|apply below_alloc|apply pw_below_drewN|apply below_drew1)|exact HB.out)⟩⟩
 case rest =>
  clear HC4
  try clear c2
  try clear p2
  try clear c4
  try clear c6
  obtain ⟨kq,x21_3,rfl,HA,HJ3,HB⟩:=hcut
  cases kq with
  | zero=>exact absurd HA.out (by simp [spec_l2sub.j0])
  | succ kj3 =>
   have H:=HA.out
   clear HA
   simp only [spec_l2sub.j0] at H
   by_cases c9 : x21_3 = true
   ·subst c9
    have H1 : (some ((⟨#[]⟩ : ByteArray),(-1))) = some (r1,r2):=by rw [if_pos rfl] at H;exact H
    clear H
    have H:=H1
    clear H1
    simp only [Option.some.injEq,Prod.mk.injEq] at H
    obtain ⟨rfl,rfl⟩:=H
    go_wp2
    go_ret2
    exact ⟨by first|rfl|(simp [errW_none,errW_some] <;> rfl)|(simp [*,errW_none,errW_some] <;> rfl),by repeat (first|(with_reducible first|exact HB.out|apply below_alloc|apply pw_below_drewN|apply below_drew1)|exact HB.out)⟩
   ·replace c9:=Bool.eq_false_iff.mpr c9
    subst c9
    have H1 : ((spec_l2ways.f l0).bind fun bt273=>(spec_l2sub.l0 kj3 l0 a1 a2 (⟨#[]⟩ : ByteArray) 0 0 bt273.1 bt273.2)) = some (r1,r2):=by rw [if_neg (show ¬ (false = true) by decide)] at H;exact H
    clear H
    have H:=H1
    clear H1
    replace H:=Option.bind_eq_some_iff.mp H
    obtain ⟨⟨t273,t276⟩,A100,H⟩:=H
    replace H : (spec_l2sub.l0 kj3 l0 a1 a2 (⟨#[]⟩ : ByteArray) 0 0 t273 t276) = some (r1,r2):=H
    have A10:=Aside0.mk A100
    clear A100
    have H':=Aside0.mk H
    clear H
    go_wp2_with (first|((with_reducible refine gate_callee (f:=38) rfl ?_);refine goesL_ (some 23) rfl rfl Tryd.func38 (by kernel_rfl) rfl #[.slice A0 l0.length c0] rfl (by (try simp only [List.map_toArray,List.map_cons,List.map_nil]);first|done|rfl|(simp only [List.length_drop,List.length_take];rfl)) ?_;(with_reducible refine (spec_l2ways.calls _ _ l0 t273 t276 _ ?side1 ?side2 A10.out).mono ?_);(case side1=>repeat (first|exact (Kd.C_below HR0.out HB.out)|(with_reducible refine Kd.C_alloc ?_ _)|(with_reducible refine Kd.C_drewN ?_ _)|(with_reducible refine Kd.C_drew ?_)));(case side2=>exact HC0.out);rintro e w11 ⟨v274,rfl,ho0,hb⟩;refine ⟨_,rfl,?_⟩;have n0_:=Aside0.mk (Kd.R_lower ho0 (below_size (by repeat (first|(with_reducible first|exact HB.out|apply below_alloc|apply pw_below_drewN|apply below_drew1)|exact HB.out))));have n1_:=Aside0.mk (below_step (by repeat (first|(with_reducible first|exact HB.out|apply below_alloc|apply pw_below_drewN|apply below_drew1)|exact HB.out)) hb);clear HB;have HO275:=n0_;have HB:=n1_;clear n0_ n1_;(try clear hb);(try clear hb2);(try clear hk);(try clear hi);(try clear ho0))|((with_reducible refine gate_dst (N:=8) rfl ?_);(try (refine gate_guard (by rfl) ?_;dsimp only));refine box_event ?hg (N:=8) ?hd (cs:=#[.slice none 0 0,.int .i64 0]) (t:=59) ?hr ?_;(case hd=>rfl);(case hg=>rfl);(case hr=>first|(go_simp;done)|(go_simp;rfl));intro gb277 hg w12 hbox hb;have n0_:=Aside0.mk (Kd.R_below (by (with_reducible repeat (first|apply Kd.R_alloc|apply Kd.R_drewN|apply Kd.R_drew));exact HO275.out) hb);have n1_:=Aside0.mk (below_step (by repeat (first|(with_reducible first|exact HB.out|apply below_alloc|apply pw_below_drewN|apply below_drew1)|exact HB.out)) hb);have n2_:=Aside0.mk (hbox);have n3_:=Aside0.mk ((by rw [hg];exact (below_size (by repeat (first|(with_reducible first|exact HB.out|apply below_alloc|apply pw_below_drewN|apply below_drew1)|exact HB.out))) : w.heap.size ≤ gb277));have n4_:=Aside0.mk ((by rw [hg];exact (below_size (by repeat (first|(with_reducible first|exact HB.out|apply below_alloc|apply pw_below_drewN|apply below_drew1)|exact HB.out))) : w.heap.size ≤ gb277));clear HO275;clear HB;have HO275:=n0_;have HB:=n1_;have BK277:=n2_;have GW277:=n3_;have GE277:=n4_;clear n0_ n1_ n2_ n3_ n4_;clear hb hbox hg;obtain ⟨Ao13,co13,eo13⟩:=Kd.R_slice HO275.out;subst eo13;have hcz14_0 : w12.cell? ⟨gb277,0,none⟩ = some (.slice none 0 0):=(blk_cell BK277.out 0).trans rfl;have hcz14_1 : w12.cell? ⟨gb277,1,none⟩ = some (.int .i64 0):=(blk_cell BK277.out 1).trans rfl;have hfz14_0:=blk_frozen BK277.out 0;have hfz14_1:=blk_frozen BK277.out 1))
    go_loopg [9,10,11] kj3 (fun kq v9 v10 v11 w'=>∃ (x9_2 : ByteArray) (x10_2 : Int) (x11_2 : Int),v9 = .string x9_2 ∧ v10 = .int .i64 x10_2 ∧ v11 = .int .i64 x11_2 ∧ Aside0 (spec_l2sub.l0 kq l0 a1 a2 x9_2 x10_2 x11_2 t273 t276 = some (r1,r2)) ∧ Aside0 (kq ≤ kj3) ∧ Aside0 (Kd.R k85 85 w' w.heap.size (fun _=>True) (.slice Ao13 t273.length co13) t273) ∧ Aside0 (w'.heap[gb277]? = some (.cells #[(.slice Ao13 t273.length co13),.int .i64 t276] 59 (0,0))) ∧ Aside0 (Below w.heap.size w w'))
    case atStart=>exact ⟨((⟨#[]⟩ : ByteArray)),(0),(0),(by first|rfl|(simp;done)|(simp [*];done)),(by first|rfl|(simp;done)|(simp [*];done)),(by first|rfl|(simp;done)|(simp [*];done)),H',⟨Nat.le_refl _⟩,⟨by (with_reducible repeat (first|apply Kd.R_alloc|apply Kd.R_drewN|apply Kd.R_drew));exact Kd.R_mono (Kd.R_far (p:=⟨gb277,1,none⟩) (Kd.R_far (p:=⟨gb277,0,none⟩) (Kd.R_types HO275.out BK277.out (by decide)) (fun _ hk=>hk.2) (.slice Ao13 t273.length co13)) (fun _ hk=>hk.2) (.int .i64 t276)) (fun _ hk=>trivial)⟩,⟨by (with_reducible repeat (first|refine blk_drewN ?_ _|refine blk_drew ?_|refine blk_alloc ?_ _));refine blk_put (cs:=#[.slice Ao13 t273.length co13,.int .i64 0]) ?_ 1 _ rfl;(with_reducible repeat (first|refine blk_drewN ?_ _|refine blk_drew ?_|refine blk_alloc ?_ _));refine blk_put (cs:=#[.slice none 0 0,.int .i64 0]) ?_ 0 _ rfl;(with_reducible repeat (first|refine blk_drewN ?_ _|refine blk_drew ?_|refine blk_alloc ?_ _));exact BK277.out⟩,⟨by repeat (first|(with_reducible first|exact HB.out|apply below_alloc|apply pw_below_drewN|apply below_drew1|refine below_set ?_ GE277.out)|exact HB.out)⟩⟩
    case round =>
     clear H'
     try clear c2
     try clear p2
     try clear c3
     try clear c4
     try clear c6
     try clear c9
     try clear hcz14_0
     try clear hcz14_1
     try clear hfz14_0
     try clear hfz14_1
     try clear p2
     obtain ⟨x9_2,x10_2,x11_2,rfl,rfl,rfl,HA,HK2,HO_278000,BK277,HB⟩:=hrel
     cases gk with
     | zero=>exact absurd HA.out (by simp [spec_l2sub.l0])
     | succ k2 =>
      have H:=HA.out
      clear HA
      simp only [spec_l2sub.l0] at H
      by_cases c15 : x11_2 ≤ (a1.size : Int)
      ·rw [if_pos c15] at H
       have c15b0 : decide (x11_2 ≤ (a1.size : Int)) = true:=decide_eq_true c15
       clear c15
       replace H:=Option.bind_eq_some_iff.mp H
       obtain ⟨t278,A160,H⟩:=H
       replace H : (if (t278.length : Int) = 0 then (if x11_2 < (a1.size : Int) then (if 0 ≤ x11_2 then (if x11_2 ≤ (wrap64 (x11_2 + 1)) then (if (wrap64 (x11_2 + 1)) ≤ (a1.size : Int) then (if x9_2.size + (a1.extract (x11_2 : Int).toNat ((wrap64 (x11_2 + 1)) : Int).toNat).size ≤ 9223372036854775807 then (spec_l2sub.l0 k2 l0 a1 a2 (x9_2 ++ (a1.extract (x11_2 : Int).toNat ((wrap64 (x11_2 + 1)) : Int).toNat)) x10_2 (wrap64 (x11_2 + 1)) t273 t276) else (none)) else (none)) else (none)) else (none)) else (spec_l2sub.l0 k2 l0 a1 a2 x9_2 x10_2 (wrap64 (x11_2 + 1)) t273 t276)) else (if 0 ≤ (wrap64 ((t278.length : Int) - 1)) then (if (wrap64 ((t278.length : Int) - 1)) < (t278.length : Int) then (if x9_2.size + a2.size ≤ 9223372036854775807 then (if (rd t278 (wrap64 ((t278.length : Int) - 1))) = x11_2 then (if x11_2 < (a1.size : Int) then (if 0 ≤ x11_2 then (if x11_2 ≤ (wrap64 (x11_2 + 1)) then (if (wrap64 (x11_2 + 1)) ≤ (a1.size : Int) then (if (x9_2 ++ a2).size + (a1.extract (x11_2 : Int).toNat ((wrap64 (x11_2 + 1)) : Int).toNat).size ≤ 9223372036854775807 then (if (((x9_2 ++ a2) ++ (a1.extract (x11_2 : Int).toNat ((wrap64 (x11_2 + 1)) : Int).toNat)).size : Int) > 1000 then (if 0 ≤ 1000 then (if 1000 ≤ (((x9_2 ++ a2) ++ (a1.extract (x11_2 : Int).toNat ((wrap64 (x11_2 + 1)) : Int).toNat)).size : Int) then (spec_l2sub.l0 k2 l0 a1 a2 (((x9_2 ++ a2) ++ (a1.extract (x11_2 : Int).toNat ((wrap64 (x11_2 + 1)) : Int).toNat)).extract 0 1000) (wrap64 (x10_2 + 1)) (wrap64 ((rd t278 (wrap64 ((t278.length : Int) - 1))) + 1)) t273 t276) else (none)) else (none)) else (spec_l2sub.l0 k2 l0 a1 a2 ((x9_2 ++ a2) ++ (a1.extract (x11_2 : Int).toNat ((wrap64 (x11_2 + 1)) : Int).toNat)) (wrap64 (x10_2 + 1)) (wrap64 ((rd t278 (wrap64 ((t278.length : Int) - 1))) + 1)) t273 t276)) else (none)) else (none)) else (none)) else (none)) else (if ((x9_2 ++ a2).size : Int) > 1000 then (if 0 ≤ 1000 then (if 1000 ≤ ((x9_2 ++ a2).size : Int) then (spec_l2sub.l0 k2 l0 a1 a2 ((x9_2 ++ a2).extract 0 1000) (wrap64 (x10_2 + 1)) (wrap64 ((rd t278 (wrap64 ((t278.length : Int) - 1))) + 1)) t273 t276) else (none)) else (none)) else (spec_l2sub.l0 k2 l0 a1 a2 (x9_2 ++ a2) (wrap64 (x10_2 + 1)) (wrap64 ((rd t278 (wrap64 ((t278.length : Int) - 1))) + 1)) t273 t276))) else (if ((x9_2 ++ a2).size : Int) > 1000 then (if 0 ≤ 1000 then (if 1000 ≤ ((x9_2 ++ a2).size : Int) then (spec_l2sub.l0 k2 l0 a1 a2 ((x9_2 ++ a2).extract 0 1000) (wrap64 (x10_2 + 1)) (rd t278 (wrap64 ((t278.length : Int) - 1))) t273 t276) else (none)) else (none)) else (spec_l2sub.l0 k2 l0 a1 a2 (x9_2 ++ a2) (wrap64 (x10_2 + 1)) (rd t278 (wrap64 ((t278.length : Int) - 1))) t273 t276))) else (none)) else (none)) else (none))) = some (r1,r2):=H
       have A16:=Aside0.mk A160
       clear A160
       by_cases c17 : (t278.length : Int) = 0
       ·rw [if_pos c17] at H
        have c17b0 : ((t278.length : Int) == 0) = true:=beq_iff_eq.mpr c17
        have c17b1 : ((t278.length : Int) != 0) = false:=bne_eq_false_iff_eq.mpr c17
        clear c17
        by_cases c18 : x11_2 < (a1.size : Int)
        ·rw [if_pos c18] at H
         have c18b0 : decide (x11_2 < (a1.size : Int)) = true:=decide_eq_true c18
         clear c18
         by_cases c19 : 0 ≤ x11_2
         ·rw [if_pos c19] at H
          have c19b0:=eq_true c19
          have c19b1 : decide (0 ≤ x11_2) = true:=decide_eq_true c19
          clear c19
          by_cases c20 : x11_2 ≤ (wrap64 (x11_2 + 1))
          ·rw [if_pos c20] at H
           have c20b0:=eq_true c20
           have c20b1 : decide (x11_2 ≤ (wrap64 (x11_2 + 1))) = true:=decide_eq_true c20
           by_cases c21 : (wrap64 (x11_2 + 1)) ≤ (a1.size : Int)
           ·rw [if_pos c21] at H
            have c21b0:=eq_true c21
            have c21b1 : decide ((wrap64 (x11_2 + 1)) ≤ (a1.size : Int)) = true:=decide_eq_true c21
            by_cases c22 : x9_2.size + (a1.extract (x11_2 : Int).toNat ((wrap64 (x11_2 + 1)) : Int).toNat).size ≤ 9223372036854775807
            ·rw [if_pos c22] at H
             have c22b0:=eq_true c22
             have c22b1 : decide (x9_2.size + (a1.extract (x11_2 : Int).toNat ((wrap64 (x11_2 + 1)) : Int).toNat).size ≤ 9223372036854775807) = true:=decide_eq_true c22
             try have c22b2 : (9223372036854775807 < x9_2.size + (a1.extract (x11_2 : Int).toNat ((wrap64 (x11_2 + 1)) : Int).toNat).size) = False:=eq_false (Nat.not_lt.2 c22)
             have H':=Aside0.mk H
             clear H
             have hcz23_0 : wr.cell? ⟨gb277,0,none⟩ = some (.slice Ao13 t273.length co13):=(blk_cell BK277.out 0).trans rfl
             have hcz23_1 : wr.cell? ⟨gb277,1,none⟩ = some (.int .i64 t276):=(blk_cell BK277.out 1).trans rfl
             have hfz23_0:=blk_frozen BK277.out 0
             have hfz23_1:=blk_frozen BK277.out 1
             go_wp2_with (first|((with_reducible refine gate_callee (f:=39) rfl ?_);refine goesL_ (some 32) rfl rfl Tryd.func39 (by kernel_rfl) rfl #[.agg #[.slice Ao13 t273.length co13,.int .i64 t276],.slice A0 l0.length c0,.string a1,.int .i64 x11_2] rfl (by (try simp only [List.map_toArray,List.map_cons,List.map_nil]);first|done|rfl|(simp only [List.length_drop,List.length_take];rfl)) ?_;(with_reducible refine (spec_l2ends.calls k2 _ _ t273 t276 _ _ l0 a1 x11_2 t278 _ ?side1 ?side2 ?side3 ?side4 A16.out).mono ?_);(case side1=>repeat (first|exact (Kd.R_reads' HO_278000.out).2.2|(with_reducible refine Kd.C_alloc ?_ _)|(with_reducible refine Kd.C_drewN ?_ _)|(with_reducible refine Kd.C_drew ?_)));(case side2=>exact (Kd.R_reads' HO_278000.out).2.1);(case side3=>repeat (first|exact (Kd.C_below HR0.out HB.out)|(with_reducible refine Kd.C_alloc ?_ _)|(with_reducible refine Kd.C_drewN ?_ _)|(with_reducible refine Kd.C_drew ?_)));(case side4=>exact HC0.out);rintro e w24 ⟨v279,rfl,ho0,hb⟩;refine ⟨_,rfl,?_⟩;have n0_:=Aside0.mk (Kd.R_below (by (with_reducible repeat (first|apply Kd.R_alloc|apply Kd.R_drewN|apply Kd.R_drew));exact HO_278000.out) hb);have n1_:=Aside0.mk (Kd.R_lower ho0 (below_size (by repeat (first|(with_reducible first|exact HB.out|apply below_alloc|apply pw_below_drewN|apply below_drew1|refine below_set ?_ GE277.out)|exact HB.out))));have n2_:=Aside0.mk (blk_below (g:=gb277) (o:=.cells #[.slice Ao13 t273.length co13,.int .i64 t276] 59 (0,0)) (by (with_reducible repeat (first|refine blk_drewN ?_ _|refine blk_drew ?_|refine blk_alloc ?_ _));exact BK277.out) hb);have n3_:=Aside0.mk (below_step (by repeat (first|(with_reducible first|exact HB.out|apply below_alloc|apply pw_below_drewN|apply below_drew1|refine below_set ?_ GE277.out)|exact HB.out)) hb);clear HO_278000;clear BK277;clear HB;have HO_278000:=n0_;have HO280:=n1_;have BK277:=n2_;have HB:=n3_;clear n0_ n1_ n2_ n3_;(try clear hb);(try clear hb2);(try clear hk);(try clear hi);(try clear ho0);obtain ⟨Ao25,co25,eo25⟩:=Kd.R_slice HO280.out;subst eo25))
             go_roundg k2
             case measure=>have:=HJ3.out;have:=HK2.out;omega
             case rel=>exact ⟨(x9_2 ++ (a1.extract (x11_2 : Int).toNat ((wrap64 (x11_2 + 1)) : Int).toNat)),(x10_2),(wrap64 (x11_2 + 1)),(by first|rfl|(simp;done)|(simp [*];done)),(by first|rfl|(simp;done)|(simp [*];done)),(by first|rfl|(simp;done)|(simp [*];done)),H',⟨by have:=HJ3.out;have:=HK2.out;omega⟩,⟨by (with_reducible repeat (first|apply Kd.R_alloc|apply Kd.R_drewN|apply Kd.R_drew));exact HO_278000.out⟩,⟨by (with_reducible repeat (first|refine blk_drewN ?_ _|refine blk_drew ?_|refine blk_alloc ?_ _));exact BK277.out⟩,⟨by repeat (first|(with_reducible first|exact HB.out|apply below_alloc|apply pw_below_drewN|apply below_drew1|refine below_set ?_ GE277.out)|exact HB.out)⟩⟩
            ·rw [if_neg c22] at H
             exact absurd H (by simp)
           ·rw [if_neg c21] at H
            exact absurd H (by simp)
          ·rw [if_neg c20] at H
           exact absurd H (by simp)
         ·rw [if_neg c19] at H
          exact absurd H (by simp)
        ·rw [if_neg c18] at H
         have c18b0 : decide (x11_2 < (a1.size : Int)) = false:=decide_eq_false c18
         clear c18
         have H':=Aside0.mk H
         clear H
         have hcz26_0 : wr.cell? ⟨gb277,0,none⟩ = some (.slice Ao13 t273.length co13):=(blk_cell BK277.out 0).trans rfl
         have hcz26_1 : wr.cell? ⟨gb277,1,none⟩ = some (.int .i64 t276):=(blk_cell BK277.out 1).trans rfl
         have hfz26_0:=blk_frozen BK277.out 0
         have hfz26_1:=blk_frozen BK277.out 1
         go_wp2_with (first|((with_reducible refine gate_callee (f:=39) rfl ?_);refine goesL_ (some 32) rfl rfl Tryd.func39 (by kernel_rfl) rfl #[.agg #[.slice Ao13 t273.length co13,.int .i64 t276],.slice A0 l0.length c0,.string a1,.int .i64 x11_2] rfl (by (try simp only [List.map_toArray,List.map_cons,List.map_nil]);first|done|rfl|(simp only [List.length_drop,List.length_take];rfl)) ?_;(with_reducible refine (spec_l2ends.calls k2 _ _ t273 t276 _ _ l0 a1 x11_2 t278 _ ?side1 ?side2 ?side3 ?side4 A16.out).mono ?_);(case side1=>repeat (first|exact (Kd.R_reads' HO_278000.out).2.2|(with_reducible refine Kd.C_alloc ?_ _)|(with_reducible refine Kd.C_drewN ?_ _)|(with_reducible refine Kd.C_drew ?_)));(case side2=>exact (Kd.R_reads' HO_278000.out).2.1);(case side3=>repeat (first|exact (Kd.C_below HR0.out HB.out)|(with_reducible refine Kd.C_alloc ?_ _)|(with_reducible refine Kd.C_drewN ?_ _)|(with_reducible refine Kd.C_drew ?_)));(case side4=>exact HC0.out);rintro e w27 ⟨v279,rfl,ho0,hb⟩;refine ⟨_,rfl,?_⟩;have n0_:=Aside0.mk (Kd.R_below (by (with_reducible repeat (first|apply Kd.R_alloc|apply Kd.R_drewN|apply Kd.R_drew));exact HO_278000.out) hb);have n1_:=Aside0.mk (Kd.R_lower ho0 (below_size (by repeat (first|(with_reducible first|exact HB.out|apply below_alloc|apply pw_below_drewN|apply below_drew1|refine below_set ?_ GE277.out)|exact HB.out))));have n2_:=Aside0.mk (blk_below (g:=gb277) (o:=.cells #[.slice Ao13 t273.length co13,.int .i64 t276] 59 (0,0)) (by (with_reducible repeat (first|refine blk_drewN ?_ _|refine blk_drew ?_|refine blk_alloc ?_ _));exact BK277.out) hb);have n3_:=Aside0.mk (below_step (by repeat (first|(with_reducible first|exact HB.out|apply below_alloc|apply pw_below_drewN|apply below_drew1|refine below_set ?_ GE277.out)|exact HB.out)) hb);clear HO_278000;clear BK277;clear HB;have HO_278000:=n0_;have HO280:=n1_;have BK277:=n2_;have HB:=n3_;clear n0_ n1_ n2_ n3_;(try clear hb);(try clear hb2);(try clear hk);(try clear hi);(try clear ho0);obtain ⟨Ao28,co28,eo28⟩:=Kd.R_slice HO280.out;subst eo28))
         go_roundg k2
         case measure=>have:=HJ3.out;have:=HK2.out;omega
         case rel=>exact ⟨(x9_2),(x10_2),(wrap64 (x11_2 + 1)),(by first|rfl|(simp;done)|(simp [*];done)),(by first|rfl|(simp;done)|(simp [*];done)),(by first|rfl|(simp;done)|(simp [*];done)),H',⟨by have:=HJ3.out;have:=HK2.out;omega⟩,⟨by (with_reducible repeat (first|apply Kd.R_alloc|apply Kd.R_drewN|apply Kd.R_drew));exact HO_278000.out⟩,⟨by (with_reducible repeat (first|refine blk_drewN ?_ _|refine blk_drew ?_|refine blk_alloc ?_ _));exact BK277.out⟩,⟨by repeat (first|(with_reducible first|exact HB.out|apply below_alloc|apply pw_below_drewN|apply below_drew1|refine below_set ?_ GE277.out)|exact HB.out)⟩⟩
       ·rw [if_neg c17] at H
        have c17b0 : ((t278.length : Int) == 0) = false:=beq_eq_false_iff_ne.mpr c17
        have c17b1 : ((t278.length : Int) != 0) = true:=bne_iff_ne.mpr c17
        have c17b2 : ¬ (t278 = []):=fun h_=>c17 (by rw [h_];rfl)
        obtain ⟨ji29,hji29⟩ : ∃ j_ : Int,(wrap64 ((t278.length : Int) - 1)) = j_:=⟨_,rfl⟩
        replace H : (if 0 ≤ (ji29) then (if (ji29) < (t278.length : Int) then (if x9_2.size + a2.size ≤ 9223372036854775807 then (if (rd t278 (ji29)) = x11_2 then (if x11_2 < (a1.size : Int) then (if 0 ≤ x11_2 then (if x11_2 ≤ (wrap64 (x11_2 + 1)) then (if (wrap64 (x11_2 + 1)) ≤ (a1.size : Int) then (if (x9_2 ++ a2).size + (a1.extract (x11_2 : Int).toNat ((wrap64 (x11_2 + 1)) : Int).toNat).size ≤ 9223372036854775807 then (if (((x9_2 ++ a2) ++ (a1.extract (x11_2 : Int).toNat ((wrap64 (x11_2 + 1)) : Int).toNat)).size : Int) > 1000 then (if 0 ≤ 1000 then (if 1000 ≤ (((x9_2 ++ a2) ++ (a1.extract (x11_2 : Int).toNat ((wrap64 (x11_2 + 1)) : Int).toNat)).size : Int) then (spec_l2sub.l0 k2 l0 a1 a2 (((x9_2 ++ a2) ++ (a1.extract (x11_2 : Int).toNat ((wrap64 (x11_2 + 1)) : Int).toNat)).extract 0 1000) (wrap64 (x10_2 + 1)) (wrap64 ((rd t278 (ji29)) + 1)) t273 t276) else (none)) else (none)) else (spec_l2sub.l0 k2 l0 a1 a2 ((x9_2 ++ a2) ++ (a1.extract (x11_2 : Int).toNat ((wrap64 (x11_2 + 1)) : Int).toNat)) (wrap64 (x10_2 + 1)) (wrap64 ((rd t278 (ji29)) + 1)) t273 t276)) else (none)) else (none)) else (none)) else (none)) else (if ((x9_2 ++ a2).size : Int) > 1000 then (if 0 ≤ 1000 then (if 1000 ≤ ((x9_2 ++ a2).size : Int) then (spec_l2sub.l0 k2 l0 a1 a2 ((x9_2 ++ a2).extract 0 1000) (wrap64 (x10_2 + 1)) (wrap64 ((rd t278 (ji29)) + 1)) t273 t276) else (none)) else (none)) else (spec_l2sub.l0 k2 l0 a1 a2 (x9_2 ++ a2) (wrap64 (x10_2 + 1)) (wrap64 ((rd t278 (ji29)) + 1)) t273 t276))) else (if ((x9_2 ++ a2).size : Int) > 1000 then (if 0 ≤ 1000 then (if 1000 ≤ ((x9_2 ++ a2).size : Int) then (spec_l2sub.l0 k2 l0 a1 a2 ((x9_2 ++ a2).extract 0 1000) (wrap64 (x10_2 + 1)) (rd t278 (ji29)) t273 t276) else (none)) else (none)) else (spec_l2sub.l0 k2 l0 a1 a2 (x9_2 ++ a2) (wrap64 (x10_2 + 1)) (rd t278 (ji29)) t273 t276))) else (none)) else (none)) else (none)) = some (r1,r2):=by first|(rw [hji29] at H;exact H)|(simp only [hji29] at H ⊢;exact H)
        (try rw [hji29] at A16)
        have hji29w : (IntKind.i64.wrap ((t278.length : Int) - 1)) = ji29:=(i64_w _).trans hji29
        by_cases c30 : 0 ≤ (ji29)
        ·rw [if_pos c30] at H
         have c30b0 : decide (0 ≤ (ji29)) = true:=decide_eq_true c30
         clear c30
         by_cases c31 : (ji29) < (t278.length : Int)
         ·rw [if_pos c31] at H
          have c31b0 : decide ((ji29) < (t278.length : Int)) = true:=decide_eq_true c31
          clear c31
          by_cases c32 : x9_2.size + a2.size ≤ 9223372036854775807
          ·rw [if_pos c32] at H
           have c32b0:=eq_true c32
           have c32b1 : decide (x9_2.size + a2.size ≤ 9223372036854775807) = true:=decide_eq_true c32
           try have c32b2 : (9223372036854775807 < x9_2.size + a2.size) = False:=eq_false (Nat.not_lt.2 c32)
           by_cases c33 : (rd t278 (ji29)) = x11_2
           ·rw [if_pos c33] at H
            have c33b0 : ((rd t278 (ji29)) == x11_2) = true:=beq_iff_eq.mpr c33
            have c33b1 : ((rd t278 (ji29)) != x11_2) = false:=bne_eq_false_iff_eq.mpr c33
            clear c33
            by_cases c34 : x11_2 < (a1.size : Int)
            ·rw [if_pos c34] at H
             have c34b0 : decide (x11_2 < (a1.size : Int)) = true:=decide_eq_true c34
             clear c34
             by_cases c35 : 0 ≤ x11_2
             ·rw [if_pos c35] at H
              have c35b0:=eq_true c35
              have c35b1 : decide (0 ≤ x11_2) = true:=decide_eq_true c35
              clear c35
              by_cases c36 : x11_2 ≤ (wrap64 (x11_2 + 1))
              ·rw [if_pos c36] at H
               have c36b0:=eq_true c36
               have c36b1 : decide (x11_2 ≤ (wrap64 (x11_2 + 1))) = true:=decide_eq_true c36
               by_cases c37 : (wrap64 (x11_2 + 1)) ≤ (a1.size : Int)
               ·rw [if_pos c37] at H
                have c37b0:=eq_true c37
                have c37b1 : decide ((wrap64 (x11_2 + 1)) ≤ (a1.size : Int)) = true:=decide_eq_true c37
                by_cases c38 : (x9_2 ++ a2).size + (a1.extract (x11_2 : Int).toNat ((wrap64 (x11_2 + 1)) : Int).toNat).size ≤ 9223372036854775807
                ·rw [if_pos c38] at H
                 have c38b0:=eq_true c38
                 have c38b1 : decide ((x9_2 ++ a2).size + (a1.extract (x11_2 : Int).toNat ((wrap64 (x11_2 + 1)) : Int).toNat).size ≤ 9223372036854775807) = true:=decide_eq_true c38
                 try have c38b2 : (9223372036854775807 < (x9_2 ++ a2).size + (a1.extract (x11_2 : Int).toNat ((wrap64 (x11_2 + 1)) : Int).toNat).size) = False:=eq_false (Nat.not_lt.2 c38)
                 try (have c38b4:=c38b2;simp only [ByteArray.size_append] at c38b4)
                 by_cases c39 : (((x9_2 ++ a2) ++ (a1.extract (x11_2 : Int).toNat ((wrap64 (x11_2 + 1)) : Int).toNat)).size : Int) > 1000
                 ·rw [if_pos c39] at H
                  have c39b0 : decide (1000 < (((x9_2 ++ a2) ++ (a1.extract (x11_2 : Int).toNat ((wrap64 (x11_2 + 1)) : Int).toNat)).size : Int)) = true:=decide_eq_true c39
                  have c39b1 : decide (1000 < ((x9_2 ++ a2) ++ (a1.extract (x11_2 : Int).toNat ((wrap64 (x11_2 + 1)) : Int).toNat)).size) = true:=decide_eq_true (by omega)
                  have c39s:=c39b0
                  simp only [ByteArray.size_append,Int.natCast_add,decide_eq_true_eq,decide_eq_false_iff_not] at c39s
                  replace c39s:=eq_true c39s
                  clear c39
                  by_cases c40 : 0 ≤ 1000
                  ·rw [if_pos c40] at H
                   have c40b0:=eq_true c40
                   have c40b1 : decide (0 ≤ 1000) = true:=decide_eq_true c40
                   clear c40
                   by_cases c41 : 1000 ≤ (((x9_2 ++ a2) ++ (a1.extract (x11_2 : Int).toNat ((wrap64 (x11_2 + 1)) : Int).toNat)).size : Int)
                   ·rw [if_pos c41] at H
                    have c41b0:=eq_true c41
                    have c41b1 : decide (1000 ≤ (((x9_2 ++ a2) ++ (a1.extract (x11_2 : Int).toNat ((wrap64 (x11_2 + 1)) : Int).toNat)).size : Int)) = true:=decide_eq_true c41
                    have H':=Aside0.mk H
                    clear H
                    have hcz42_0 : wr.cell? ⟨gb277,0,none⟩ = some (.slice Ao13 t273.length co13):=(blk_cell BK277.out 0).trans rfl
                    have hcz42_1 : wr.cell? ⟨gb277,1,none⟩ = some (.int .i64 t276):=(blk_cell BK277.out 1).trans rfl
                    have hfz42_0:=blk_frozen BK277.out 0
                    have hfz42_1:=blk_frozen BK277.out 1
                    go_wp2_with (first|((with_reducible refine gate_callee (f:=39) rfl ?_);refine goesL_ (some 32) rfl rfl Tryd.func39 (by kernel_rfl) rfl #[.agg #[.slice Ao13 t273.length co13,.int .i64 t276],.slice A0 l0.length c0,.string a1,.int .i64 x11_2] rfl (by (try simp only [List.map_toArray,List.map_cons,List.map_nil]);first|done|rfl|(simp only [List.length_drop,List.length_take];rfl)) ?_;(with_reducible refine (spec_l2ends.calls k2 _ _ t273 t276 _ _ l0 a1 x11_2 t278 _ ?side1 ?side2 ?side3 ?side4 A16.out).mono ?_);(case side1=>repeat (first|exact (Kd.R_reads' HO_278000.out).2.2|(with_reducible refine Kd.C_alloc ?_ _)|(with_reducible refine Kd.C_drewN ?_ _)|(with_reducible refine Kd.C_drew ?_)));(case side2=>exact (Kd.R_reads' HO_278000.out).2.1);(case side3=>repeat (first|exact (Kd.C_below HR0.out HB.out)|(with_reducible refine Kd.C_alloc ?_ _)|(with_reducible refine Kd.C_drewN ?_ _)|(with_reducible refine Kd.C_drew ?_)));(case side4=>exact HC0.out);rintro e w43 ⟨v279,rfl,ho0,hb⟩;refine ⟨_,rfl,?_⟩;have n0_:=Aside0.mk (Kd.R_below (by (with_reducible repeat (first|apply Kd.R_alloc|apply Kd.R_drewN|apply Kd.R_drew));exact HO_278000.out) hb);have n1_:=Aside0.mk (Kd.R_lower ho0 (below_size (by repeat (first|(with_reducible first|exact HB.out|apply below_alloc|apply pw_below_drewN|apply below_drew1|refine below_set ?_ GE277.out)|exact HB.out))));have n2_:=Aside0.mk (blk_below (g:=gb277) (o:=.cells #[.slice Ao13 t273.length co13,.int .i64 t276] 59 (0,0)) (by (with_reducible repeat (first|refine blk_drewN ?_ _|refine blk_drew ?_|refine blk_alloc ?_ _));exact BK277.out) hb);have n3_:=Aside0.mk (below_step (by repeat (first|(with_reducible first|exact HB.out|apply below_alloc|apply pw_below_drewN|apply below_drew1|refine below_set ?_ GE277.out)|exact HB.out)) hb);clear HO_278000;clear BK277;clear HB;have HO_278000:=n0_;have HO280:=n1_;have BK277:=n2_;have HB:=n3_;clear n0_ n1_ n2_ n3_;(try clear hb);(try clear hb2);(try clear hk);(try clear hi);(try clear ho0);obtain ⟨Ao44,co44,eo44⟩:=Kd.R_slice HO280.out;subst eo44;have p281 : 0 ≤ ((ji29) : Int):=of_decide_eq_true (by first|(with_reducible assumption)|assumption);have q281 : (ji29) < (t278.length : Int):=of_decide_eq_true (by first|(with_reducible assumption)|assumption);obtain ⟨ad281,e281,hx281_0⟩:=Kd.at_int (Kd.R_reads' HO280.out).2.2 (ji29) p281 q281;cases e281;replace p281:=eq_true p281;replace q281:=eq_true q281))
                    go_roundg k2
                    case measure=>have:=HJ3.out;have:=HK2.out;omega
                    case rel=>exact ⟨(((x9_2 ++ a2) ++ (a1.extract (x11_2 : Int).toNat ((wrap64 (x11_2 + 1)) : Int).toNat)).extract 0 1000),(wrap64 (x10_2 + 1)),(wrap64 ((rd t278 (ji29)) + 1)),(by first|rfl|(simp;done)|(simp [*];done)),(by first|rfl|(simp;done)|(simp [*];done)),(by first|rfl|(simp;done)|(simp only [← hji29] <;> (first|rfl|simp))|(simp [*];done)),H',⟨by have:=HJ3.out;have:=HK2.out;omega⟩,⟨by (with_reducible repeat (first|apply Kd.R_alloc|apply Kd.R_drewN|apply Kd.R_drew));exact HO_278000.out⟩,⟨by (with_reducible repeat (first|refine blk_drewN ?_ _|refine blk_drew ?_|refine blk_alloc ?_ _));exact BK277.out⟩,⟨by repeat (first|(with_reducible first|exact HB.out|apply below_alloc|apply pw_below_drewN|apply below_drew1|refine below_set ?_ GE277.out)|exact HB.out)⟩⟩
                   ·rw [if_neg c41] at H
                    exact absurd H (by simp)
                  ·rw [if_neg c40] at H
                   exact absurd H (by simp)
                 ·rw [if_neg c39] at H
                  have c39b0 : decide (1000 < (((x9_2 ++ a2) ++ (a1.extract (x11_2 : Int).toNat ((wrap64 (x11_2 + 1)) : Int).toNat)).size : Int)) = false:=decide_eq_false c39
                  have c39b1 : decide (1000 < ((x9_2 ++ a2) ++ (a1.extract (x11_2 : Int).toNat ((wrap64 (x11_2 + 1)) : Int).toNat)).size) = false:=decide_eq_false (by omega)
                  have c39s:=c39b0
                  simp only [ByteArray.size_append,Int.natCast_add,decide_eq_true_eq,decide_eq_false_iff_not] at c39s
                  replace c39s:=eq_false c39s
                  clear c39
                  have H':=Aside0.mk H
                  clear H
                  have hcz45_0 : wr.cell? ⟨gb277,0,none⟩ = some (.slice Ao13 t273.length co13):=(blk_cell BK277.out 0).trans rfl
                  have hcz45_1 : wr.cell? ⟨gb277,1,none⟩ = some (.int .i64 t276):=(blk_cell BK277.out 1).trans rfl
                  have hfz45_0:=blk_frozen BK277.out 0
                  have hfz45_1:=blk_frozen BK277.out 1
                  go_wp2_with (first|((with_reducible refine gate_callee (f:=39) rfl ?_);refine goesL_ (some 32) rfl rfl Tryd.func39 (by kernel_rfl) rfl #[.agg #[.slice Ao13 t273.length co13,.int .i64 t276],.slice A0 l0.length c0,.string a1,.int .i64 x11_2] rfl (by (try simp only [List.map_toArray,List.map_cons,List.map_nil]);first|done|rfl|(simp only [List.length_drop,List.length_take];rfl)) ?_;(with_reducible refine (spec_l2ends.calls k2 _ _ t273 t276 _ _ l0 a1 x11_2 t278 _ ?side1 ?side2 ?side3 ?side4 A16.out).mono ?_);(case side1=>repeat (first|exact (Kd.R_reads' HO_278000.out).2.2|(with_reducible refine Kd.C_alloc ?_ _)|(with_reducible refine Kd.C_drewN ?_ _)|(with_reducible refine Kd.C_drew ?_)));(case side2=>exact (Kd.R_reads' HO_278000.out).2.1);(case side3=>repeat (first|exact (Kd.C_below HR0.out HB.out)|(with_reducible refine Kd.C_alloc ?_ _)|(with_reducible refine Kd.C_drewN ?_ _)|(with_reducible refine Kd.C_drew ?_)));(case side4=>exact HC0.out);rintro e w46 ⟨v279,rfl,ho0,hb⟩;refine ⟨_,rfl,?_⟩;have n0_:=Aside0.mk (Kd.R_below (by (with_reducible repeat (first|apply Kd.R_alloc|apply Kd.R_drewN|apply Kd.R_drew));exact HO_278000.out) hb);have n1_:=Aside0.mk (Kd.R_lower ho0 (below_size (by repeat (first|(with_reducible first|exact HB.out|apply below_alloc|apply pw_below_drewN|apply below_drew1|refine below_set ?_ GE277.out)|exact HB.out))));have n2_:=Aside0.mk (blk_below (g:=gb277) (o:=.cells #[.slice Ao13 t273.length co13,.int .i64 t276] 59 (0,0)) (by (with_reducible repeat (first|refine blk_drewN ?_ _|refine blk_drew ?_|refine blk_alloc ?_ _));exact BK277.out) hb);have n3_:=Aside0.mk (below_step (by repeat (first|(with_reducible first|exact HB.out|apply below_alloc|apply pw_below_drewN|apply below_drew1|refine below_set ?_ GE277.out)|exact HB.out)) hb);clear HO_278000;clear BK277;clear HB;have HO_278000:=n0_;have HO280:=n1_;have BK277:=n2_;have HB:=n3_;clear n0_ n1_ n2_ n3_;(try clear hb);(try clear hb2);(try clear hk);(try clear hi);(try clear ho0);obtain ⟨Ao47,co47,eo47⟩:=Kd.R_slice HO280.out;subst eo47;have p281 : 0 ≤ ((ji29) : Int):=of_decide_eq_true (by first|(with_reducible assumption)|assumption);have q281 : (ji29) < (t278.length : Int):=of_decide_eq_true (by first|(with_reducible assumption)|assumption);obtain ⟨ad281,e281,hx281_0⟩:=Kd.at_int (Kd.R_reads' HO280.out).2.2 (ji29) p281 q281;cases e281;replace p281:=eq_true p281;replace q281:=eq_true q281))
                  go_roundg k2
                  case measure=>have:=HJ3.out;have:=HK2.out;omega
                  case rel=>exact ⟨((x9_2 ++ a2) ++ (a1.extract (x11_2 : Int).toNat ((wrap64 (x11_2 + 1)) : Int).toNat)),(wrap64 (x10_2 + 1)),(wrap64 ((rd t278 (ji29)) + 1)),(by first|rfl|(simp;done)|(simp [*];done)),(by first|rfl|(simp;done)|(simp [*];done)),(by first|rfl|(simp;done)|(simp only [← hji29] <;> (first|rfl|simp))|(simp [*];done)),H',⟨by have:=HJ3.out;have:=HK2.out;omega⟩,⟨by (with_reducible repeat (first|apply Kd.R_alloc|apply Kd.R_drewN|apply Kd.R_drew));exact HO_278000.out⟩,⟨by (with_reducible repeat (first|refine blk_drewN ?_ _|refine blk_drew ?_|refine blk_alloc ?_ _));exact BK277.out⟩,⟨by repeat (first|(with_reducible first|exact HB.out|apply below_alloc|apply pw_below_drewN|apply below_drew1|refine below_set ?_ GE277.out)|exact HB.out)⟩⟩
                ·rw [if_neg c38] at H
                 exact absurd H (by simp)
               ·rw [if_neg c37] at H
                exact absurd H (by simp)
              ·rw [if_neg c36] at H
               exact absurd H (by simp)
             ·rw [if_neg c35] at H
              exact absurd H (by simp)
            ·rw [if_neg c34] at H
             have c34b0 : decide (x11_2 < (a1.size : Int)) = false:=decide_eq_false c34
             clear c34
             by_cases c48 : ((x9_2 ++ a2).size : Int) > 1000
             ·rw [if_pos c48] at H
              have c48b0 : decide (1000 < ((x9_2 ++ a2).size : Int)) = true:=decide_eq_true c48
              have c48b1 : decide (1000 < (x9_2 ++ a2).size) = true:=decide_eq_true (by omega)
              have c48s:=c48b0
              simp only [ByteArray.size_append,Int.natCast_add,decide_eq_true_eq,decide_eq_false_iff_not] at c48s
              replace c48s:=eq_true c48s
              clear c48
              by_cases c49 : 0 ≤ 1000
              ·rw [if_pos c49] at H
               have c49b0:=eq_true c49
               have c49b1 : decide (0 ≤ 1000) = true:=decide_eq_true c49
               clear c49
               by_cases c50 : 1000 ≤ ((x9_2 ++ a2).size : Int)
               ·rw [if_pos c50] at H
                have c50b0:=eq_true c50
                have c50b1 : decide (1000 ≤ ((x9_2 ++ a2).size : Int)) = true:=decide_eq_true c50
                have H':=Aside0.mk H
                clear H
                have hcz51_0 : wr.cell? ⟨gb277,0,none⟩ = some (.slice Ao13 t273.length co13):=(blk_cell BK277.out 0).trans rfl
                have hcz51_1 : wr.cell? ⟨gb277,1,none⟩ = some (.int .i64 t276):=(blk_cell BK277.out 1).trans rfl
                have hfz51_0:=blk_frozen BK277.out 0
                have hfz51_1:=blk_frozen BK277.out 1
                go_wp2_with (first|((with_reducible refine gate_callee (f:=39) rfl ?_);refine goesL_ (some 32) rfl rfl Tryd.func39 (by kernel_rfl) rfl #[.agg #[.slice Ao13 t273.length co13,.int .i64 t276],.slice A0 l0.length c0,.string a1,.int .i64 x11_2] rfl (by (try simp only [List.map_toArray,List.map_cons,List.map_nil]);first|done|rfl|(simp only [List.length_drop,List.length_take];rfl)) ?_;(with_reducible refine (spec_l2ends.calls k2 _ _ t273 t276 _ _ l0 a1 x11_2 t278 _ ?side1 ?side2 ?side3 ?side4 A16.out).mono ?_);(case side1=>repeat (first|exact (Kd.R_reads' HO_278000.out).2.2|(with_reducible refine Kd.C_alloc ?_ _)|(with_reducible refine Kd.C_drewN ?_ _)|(with_reducible refine Kd.C_drew ?_)));(case side2=>exact (Kd.R_reads' HO_278000.out).2.1);(case side3=>repeat (first|exact (Kd.C_below HR0.out HB.out)|(with_reducible refine Kd.C_alloc ?_ _)|(with_reducible refine Kd.C_drewN ?_ _)|(with_reducible refine Kd.C_drew ?_)));(case side4=>exact HC0.out);rintro e w52 ⟨v279,rfl,ho0,hb⟩;refine ⟨_,rfl,?_⟩;have n0_:=Aside0.mk (Kd.R_below (by (with_reducible repeat (first|apply Kd.R_alloc|apply Kd.R_drewN|apply Kd.R_drew));exact HO_278000.out) hb);have n1_:=Aside0.mk (Kd.R_lower ho0 (below_size (by repeat (first|(with_reducible first|exact HB.out|apply below_alloc|apply pw_below_drewN|apply below_drew1|refine below_set ?_ GE277.out)|exact HB.out))));have n2_:=Aside0.mk (blk_below (g:=gb277) (o:=.cells #[.slice Ao13 t273.length co13,.int .i64 t276] 59 (0,0)) (by (with_reducible repeat (first|refine blk_drewN ?_ _|refine blk_drew ?_|refine blk_alloc ?_ _));exact BK277.out) hb);have n3_:=Aside0.mk (below_step (by repeat (first|(with_reducible first|exact HB.out|apply below_alloc|apply pw_below_drewN|apply below_drew1|refine below_set ?_ GE277.out)|exact HB.out)) hb);clear HO_278000;clear BK277;clear HB;have HO_278000:=n0_;have HO280:=n1_;have BK277:=n2_;have HB:=n3_;clear n0_ n1_ n2_ n3_;(try clear hb);(try clear hb2);(try clear hk);(try clear hi);(try clear ho0);obtain ⟨Ao53,co53,eo53⟩:=Kd.R_slice HO280.out;subst eo53;have p281 : 0 ≤ ((ji29) : Int):=of_decide_eq_true (by first|(with_reducible assumption)|assumption);have q281 : (ji29) < (t278.length : Int):=of_decide_eq_true (by first|(with_reducible assumption)|assumption);obtain ⟨ad281,e281,hx281_0⟩:=Kd.at_int (Kd.R_reads' HO280.out).2.2 (ji29) p281 q281;cases e281;replace p281:=eq_true p281;replace q281:=eq_true q281))
                go_roundg k2
                case measure=>have:=HJ3.out;have:=HK2.out;omega
                case rel=>exact ⟨((x9_2 ++ a2).extract 0 1000),(wrap64 (x10_2 + 1)),(wrap64 ((rd t278 (ji29)) + 1)),(by first|rfl|(simp;done)|(simp [*];done)),(by first|rfl|(simp;done)|(simp [*];done)),(by first|rfl|(simp;done)|(simp only [← hji29] <;> (first|rfl|simp))|(simp [*];done)),H',⟨by have:=HJ3.out;have:=HK2.out;omega⟩,⟨by (with_reducible repeat (first|apply Kd.R_alloc|apply Kd.R_drewN|apply Kd.R_drew));exact HO_278000.out⟩,⟨by (with_reducible repeat (first|refine blk_drewN ?_ _|refine blk_drew ?_|refine blk_alloc ?_ _));exact BK277.out⟩,⟨by repeat (first|(with_reducible first|exact HB.out|apply below_alloc|apply pw_below_drewN|apply below_drew1|refine below_set ?_ GE277.out)|exact HB.out)⟩⟩
               ·rw [if_neg c50] at H
                exact absurd H (by simp)
              ·rw [if_neg c49] at H
               exact absurd H (by simp)
             ·rw [if_neg c48] at H
              have c48b0 : decide (1000 < ((x9_2 ++ a2).size : Int)) = false:=decide_eq_false c48
              have c48b1 : decide (1000 < (x9_2 ++ a2).size) = false:=decide_eq_false (by omega)
              have c48s:=c48b0
              simp only [ByteArray.size_append,Int.natCast_add,decide_eq_true_eq,decide_eq_false_iff_not] at c48s
              replace c48s:=eq_false c48s
              clear c48
              have H':=Aside0.mk H
              clear H
              have hcz54_0 : wr.cell? ⟨gb277,0,none⟩ = some (.slice Ao13 t273.length co13):=(blk_cell BK277.out 0).trans rfl
              have hcz54_1 : wr.cell? ⟨gb277,1,none⟩ = some (.int .i64 t276):=(blk_cell BK277.out 1).trans rfl
              have hfz54_0:=blk_frozen BK277.out 0
              have hfz54_1:=blk_frozen BK277.out 1
              go_wp2_with (first|((with_reducible refine gate_callee (f:=39) rfl ?_);refine goesL_ (some 32) rfl rfl Tryd.func39 (by kernel_rfl) rfl #[.agg #[.slice Ao13 t273.length co13,.int .i64 t276],.slice A0 l0.length c0,.string a1,.int .i64 x11_2] rfl (by (try simp only [List.map_toArray,List.map_cons,List.map_nil]);first|done|rfl|(simp only [List.length_drop,List.length_take];rfl)) ?_;(with_reducible refine (spec_l2ends.calls k2 _ _ t273 t276 _ _ l0 a1 x11_2 t278 _ ?side1 ?side2 ?side3 ?side4 A16.out).mono ?_);(case side1=>repeat (first|exact (Kd.R_reads' HO_278000.out).2.2|(with_reducible refine Kd.C_alloc ?_ _)|(with_reducible refine Kd.C_drewN ?_ _)|(with_reducible refine Kd.C_drew ?_)));(case side2=>exact (Kd.R_reads' HO_278000.out).2.1);(case side3=>repeat (first|exact (Kd.C_below HR0.out HB.out)|(with_reducible refine Kd.C_alloc ?_ _)|(with_reducible refine Kd.C_drewN ?_ _)|(with_reducible refine Kd.C_drew ?_)));(case side4=>exact HC0.out);rintro e w55 ⟨v279,rfl,ho0,hb⟩;refine ⟨_,rfl,?_⟩;have n0_:=Aside0.mk (Kd.R_below (by (with_reducible repeat (first|apply Kd.R_alloc|apply Kd.R_drewN|apply Kd.R_drew));exact HO_278000.out) hb);have n1_:=Aside0.mk (Kd.R_lower ho0 (below_size (by repeat (first|(with_reducible first|exact HB.out|apply below_alloc|apply pw_below_drewN|apply below_drew1|refine below_set ?_ GE277.out)|exact HB.out))));have n2_:=Aside0.mk (blk_below (g:=gb277) (o:=.cells #[.slice Ao13 t273.length co13,.int .i64 t276] 59 (0,0)) (by (with_reducible repeat (first|refine blk_drewN ?_ _|refine blk_drew ?_|refine blk_alloc ?_ _));exact BK277.out) hb);have n3_:=Aside0.mk (below_step (by repeat (first|(with_reducible first|exact HB.out|apply below_alloc|apply pw_below_drewN|apply below_drew1|refine below_set ?_ GE277.out)|exact HB.out)) hb);clear HO_278000;clear BK277;clear HB;have HO_278000:=n0_;have HO280:=n1_;have BK277:=n2_;have HB:=n3_;clear n0_ n1_ n2_ n3_;(try clear hb);(try clear hb2);(try clear hk);(try clear hi);(try clear ho0);obtain ⟨Ao56,co56,eo56⟩:=Kd.R_slice HO280.out;subst eo56;have p281 : 0 ≤ ((ji29) : Int):=of_decide_eq_true (by first|(with_reducible assumption)|assumption);have q281 : (ji29) < (t278.length : Int):=of_decide_eq_true (by first|(with_reducible assumption)|assumption);obtain ⟨ad281,e281,hx281_0⟩:=Kd.at_int (Kd.R_reads' HO280.out).2.2 (ji29) p281 q281;cases e281;replace p281:=eq_true p281;replace q281:=eq_true q281))
              go_roundg k2
              case measure=>have:=HJ3.out;have:=HK2.out;omega
              case rel=>exact ⟨(x9_2 ++ a2),(wrap64 (x10_2 + 1)),(wrap64 ((rd t278 (ji29)) + 1)),(by first|rfl|(simp;done)|(simp [*];done)),(by first|rfl|(simp;done)|(simp [*];done)),(by first|rfl|(simp;done)|(simp only [← hji29] <;> (first|rfl|simp))|(simp [*];done)),H',⟨by have:=HJ3.out;have:=HK2.out;omega⟩,⟨by (with_reducible repeat (first|apply Kd.R_alloc|apply Kd.R_drewN|apply Kd.R_drew));exact HO_278000.out⟩,⟨by (with_reducible repeat (first|refine blk_drewN ?_ _|refine blk_drew ?_|refine blk_alloc ?_ _));exact BK277.out⟩,⟨by repeat (first|(with_reducible first|exact HB.out|apply below_alloc|apply pw_below_drewN|apply below_drew1|refine below_set ?_ GE277.out)|exact HB.out)⟩⟩
           ·rw [if_neg c33] at H
            have c33b0 : ((rd t278 (ji29)) == x11_2) = false:=beq_eq_false_iff_ne.mpr c33
            have c33b1 : ((rd t278 (ji29)) != x11_2) = true:=bne_iff_ne.mpr c33
            by_cases c57 : ((x9_2 ++ a2).size : Int) > 1000
            ·rw [if_pos c57] at H
             have c57b0 : decide (1000 < ((x9_2 ++ a2).size : Int)) = true:=decide_eq_true c57
             have c57b1 : decide (1000 < (x9_2 ++ a2).size) = true:=decide_eq_true (by omega)
             have c57s:=c57b0
             simp only [ByteArray.size_append,Int.natCast_add,decide_eq_true_eq,decide_eq_false_iff_not] at c57s
             replace c57s:=eq_true c57s
             clear c57
             by_cases c58 : 0 ≤ 1000
             ·rw [if_pos c58] at H
              have c58b0:=eq_true c58
              have c58b1 : decide (0 ≤ 1000) = true:=decide_eq_true c58
              clear c58
              by_cases c59 : 1000 ≤ ((x9_2 ++ a2).size : Int)
              ·rw [if_pos c59] at H
               have c59b0:=eq_true c59
               have c59b1 : decide (1000 ≤ ((x9_2 ++ a2).size : Int)) = true:=decide_eq_true c59
               have H':=Aside0.mk H
               clear H
               have hcz60_0 : wr.cell? ⟨gb277,0,none⟩ = some (.slice Ao13 t273.length co13):=(blk_cell BK277.out 0).trans rfl
               have hcz60_1 : wr.cell? ⟨gb277,1,none⟩ = some (.int .i64 t276):=(blk_cell BK277.out 1).trans rfl
               have hfz60_0:=blk_frozen BK277.out 0
               have hfz60_1:=blk_frozen BK277.out 1
               go_wp2_with (first|((with_reducible refine gate_callee (f:=39) rfl ?_);refine goesL_ (some 32) rfl rfl Tryd.func39 (by kernel_rfl) rfl #[.agg #[.slice Ao13 t273.length co13,.int .i64 t276],.slice A0 l0.length c0,.string a1,.int .i64 x11_2] rfl (by (try simp only [List.map_toArray,List.map_cons,List.map_nil]);first|done|rfl|(simp only [List.length_drop,List.length_take];rfl)) ?_;(with_reducible refine (spec_l2ends.calls k2 _ _ t273 t276 _ _ l0 a1 x11_2 t278 _ ?side1 ?side2 ?side3 ?side4 A16.out).mono ?_);(case side1=>repeat (first|exact (Kd.R_reads' HO_278000.out).2.2|(with_reducible refine Kd.C_alloc ?_ _)|(with_reducible refine Kd.C_drewN ?_ _)|(with_reducible refine Kd.C_drew ?_)));(case side2=>exact (Kd.R_reads' HO_278000.out).2.1);(case side3=>repeat (first|exact (Kd.C_below HR0.out HB.out)|(with_reducible refine Kd.C_alloc ?_ _)|(with_reducible refine Kd.C_drewN ?_ _)|(with_reducible refine Kd.C_drew ?_)));(case side4=>exact HC0.out);rintro e w61 ⟨v279,rfl,ho0,hb⟩;refine ⟨_,rfl,?_⟩;have n0_:=Aside0.mk (Kd.R_below (by (with_reducible repeat (first|apply Kd.R_alloc|apply Kd.R_drewN|apply Kd.R_drew));exact HO_278000.out) hb);have n1_:=Aside0.mk (Kd.R_lower ho0 (below_size (by repeat (first|(with_reducible first|exact HB.out|apply below_alloc|apply pw_below_drewN|apply below_drew1|refine below_set ?_ GE277.out)|exact HB.out))));have n2_:=Aside0.mk (blk_below (g:=gb277) (o:=.cells #[.slice Ao13 t273.length co13,.int .i64 t276] 59 (0,0)) (by (with_reducible repeat (first|refine blk_drewN ?_ _|refine blk_drew ?_|refine blk_alloc ?_ _));exact BK277.out) hb);have n3_:=Aside0.mk (below_step (by repeat (first|(with_reducible first|exact HB.out|apply below_alloc|apply pw_below_drewN|apply below_drew1|refine below_set ?_ GE277.out)|exact HB.out)) hb);clear HO_278000;clear BK277;clear HB;have HO_278000:=n0_;have HO280:=n1_;have BK277:=n2_;have HB:=n3_;clear n0_ n1_ n2_ n3_;(try clear hb);(try clear hb2);(try clear hk);(try clear hi);(try clear ho0);obtain ⟨Ao62,co62,eo62⟩:=Kd.R_slice HO280.out;subst eo62;have p281 : 0 ≤ ((ji29) : Int):=of_decide_eq_true (by first|(with_reducible assumption)|assumption);have q281 : (ji29) < (t278.length : Int):=of_decide_eq_true (by first|(with_reducible assumption)|assumption);obtain ⟨ad281,e281,hx281_0⟩:=Kd.at_int (Kd.R_reads' HO280.out).2.2 (ji29) p281 q281;cases e281;replace p281:=eq_true p281;replace q281:=eq_true q281))
               go_roundg k2
               case measure=>have:=HJ3.out;have:=HK2.out;omega
               case rel=>exact ⟨((x9_2 ++ a2).extract 0 1000),(wrap64 (x10_2 + 1)),(rd t278 (ji29)),(by first|rfl|(simp;done)|(simp [*];done)),(by first|rfl|(simp;done)|(simp [*];done)),(by first|rfl|(simp;done)|(simp only [← hji29] <;> (first|rfl|simp))|(simp [*];done)),H',⟨by have:=HJ3.out;have:=HK2.out;omega⟩,⟨by (with_reducible repeat (first|apply Kd.R_alloc|apply Kd.R_drewN|apply Kd.R_drew));exact HO_278000.out⟩,⟨by (with_reducible repeat (first|refine blk_drewN ?_ _|refine blk_drew ?_|refine blk_alloc ?_ _));exact BK277.out⟩,⟨by repeat (first|(with_reducible first|exact HB.out|apply below_alloc|apply pw_below_drewN|apply below_drew1|refine below_set ?_ GE277.out)|exact HB.out)⟩⟩
              ·rw [if_neg c59] at H
               exact absurd H (by simp)
             ·rw [if_neg c58] at H
              exact absurd H (by simp)
            ·rw [if_neg c57] at H
             have c57b0 : decide (1000 < ((x9_2 ++ a2).size : Int)) = false:=decide_eq_false c57
             have c57b1 : decide (1000 < (x9_2 ++ a2).size) = false:=decide_eq_false (by omega)
             have c57s:=c57b0
             simp only [ByteArray.size_append,Int.natCast_add,decide_eq_true_eq,decide_eq_false_iff_not] at c57s
             replace c57s:=eq_false c57s
             clear c57
             have H':=Aside0.mk H
             clear H
             have hcz63_0 : wr.cell? ⟨gb277,0,none⟩ = some (.slice Ao13 t273.length co13):=(blk_cell BK277.out 0).trans rfl
             have hcz63_1 : wr.cell? ⟨gb277,1,none⟩ = some (.int .i64 t276):=(blk_cell BK277.out 1).trans rfl
             have hfz63_0:=blk_frozen BK277.out 0
             have hfz63_1:=blk_frozen BK277.out 1
             go_wp2_with (first|((with_reducible refine gate_callee (f:=39) rfl ?_);refine goesL_ (some 32) rfl rfl Tryd.func39 (by kernel_rfl) rfl #[.agg #[.slice Ao13 t273.length co13,.int .i64 t276],.slice A0 l0.length c0,.string a1,.int .i64 x11_2] rfl (by (try simp only [List.map_toArray,List.map_cons,List.map_nil]);first|done|rfl|(simp only [List.length_drop,List.length_take];rfl)) ?_;(with_reducible refine (spec_l2ends.calls k2 _ _ t273 t276 _ _ l0 a1 x11_2 t278 _ ?side1 ?side2 ?side3 ?side4 A16.out).mono ?_);(case side1=>repeat (first|exact (Kd.R_reads' HO_278000.out).2.2|(with_reducible refine Kd.C_alloc ?_ _)|(with_reducible refine Kd.C_drewN ?_ _)|(with_reducible refine Kd.C_drew ?_)));(case side2=>exact (Kd.R_reads' HO_278000.out).2.1);(case side3=>repeat (first|exact (Kd.C_below HR0.out HB.out)|(with_reducible refine Kd.C_alloc ?_ _)|(with_reducible refine Kd.C_drewN ?_ _)|(with_reducible refine Kd.C_drew ?_)));(case side4=>exact HC0.out);rintro e w64 ⟨v279,rfl,ho0,hb⟩;refine ⟨_,rfl,?_⟩;have n0_:=Aside0.mk (Kd.R_below (by (with_reducible repeat (first|apply Kd.R_alloc|apply Kd.R_drewN|apply Kd.R_drew));exact HO_278000.out) hb);have n1_:=Aside0.mk (Kd.R_lower ho0 (below_size (by repeat (first|(with_reducible first|exact HB.out|apply below_alloc|apply pw_below_drewN|apply below_drew1|refine below_set ?_ GE277.out)|exact HB.out))));have n2_:=Aside0.mk (blk_below (g:=gb277) (o:=.cells #[.slice Ao13 t273.length co13,.int .i64 t276] 59 (0,0)) (by (with_reducible repeat (first|refine blk_drewN ?_ _|refine blk_drew ?_|refine blk_alloc ?_ _));exact BK277.out) hb);have n3_:=Aside0.mk (below_step (by repeat (first|(with_reducible first|exact HB.out|apply below_alloc|apply pw_below_drewN|apply below_drew1|refine below_set ?_ GE277.out)|exact HB.out)) hb);clear HO_278000;clear BK277;clear HB;have HO_278000:=n0_;have HO280:=n1_;have BK277:=n2_;have HB:=n3_;clear n0_ n1_ n2_ n3_;(try clear hb);(try clear hb2);(try clear hk);(try clear hi);(try clear ho0);obtain ⟨Ao65,co65,eo65⟩:=Kd.R_slice HO280.out;subst eo65;have p281 : 0 ≤ ((ji29) : Int):=of_decide_eq_true (by first|(with_reducible assumption)|assumption);have q281 : (ji29) < (t278.length : Int):=of_decide_eq_true (by first|(with_reducible assumption)|assumption);obtain ⟨ad281,e281,hx281_0⟩:=Kd.at_int (Kd.R_reads' HO280.out).2.2 (ji29) p281 q281;cases e281;replace p281:=eq_true p281;replace q281:=eq_true q281))
             go_roundg k2
             case measure=>have:=HJ3.out;have:=HK2.out;omega
             case rel=>exact ⟨(x9_2 ++ a2),(wrap64 (x10_2 + 1)),(rd t278 (ji29)),(by first|rfl|(simp;done)|(simp [*];done)),(by first|rfl|(simp;done)|(simp [*];done)),(by first|rfl|(simp;done)|(simp only [← hji29] <;> (first|rfl|simp))|(simp [*];done)),H',⟨by have:=HJ3.out;have:=HK2.out;omega⟩,⟨by (with_reducible repeat (first|apply Kd.R_alloc|apply Kd.R_drewN|apply Kd.R_drew));exact HO_278000.out⟩,⟨by (with_reducible repeat (first|refine blk_drewN ?_ _|refine blk_drew ?_|refine blk_alloc ?_ _));exact BK277.out⟩,⟨by repeat (first|(with_reducible first|exact HB.out|apply below_alloc|apply pw_below_drewN|apply below_drew1|refine below_set ?_ GE277.out)|exact HB.out)⟩⟩
          ·rw [if_neg c32] at H
           exact absurd H (by simp)
         ·rw [if_neg c31] at H
          exact absurd H (by simp)
        ·rw [if_neg c30] at H
         exact absurd H (by simp)
      ·rw [if_neg c15] at H
       have c15b0 : decide (x11_2 ≤ (a1.size : Int)) = false:=decide_eq_false c15
       clear c15
       simp only [Option.some.injEq,Prod.mk.injEq] at H
       obtain ⟨rfl,rfl⟩:=H
       go_wp2
       go_ret2
       exact ⟨by first|rfl|(simp [errW_none,errW_some] <;> rfl)|(simp [*,errW_none,errW_some] <;> rfl),by repeat (first|(with_reducible first|exact HB.out|apply below_alloc|apply pw_below_drewN|apply below_drew1|refine below_set ?_ GE277.out)|exact HB.out)⟩
def spec_ReCount.f (k : Nat) (l0 : List (S49)) (a1 : ByteArray) : Option (Int):=(spec_l2sub.f k l0 a1 (⟨#[]⟩ : ByteArray)).bind fun bt282=>(some bt282.2)
set_option maxHeartbeats 8000000 in
set_option maxRecDepth 100000 in
theorem spec_ReCount.calls (k : Nat) (A0 : Option Addr) (c0 : Nat) (l0 : List (S49)) (a1 : ByteArray) (r : Int) (w : World) (hr0 : Kd.C k49 w A0 l0.length l0) (hc0 : l0.length ≤ c0) (h : spec_ReCount.f k l0 a1 = some r) :
  Calls Tryd.prog 24 #[.slice A0 l0.length c0,.string a1] w fun e w'=>e = .returned (.int .i64 r) ∧ Below w.heap.size w w':=by
 have HR0:=Aside0.mk hr0
 have HC0:=Aside0.mk hc0
 clear hr0 hc0
 have HB:=Aside0.mk (Below.refl w.heap.size w)
 have H : ((spec_l2sub.f k l0 a1 (⟨#[]⟩ : ByteArray)).bind fun bt282=>(some bt282.2)) = some r:=h
 clear h
 replace H:=Option.bind_eq_some_iff.mp H
 obtain ⟨⟨t282,t283⟩,A30,H⟩:=H
 replace H : (some t283) = some r:=H
 have A3:=Aside0.mk A30
 clear A30
 obtain rfl:=Option.some.inj H
 go_enter Tryd.func24,Tryd.ntmps24
 go_wp2_with (first|((with_reducible refine gate_callee (f:=47) rfl ?_);refine goesL_ (some 10) rfl rfl Tryd.func47 (by kernel_rfl) rfl #[.slice A0 l0.length c0,.string a1,.string (⟨#[]⟩ : ByteArray)] rfl (by (try simp only [List.map_toArray,List.map_cons,List.map_nil]);first|done|rfl|(simp only [List.length_drop,List.length_take];rfl)) ?_;(with_reducible refine (spec_l2sub.calls k _ _ l0 a1 (⟨#[]⟩ : ByteArray) t282 t283 _ ?side1 ?side2 A3.out).mono ?_);(case side1=>repeat (first|exact HR0.out|(with_reducible refine Kd.C_alloc ?_ _)|(with_reducible refine Kd.C_drewN ?_ _)|(with_reducible refine Kd.C_drew ?_)));(case side2=>exact HC0.out);rintro e w4 ⟨rfl,hb⟩;refine ⟨_,rfl,?_⟩;have n0_:=Aside0.mk (below_step (by repeat (first|(with_reducible first|exact HB.out|apply below_alloc|apply pw_below_drewN|apply below_drew1)|exact HB.out)) hb);clear HB;have HB:=n0_;clear n0_;(try clear hb);(try clear hb2);(try clear hk);(try clear hi)))
 go_ret
 exact ⟨by first|rfl|(simp [errW_none,errW_some] <;> rfl)|(simp [*,errW_none,errW_some] <;> rfl),by repeat (first|(with_reducible first|exact HB.out|apply below_alloc|apply pw_below_drewN|apply below_drew1)|exact HB.out)⟩
def spec_ReSub.f (k : Nat) (l0 : List (S49)) (a1 : ByteArray) (a2 : ByteArray) : Option (ByteArray × Int):=if (a2.size : Int) > 500 then ((spec_ReCount.f k l0 a1).bind fun t297=>(if t297 = 0 then (some (a1,0)) else (some ((⟨#[]⟩ : ByteArray),(-1))))) else ((spec_l2sub.f k l0 a1 a2).bind fun bt298=>(if bt298.2 < 0 then (some ((⟨#[]⟩ : ByteArray),(-1))) else (if (bt298.1.size : Int) > 500 then (some ((⟨#[]⟩ : ByteArray),(-1))) else (some (bt298.1,bt298.2)))))
set_option maxHeartbeats 8000000 in
set_option maxRecDepth 100000 in
theorem spec_ReSub.calls (k : Nat) (A0 : Option Addr) (c0 : Nat) (l0 : List (S49)) (a1 : ByteArray) (a2 : ByteArray) (r1 : ByteArray) (r2 : Int) (w : World) (hr0 : Kd.C k49 w A0 l0.length l0) (hc0 : l0.length ≤ c0) (h : spec_ReSub.f k l0 a1 a2 = some (r1,r2)) :
  Calls Tryd.prog 26 #[.slice A0 l0.length c0,.string a1,.string a2] w fun e w'=>e = .returned (.tuple #[.string r1,.int .i64 r2]) ∧ Below w.heap.size w w':=by
 have HR0:=Aside0.mk hr0
 have HC0:=Aside0.mk hc0
 clear hr0 hc0
 have HB:=Aside0.mk (Below.refl w.heap.size w)
 have H : (if (a2.size : Int) > 500 then ((spec_ReCount.f k l0 a1).bind fun t297=>(if t297 = 0 then (some (a1,0)) else (some ((⟨#[]⟩ : ByteArray),(-1))))) else ((spec_l2sub.f k l0 a1 a2).bind fun bt298=>(if bt298.2 < 0 then (some ((⟨#[]⟩ : ByteArray),(-1))) else (if (bt298.1.size : Int) > 500 then (some ((⟨#[]⟩ : ByteArray),(-1))) else (some (bt298.1,bt298.2)))))) = some (r1,r2):=h
 clear h
 by_cases c4 : (a2.size : Int) > 500
 ·rw [if_pos c4] at H
  have c4b0 : decide (500 < (a2.size : Int)) = true:=decide_eq_true c4
  have c4b1 : decide (500 < a2.size) = true:=decide_eq_true (by omega)
  clear c4
  replace H:=Option.bind_eq_some_iff.mp H
  obtain ⟨t297,A50,H⟩:=H
  replace H : (if t297 = 0 then (some (a1,0)) else (some ((⟨#[]⟩ : ByteArray),(-1)))) = some (r1,r2):=H
  have A5:=Aside0.mk A50
  clear A50
  by_cases c6 : t297 = 0
  ·rw [if_pos c6] at H
   have c6b0 : (t297 == 0) = true:=beq_iff_eq.mpr c6
   have c6b1 : (t297 != 0) = false:=bne_eq_false_iff_eq.mpr c6
   clear c6
   simp only [Option.some.injEq,Prod.mk.injEq] at H
   obtain ⟨rfl,rfl⟩:=H
   go_enter Tryd.func26,Tryd.ntmps26
   go_wp2_with (first|((with_reducible refine gate_callee (f:=24) rfl ?_);refine goesL_ (some 15) rfl rfl Tryd.func24 (by kernel_rfl) rfl #[.slice A0 l0.length c0,.string a1] rfl (by (try simp only [List.map_toArray,List.map_cons,List.map_nil]);first|done|rfl|(simp only [List.length_drop,List.length_take];rfl)) ?_;(with_reducible refine (spec_ReCount.calls k _ _ l0 a1 t297 _ ?side1 ?side2 A5.out).mono ?_);(case side1=>repeat (first|exact HR0.out|(with_reducible refine Kd.C_alloc ?_ _)|(with_reducible refine Kd.C_drewN ?_ _)|(with_reducible refine Kd.C_drew ?_)));(case side2=>exact HC0.out);rintro e w7 ⟨rfl,hb⟩;refine ⟨_,rfl,?_⟩;have n0_:=Aside0.mk (below_step (by repeat (first|(with_reducible first|exact HB.out|apply below_alloc|apply pw_below_drewN|apply below_drew1)|exact HB.out)) hb);clear HB;have HB:=n0_;clear n0_;(try clear hb);(try clear hb2);(try clear hk);(try clear hi)))
   go_ret2
   exact ⟨by first|rfl|(simp [errW_none,errW_some] <;> rfl)|(simp [*,errW_none,errW_some] <;> rfl),by repeat (first|(with_reducible first|exact HB.out|apply below_alloc|apply pw_below_drewN|apply below_drew1)|exact HB.out)⟩
  ·rw [if_neg c6] at H
   have c6b0 : (t297 == 0) = false:=beq_eq_false_iff_ne.mpr c6
   have c6b1 : (t297 != 0) = true:=bne_iff_ne.mpr c6
   simp only [Option.some.injEq,Prod.mk.injEq] at H
   obtain ⟨rfl,rfl⟩:=H
   go_enter Tryd.func26,Tryd.ntmps26
   go_wp2_with (first|((with_reducible refine gate_callee (f:=24) rfl ?_);refine goesL_ (some 15) rfl rfl Tryd.func24 (by kernel_rfl) rfl #[.slice A0 l0.length c0,.string a1] rfl (by (try simp only [List.map_toArray,List.map_cons,List.map_nil]);first|done|rfl|(simp only [List.length_drop,List.length_take];rfl)) ?_;(with_reducible refine (spec_ReCount.calls k _ _ l0 a1 t297 _ ?side1 ?side2 A5.out).mono ?_);(case side1=>repeat (first|exact HR0.out|(with_reducible refine Kd.C_alloc ?_ _)|(with_reducible refine Kd.C_drewN ?_ _)|(with_reducible refine Kd.C_drew ?_)));(case side2=>exact HC0.out);rintro e w8 ⟨rfl,hb⟩;refine ⟨_,rfl,?_⟩;have n0_:=Aside0.mk (below_step (by repeat (first|(with_reducible first|exact HB.out|apply below_alloc|apply pw_below_drewN|apply below_drew1)|exact HB.out)) hb);clear HB;have HB:=n0_;clear n0_;(try clear hb);(try clear hb2);(try clear hk);(try clear hi)))
   go_ret2
   exact ⟨by first|rfl|(simp [errW_none,errW_some] <;> rfl)|(simp [*,errW_none,errW_some] <;> rfl),by repeat (first|(with_reducible first|exact HB.out|apply below_alloc|apply pw_below_drewN|apply below_drew1)|exact HB.out)⟩
 ·rw [if_neg c4] at H
  have c4b0 : decide (500 < (a2.size : Int)) = false:=decide_eq_false c4
  have c4b1 : decide (500 < a2.size) = false:=decide_eq_false (by omega)
  clear c4
  replace H:=Option.bind_eq_some_iff.mp H
  obtain ⟨⟨t298,t299⟩,A90,H⟩:=H
  replace H : (if t299 < 0 then (some ((⟨#[]⟩ : ByteArray),(-1))) else (if (t298.size : Int) > 500 then (some ((⟨#[]⟩ : ByteArray),(-1))) else (some (t298,t299)))) = some (r1,r2):=H
  have A9:=Aside0.mk A90
  clear A90
  by_cases c10 : t299 < 0
  ·rw [if_pos c10] at H
   have c10b0 : decide (t299 < 0) = true:=decide_eq_true c10
   clear c10
   simp only [Option.some.injEq,Prod.mk.injEq] at H
   obtain ⟨rfl,rfl⟩:=H
   go_enter Tryd.func26,Tryd.ntmps26
   go_wp2_with (first|((with_reducible refine gate_callee (f:=47) rfl ?_);refine goesL_ (some 22) rfl rfl Tryd.func47 (by kernel_rfl) rfl #[.slice A0 l0.length c0,.string a1,.string a2] rfl (by (try simp only [List.map_toArray,List.map_cons,List.map_nil]);first|done|rfl|(simp only [List.length_drop,List.length_take];rfl)) ?_;(with_reducible refine (spec_l2sub.calls k _ _ l0 a1 a2 t298 t299 _ ?side1 ?side2 A9.out).mono ?_);(case side1=>repeat (first|exact HR0.out|(with_reducible refine Kd.C_alloc ?_ _)|(with_reducible refine Kd.C_drewN ?_ _)|(with_reducible refine Kd.C_drew ?_)));(case side2=>exact HC0.out);rintro e w11 ⟨rfl,hb⟩;refine ⟨_,rfl,?_⟩;have n0_:=Aside0.mk (below_step (by repeat (first|(with_reducible first|exact HB.out|apply below_alloc|apply pw_below_drewN|apply below_drew1)|exact HB.out)) hb);clear HB;have HB:=n0_;clear n0_;(try clear hb);(try clear hb2);(try clear hk);(try clear hi)))
   go_ret2
   exact ⟨by first|rfl|(simp [errW_none,errW_some] <;> rfl)|(simp [*,errW_none,errW_some] <;> rfl),by repeat (first|(with_reducible first|exact HB.out|apply below_alloc|apply pw_below_drewN|apply below_drew1)|exact HB.out)⟩
  ·rw [if_neg c10] at H
   have c10b0 : decide (t299 < 0) = false:=decide_eq_false c10
   clear c10
   by_cases c12 : (t298.size : Int) > 500
   ·rw [if_pos c12] at H
    have c12b0 : decide (500 < (t298.size : Int)) = true:=decide_eq_true c12
    have c12b1 : decide (500 < t298.size) = true:=decide_eq_true (by omega)
    clear c12
    simp only [Option.some.injEq,Prod.mk.injEq] at H
    obtain ⟨rfl,rfl⟩:=H
    go_enter Tryd.func26,Tryd.ntmps26
    go_wp2_with (first|((with_reducible refine gate_callee (f:=47) rfl ?_);refine goesL_ (some 22) rfl rfl Tryd.func47 (by kernel_rfl) rfl #[.slice A0 l0.length c0,.string a1,.string a2] rfl (by (try simp only [List.map_toArray,List.map_cons,List.map_nil]);first|done|rfl|(simp only [List.length_drop,List.length_take];rfl)) ?_;(with_reducible refine (spec_l2sub.calls k _ _ l0 a1 a2 t298 t299 _ ?side1 ?side2 A9.out).mono ?_);(case side1=>repeat (first|exact HR0.out|(with_reducible refine Kd.C_alloc ?_ _)|(with_reducible refine Kd.C_drewN ?_ _)|(with_reducible refine Kd.C_drew ?_)));(case side2=>exact HC0.out);rintro e w13 ⟨rfl,hb⟩;refine ⟨_,rfl,?_⟩;have n0_:=Aside0.mk (below_step (by repeat (first|(with_reducible first|exact HB.out|apply below_alloc|apply pw_below_drewN|apply below_drew1)|exact HB.out)) hb);clear HB;have HB:=n0_;clear n0_;(try clear hb);(try clear hb2);(try clear hk);(try clear hi)))
    go_ret2
    exact ⟨by first|rfl|(simp [errW_none,errW_some] <;> rfl)|(simp [*,errW_none,errW_some] <;> rfl),by repeat (first|(with_reducible first|exact HB.out|apply below_alloc|apply pw_below_drewN|apply below_drew1)|exact HB.out)⟩
   ·rw [if_neg c12] at H
    have c12b0 : decide (500 < (t298.size : Int)) = false:=decide_eq_false c12
    have c12b1 : decide (500 < t298.size) = false:=decide_eq_false (by omega)
    clear c12
    simp only [Option.some.injEq,Prod.mk.injEq] at H
    obtain ⟨rfl,rfl⟩:=H
    go_enter Tryd.func26,Tryd.ntmps26
    go_wp2_with (first|((with_reducible refine gate_callee (f:=47) rfl ?_);refine goesL_ (some 22) rfl rfl Tryd.func47 (by kernel_rfl) rfl #[.slice A0 l0.length c0,.string a1,.string a2] rfl (by (try simp only [List.map_toArray,List.map_cons,List.map_nil]);first|done|rfl|(simp only [List.length_drop,List.length_take];rfl)) ?_;(with_reducible refine (spec_l2sub.calls k _ _ l0 a1 a2 t298 t299 _ ?side1 ?side2 A9.out).mono ?_);(case side1=>repeat (first|exact HR0.out|(with_reducible refine Kd.C_alloc ?_ _)|(with_reducible refine Kd.C_drewN ?_ _)|(with_reducible refine Kd.C_drew ?_)));(case side2=>exact HC0.out);rintro e w14 ⟨rfl,hb⟩;refine ⟨_,rfl,?_⟩;have n0_:=Aside0.mk (below_step (by repeat (first|(with_reducible first|exact HB.out|apply below_alloc|apply pw_below_drewN|apply below_drew1)|exact HB.out)) hb);clear HB;have HB:=n0_;clear n0_;(try clear hb);(try clear hb2);(try clear hk);(try clear hi)))
    go_ret2
    exact ⟨by first|rfl|(simp [errW_none,errW_some] <;> rfl)|(simp [*,errW_none,errW_some] <;> rfl),by repeat (first|(with_reducible first|exact HB.out|apply below_alloc|apply pw_below_drewN|apply below_drew1)|exact HB.out)⟩
end Go.Proofs.YtlakdfbfkbndiaaDoor.Q
namespace Go.Proofs.YtlakdfbfkbndiaaDoor.Q
open Go.RowKit Go.Proofs.YtlakdfbfkbndiaaDoorW.PrintWords Go.Proofs.YtlakdfbfkbndiaaDoorW.PrintLast Go.Proofs.YtlakdfbfkbndiaaDoorW.PrintMore
attribute [local go_sem] max2_int min2_int max_two min_two max_three min_three max_four min_four   -- for this text's walks alone
set_option linter.unusedVariables false
set_option linter.unusedSimpArgs false
noncomputable def laws_FnExactReSub.j0 : Nat → List (S56) → List (S49) → Bool → Option (Bool)
 | 0,_,_,_=>none
 | k + 1,x0,x10,x48=>if x48 = true then (some false) else ((laws_toReNodeS.f k x0).bind fun t311=>((laws_eqReNodeS.f k x10 t311).bind fun t314=>(if t314 = true then (some true) else (some false))))
noncomputable def laws_FnExactReSub.f (k : Nat) (l0 : List (S56)) (a1 : ByteArray) (a2 : ByteArray) : Option (Bool):=if (a1.size : Int) > 1048576 then (some true) else (if (a2.size : Int) > 1048576 then (some true) else ((laws_szReNodeS.f k l0 1048576).bind fun t300=>(if t300 < 0 then (some true) else ((laws_toReNodeS.f k l0).bind fun t301=>((spec_ReSub.f k t301 a1 a2).bind fun bt304=>((laws_toReNodeS.f k l0).bind fun t306=>((impl_ReSub.f t306 a1 a2).bind fun bt309=>(if bt309.1.toList = bt304.1.toList then (laws_FnExactReSub.j0 k l0 t306 (bt309.2 != bt304.2)) else (laws_FnExactReSub.j0 k l0 t306 true)))))))))
set_option maxHeartbeats 8000000 in
set_option maxRecDepth 100000 in
theorem laws_FnExactReSub.calls (k : Nat) (A0 : Option Addr) (c0 : Nat) (l0 : List (S56)) (a1 : ByteArray) (a2 : ByteArray) (r : Bool) (w : World) (hr0 : Kd.C k56 w A0 l0.length l0) (hc0 : l0.length ≤ c0) (h : laws_FnExactReSub.f k l0 a1 a2 = some r) (hT : Tabs w:=by first|assumption|(refine Aside0.out (p:=Tabs _) ?_;assumption)|(refine Tabs.below (w:=?ww) (Aside0.out ?ha) ?hb;(case ha=>assumption);(case hb=>repeat (first|(with_reducible first|exact Below.refl _ _|(refine Aside0.out ?_;assumption)|apply below_alloc|apply pw_below_drewN|apply below_drew1|(refine below_set ?_ (Aside0.out ?_);(rotate_left;assumption)))|(refine Aside0.out ?_;assumption))))|(refine Tabs.drewN (w:=?ww) (Aside0.out ?ha) _;(case ha=>assumption))) (hr : r = true:=by first|assumption|rfl|(refine Aside0.out ?_;assumption)) :
  Calls Tryd.prog 7 #[.slice A0 l0.length c0,.string a1,.string a2] w fun e w'=>e = .returned (.bool r) ∧ Below w.heap.size w w':=by
 have HT_:=Aside0.mk hT
 clear hT
 subst hr
 have HR0:=Aside0.mk hr0
 have HC0:=Aside0.mk hc0
 clear hr0 hc0
 have HB:=Aside0.mk (Below.refl w.heap.size w)
 have H : (if (a1.size : Int) > 1048576 then (some true) else (if (a2.size : Int) > 1048576 then (some true) else ((laws_szReNodeS.f k l0 1048576).bind fun t300=>(if t300 < 0 then (some true) else ((laws_toReNodeS.f k l0).bind fun t301=>((spec_ReSub.f k t301 a1 a2).bind fun bt304=>((laws_toReNodeS.f k l0).bind fun t306=>((impl_ReSub.f t306 a1 a2).bind fun bt309=>(if bt309.1.toList = bt304.1.toList then (laws_FnExactReSub.j0 k l0 t306 (bt309.2 != bt304.2)) else (laws_FnExactReSub.j0 k l0 t306 true)))))))))) = some true:=h
 clear h
 by_cases c4 : (a1.size : Int) > 1048576
 ·rw [if_pos c4] at H
  have c4b0 : decide (1048576 < (a1.size : Int)) = true:=decide_eq_true c4
  have c4b1 : decide (1048576 < a1.size) = true:=decide_eq_true (by omega)
  clear c4
  clear H
  go_enter Tryd.func7,Tryd.ntmps7
  go_wp2
  go_ret
  exact ⟨by first|rfl|(rw [HOR_.out];done)|(rw [HOR_.out];rfl)|(simp [HOR_.out];done)|(have h_:=HOR_.out;simp at h_;subst h_;first|rfl|(simp;done))|(have h_:=HOR_.out;simp at h_ ⊢;exact h_)|(simp [errW_none,errW_some] <;> rfl)|(simp [*,errW_none,errW_some] <;> rfl),by repeat (first|(with_reducible first|exact HB.out|apply below_alloc|apply pw_below_drewN|apply below_drew1)|exact HB.out)⟩
 ·rw [if_neg c4] at H
  have c4b0 : decide (1048576 < (a1.size : Int)) = false:=decide_eq_false c4
  have c4b1 : decide (1048576 < a1.size) = false:=decide_eq_false (by omega)
  clear c4
  by_cases c5 : (a2.size : Int) > 1048576
  ·rw [if_pos c5] at H
   have c5b0 : decide (1048576 < (a2.size : Int)) = true:=decide_eq_true c5
   have c5b1 : decide (1048576 < a2.size) = true:=decide_eq_true (by omega)
   clear c5
   clear H
   go_enter Tryd.func7,Tryd.ntmps7
   go_wp2
   go_ret
   exact ⟨by first|rfl|(rw [HOR_.out];done)|(rw [HOR_.out];rfl)|(simp [HOR_.out];done)|(have h_:=HOR_.out;simp at h_;subst h_;first|rfl|(simp;done))|(have h_:=HOR_.out;simp at h_ ⊢;exact h_)|(simp [errW_none,errW_some] <;> rfl)|(simp [*,errW_none,errW_some] <;> rfl),by repeat (first|(with_reducible first|exact HB.out|apply below_alloc|apply pw_below_drewN|apply below_drew1)|exact HB.out)⟩
  ·rw [if_neg c5] at H
   have c5b0 : decide (1048576 < (a2.size : Int)) = false:=decide_eq_false c5
   have c5b1 : decide (1048576 < a2.size) = false:=decide_eq_false (by omega)
   clear c5
   replace H:=Option.bind_eq_some_iff.mp H
   obtain ⟨t300,A60,H⟩:=H
   replace H : (if t300 < 0 then (some true) else ((laws_toReNodeS.f k l0).bind fun t301=>((spec_ReSub.f k t301 a1 a2).bind fun bt304=>((laws_toReNodeS.f k l0).bind fun t306=>((impl_ReSub.f t306 a1 a2).bind fun bt309=>(if bt309.1.toList = bt304.1.toList then (laws_FnExactReSub.j0 k l0 t306 (bt309.2 != bt304.2)) else (laws_FnExactReSub.j0 k l0 t306 true))))))) = some true:=H
   have A6:=Aside0.mk A60
   clear A60
   by_cases c7 : t300 < 0
   ·rw [if_pos c7] at H
    have c7b0 : decide (t300 < 0) = true:=decide_eq_true c7
    clear c7
    clear H
    go_enter Tryd.func7,Tryd.ntmps7
    go_wp2_with (first|((with_reducible refine gate_callee (f:=11) rfl ?_);refine goesL_ (some 21) rfl rfl Tryd.func11 (by kernel_rfl) rfl #[.slice A0 l0.length c0,.int .i64 1048576] rfl (by (try simp only [List.map_toArray,List.map_cons,List.map_nil]);first|done|rfl|(simp only [List.length_drop,List.length_take];rfl)) ?_;(with_reducible refine (laws_szReNodeS.calls k _ _ l0 1048576 t300 _ ?side1 ?side2 A6.out).mono ?_);(case side1=>repeat (first|exact HR0.out|(with_reducible refine Kd.C_alloc ?_ _)|(with_reducible refine Kd.C_drewN ?_ _)|(with_reducible refine Kd.C_drew ?_)));(case side2=>exact HC0.out);rintro e w8 ⟨rfl,hb⟩;refine ⟨_,rfl,?_⟩;have n0_:=Aside0.mk (below_step (by repeat (first|(with_reducible first|exact HB.out|apply below_alloc|apply pw_below_drewN|apply below_drew1)|exact HB.out)) hb);clear HB;have HB:=n0_;clear n0_;(try clear hb);(try clear hb2);(try clear hk);(try clear hi)))
    go_ret
    exact ⟨by first|rfl|(rw [HOR_.out];done)|(rw [HOR_.out];rfl)|(simp [HOR_.out];done)|(have h_:=HOR_.out;simp at h_;subst h_;first|rfl|(simp;done))|(have h_:=HOR_.out;simp at h_ ⊢;exact h_)|(simp [errW_none,errW_some] <;> rfl)|(simp [*,errW_none,errW_some] <;> rfl),by repeat (first|(with_reducible first|exact HB.out|apply below_alloc|apply pw_below_drewN|apply below_drew1)|exact HB.out)⟩
   ·rw [if_neg c7] at H
    have c7b0 : decide (t300 < 0) = false:=decide_eq_false c7
    clear c7
    replace H:=Option.bind_eq_some_iff.mp H
    obtain ⟨t301,A90,H⟩:=H
    replace H : ((spec_ReSub.f k t301 a1 a2).bind fun bt304=>((laws_toReNodeS.f k l0).bind fun t306=>((impl_ReSub.f t306 a1 a2).bind fun bt309=>(if bt309.1.toList = bt304.1.toList then (laws_FnExactReSub.j0 k l0 t306 (bt309.2 != bt304.2)) else (laws_FnExactReSub.j0 k l0 t306 true))))) = some true:=H
    have A9:=Aside0.mk A90
    clear A90
    replace H:=Option.bind_eq_some_iff.mp H
    obtain ⟨⟨t304,t305⟩,A100,H⟩:=H
    replace H : ((laws_toReNodeS.f k l0).bind fun t306=>((impl_ReSub.f t306 a1 a2).bind fun bt309=>(if bt309.1.toList = t304.toList then (laws_FnExactReSub.j0 k l0 t306 (bt309.2 != t305)) else (laws_FnExactReSub.j0 k l0 t306 true)))) = some true:=H
    have A10:=Aside0.mk A100
    clear A100
    replace H:=Option.bind_eq_some_iff.mp H
    obtain ⟨t306,A110,H⟩:=H
    replace H : ((impl_ReSub.f t306 a1 a2).bind fun bt309=>(if bt309.1.toList = t304.toList then (laws_FnExactReSub.j0 k l0 t306 (bt309.2 != t305)) else (laws_FnExactReSub.j0 k l0 t306 true))) = some true:=H
    have A11:=Aside0.mk A110
    clear A110
    replace H:=Option.bind_eq_some_iff.mp H
    obtain ⟨⟨t309,t310⟩,A120,H⟩:=H
    replace H : (if t309.toList = t304.toList then (laws_FnExactReSub.j0 k l0 t306 (t310 != t305)) else (laws_FnExactReSub.j0 k l0 t306 true)) = some true:=H
    have A12:=Aside0.mk A120
    clear A120
    have HC13:=Aside0.mk H
    clear H
    go_enter Tryd.func7,Tryd.ntmps7
    go_upto_region 12 with (first|((with_reducible refine gate_callee (f:=11) rfl ?_);refine goesL_ (some 21) rfl rfl Tryd.func11 (by kernel_rfl) rfl #[.slice A0 l0.length c0,.int .i64 1048576] rfl (by (try simp only [List.map_toArray,List.map_cons,List.map_nil]);first|done|rfl|(simp only [List.length_drop,List.length_take];rfl)) ?_;(with_reducible refine (laws_szReNodeS.calls k _ _ l0 1048576 t300 _ ?side1 ?side2 A6.out).mono ?_);(case side1=>repeat (first|exact HR0.out|(with_reducible refine Kd.C_alloc ?_ _)|(with_reducible refine Kd.C_drewN ?_ _)|(with_reducible refine Kd.C_drew ?_)));(case side2=>exact HC0.out);rintro e w14 ⟨rfl,hb⟩;refine ⟨_,rfl,?_⟩;have n0_:=Aside0.mk (below_step (by repeat (first|(with_reducible first|exact HB.out|apply below_alloc|apply pw_below_drewN|apply below_drew1)|exact HB.out)) hb);clear HB;have HB:=n0_;clear n0_;(try clear hb);(try clear hb2);(try clear hk);(try clear hi))|((with_reducible refine gate_callee (f:=13) rfl ?_);refine goesL_ (some 26) rfl rfl Tryd.func13 (by kernel_rfl) rfl #[.slice A0 l0.length c0] rfl (by (try simp only [List.map_toArray,List.map_cons,List.map_nil]);first|done|rfl|(simp only [List.length_drop,List.length_take];rfl)) ?_;(with_reducible refine (laws_toReNodeS.calls k _ _ l0 t301 _ ?side1 ?side2 A9.out).mono ?_);(case side1=>repeat (first|exact (Kd.C_below HR0.out HB.out)|(with_reducible refine Kd.C_alloc ?_ _)|(with_reducible refine Kd.C_drewN ?_ _)|(with_reducible refine Kd.C_drew ?_)));(case side2=>exact HC0.out);rintro e w15 ⟨v302,rfl,ho0,hb⟩;refine ⟨_,rfl,?_⟩;have n0_:=Aside0.mk (Kd.S_lower ho0 (below_size (by repeat (first|(with_reducible first|exact HB.out|apply below_alloc|apply pw_below_drewN|apply below_drew1)|exact HB.out))));have n1_:=Aside0.mk (below_step (by repeat (first|(with_reducible first|exact HB.out|apply below_alloc|apply pw_below_drewN|apply below_drew1)|exact HB.out)) hb);clear HB;have HO303:=n0_;have HB:=n1_;clear n0_ n1_;(try clear hb);(try clear hb2);(try clear hk);(try clear hi);(try clear ho0);obtain ⟨Ao16,co16,eo16⟩:=Kd.S_slice HO303.out;subst eo16)|((with_reducible refine gate_callee (f:=26) rfl ?_);refine goesL_ (some 29) rfl rfl Tryd.func26 (by kernel_rfl) rfl #[.slice Ao16 t301.length co16,.string a1,.string a2] rfl (by (try simp only [List.map_toArray,List.map_cons,List.map_nil]);first|done|rfl|(simp only [List.length_drop,List.length_take];rfl)) ?_;(with_reducible refine (spec_ReSub.calls k _ _ t301 a1 a2 t304 t305 _ ?side1 ?side2 A10.out).mono ?_);(case side1=>repeat (first|exact (Kd.S_reads' HO303.out).2.2|(with_reducible refine Kd.C_alloc ?_ _)|(with_reducible refine Kd.C_drewN ?_ _)|(with_reducible refine Kd.C_drew ?_)));(case side2=>exact (Kd.S_reads' HO303.out).2.1);rintro e w17 ⟨rfl,hb⟩;refine ⟨_,rfl,?_⟩;have n0_:=Aside0.mk (Kd.S_below (by (with_reducible repeat (first|apply Kd.S_alloc|apply Kd.S_drewN|apply Kd.S_drew));exact HO303.out) hb);have n1_:=Aside0.mk (below_step (by repeat (first|(with_reducible first|exact HB.out|apply below_alloc|apply pw_below_drewN|apply below_drew1)|exact HB.out)) hb);clear HO303;clear HB;have HO303:=n0_;have HB:=n1_;clear n0_ n1_;(try clear hb);(try clear hb2);(try clear hk);(try clear hi))|((with_reducible refine gate_callee (f:=13) rfl ?_);refine goesL_ (some 33) rfl rfl Tryd.func13 (by kernel_rfl) rfl #[.slice A0 l0.length c0] rfl (by (try simp only [List.map_toArray,List.map_cons,List.map_nil]);first|done|rfl|(simp only [List.length_drop,List.length_take];rfl)) ?_;(with_reducible refine (laws_toReNodeS.calls k _ _ l0 t306 _ ?side1 ?side2 A11.out).mono ?_);(case side1=>repeat (first|exact (Kd.C_below HR0.out HB.out)|(with_reducible refine Kd.C_alloc ?_ _)|(with_reducible refine Kd.C_drewN ?_ _)|(with_reducible refine Kd.C_drew ?_)));(case side2=>exact HC0.out);rintro e w18 ⟨v307,rfl,ho0,hb⟩;refine ⟨_,rfl,?_⟩;have n0_:=Aside0.mk (Kd.S_elder' (by (with_reducible repeat (first|apply Kd.S_alloc|apply Kd.S_drewN|apply Kd.S_drew));exact HO303.out) (Kd.S_base ho0) hb);have n1_:=Aside0.mk (Kd.S_lower (Kd.S_new' ho0 (Kd.S_lt (by (with_reducible repeat (first|apply Kd.S_alloc|apply Kd.S_drewN|apply Kd.S_drew));exact HO303.out))) (below_size (by repeat (first|(with_reducible first|exact HB.out|apply below_alloc|apply pw_below_drewN|apply below_drew1)|exact HB.out))));have n2_:=Aside0.mk (below_step (by repeat (first|(with_reducible first|exact HB.out|apply below_alloc|apply pw_below_drewN|apply below_drew1)|exact HB.out)) hb);clear HO303;clear HB;have HO303:=n0_;have HO308:=n1_;have HB:=n2_;clear n0_ n1_ n2_;(try clear hb);(try clear hb2);(try clear hk);(try clear hi);(try clear ho0);obtain ⟨Ao19,co19,eo19⟩:=Kd.S_slice HO308.out;subst eo19)|((with_reducible refine gate_callee (f:=27) rfl ?_);refine goesL_ (some 38) rfl rfl Tryd.func27 (by kernel_rfl) rfl #[.slice Ao19 t306.length co19,.string a1,.string a2] rfl (by (try simp only [List.map_toArray,List.map_cons,List.map_nil]);first|done|rfl|(simp only [List.length_drop,List.length_take];rfl)) ?_;(with_reducible refine (impl_ReSub.calls _ _ t306 a1 a2 t309 t310 _ ?side1 ?side2 A12.out).mono ?_);(case side1=>repeat (first|exact (Kd.S_reads' HO308.out).2.2|(with_reducible refine Kd.C_alloc ?_ _)|(with_reducible refine Kd.C_drewN ?_ _)|(with_reducible refine Kd.C_drew ?_)));(case side2=>exact (Kd.S_reads' HO308.out).2.1);rintro e w20 ⟨rfl,hb⟩;refine ⟨_,rfl,?_⟩;have n0_:=Aside0.mk (Kd.S_below (by (with_reducible repeat (first|apply Kd.S_alloc|apply Kd.S_drewN|apply Kd.S_drew));exact HO303.out) hb);have n1_:=Aside0.mk (Kd.S_below (by (with_reducible repeat (first|apply Kd.S_alloc|apply Kd.S_drewN|apply Kd.S_drew));exact HO308.out) hb);have n2_:=Aside0.mk (below_step (by repeat (first|(with_reducible first|exact HB.out|apply below_alloc|apply pw_below_drewN|apply below_drew1)|exact HB.out)) hb);clear HO303;clear HO308;clear HB;have HO303:=n0_;have HO308:=n1_;have HB:=n2_;clear n0_ n1_ n2_;(try clear hb);(try clear hb2);(try clear hk);(try clear hi)))
    (try simp only [Act.put,List.setIfInBounds_toArray,List.set_cons_zero,List.set_cons_succ])
    go_cut [48] (fun v48 wc=>∃ (kq : Nat) (x48_12 : Bool),v48 = .bool x48_12 ∧ Aside0 (laws_FnExactReSub.j0 kq l0 t306 x48_12 = some true) ∧ Aside0 (kq ≤ k) ∧ Aside0 (Kd.S k49 49 wc w.heap.size (fun _=>True) (.slice Ao19 t306.length co19) t306) ∧ Aside0 (Below w.heap.size w wc))
    case first =>
     have H:=HC13.out
     clear HC13
     by_cases c21 : t309.toList = t304.toList
     ·rw [if_pos c21] at H
      have c21b0 : (t309.toList == t304.toList) = true:=beq_iff_eq.mpr c21
      have c21b1 : (t309.toList != t304.toList) = false:=bne_eq_false_iff_eq.mpr c21
      clear c21
      (first|rw [c21b0]|(simp only [i64_w,i32_w];rw [c21b0])|skip)
      have H':=Aside0.mk H
      clear H
      go_wp2
      go_meet
      case rel=>exact ⟨_,((t310 != t305)),(by first|rfl|(simp;done)|(simp [*];done)),H',⟨by first|omega|exact Nat.le_refl _⟩,⟨by (with_reducible repeat (first|apply Kd.S_alloc|apply Kd.S_drewN|apply Kd.S_drew));exact Kd.S_mono HO308.out (fun _ hk=>trivial)⟩,⟨by repeat (first|(with_reducible first|exact HB.out|apply below_alloc|apply pw_below_drewN|apply below_drew1)|exact HB.out)⟩⟩
     ·rw [if_neg c21] at H
      have c21b0 : (t309.toList == t304.toList) = false:=beq_eq_false_iff_ne.mpr c21
      have c21b1 : (t309.toList != t304.toList) = true:=bne_iff_ne.mpr c21
      (first|rw [c21b0]|(simp only [i64_w,i32_w];rw [c21b0])|skip)
      have H':=Aside0.mk H
      clear H
      go_wp2
      go_meet
      case rel=>exact ⟨_,(true),(by first|rfl|(simp;done)|(simp [*];done)),H',⟨by first|omega|exact Nat.le_refl _⟩,⟨by (with_reducible repeat (first|apply Kd.S_alloc|apply Kd.S_drewN|apply Kd.S_drew));exact Kd.S_mono HO308.out (fun _ hk=>trivial)⟩,⟨by repeat (first|(with_reducible first|exact HB.out|apply below_alloc|apply pw_below_drewN|apply below_drew1)|exact HB.out)⟩⟩
    case rest =>
     clear HC13
     try clear c1
     try clear c2
     try clear p2
     try clear c4
     try clear c4b0
     try clear c4b1
     try clear c5
     try clear c5b0
     try clear c5b1
     try clear c7
     try clear c7b0
     try clear c11
     try clear c13
     try clear c21
     try clear c21b0
     try clear c21b1
     obtain ⟨kq,x48_12,rfl,HA,HJ12,HO_10,HB⟩:=hcut
     cases kq with
     | zero=>exact absurd HA.out (by simp [laws_FnExactReSub.j0])
     | succ kj12 =>
      have H:=HA.out
      clear HA
      simp only [laws_FnExactReSub.j0] at H
      by_cases c22 : x48_12 = true
      ·subst c22
       have H1 : (some false) = some true:=by rw [if_pos rfl] at H;exact H
       clear H
       have H:=H1
       clear H1
       exact absurd H (by simp)
      ·replace c22:=Bool.eq_false_iff.mpr c22
       subst c22
       have H1 : ((laws_toReNodeS.f kj12 l0).bind fun t311=>((laws_eqReNodeS.f kj12 t306 t311).bind fun t314=>(if t314 = true then (some true) else (some false)))) = some true:=by rw [if_neg (show ¬ (false = true) by decide)] at H;exact H
       clear H
       have H:=H1
       clear H1
       replace H:=Option.bind_eq_some_iff.mp H
       obtain ⟨t311,A230,H⟩:=H
       replace H : ((laws_eqReNodeS.f kj12 t306 t311).bind fun t314=>(if t314 = true then (some true) else (some false))) = some true:=H
       have A23:=Aside0.mk A230
       clear A230
       replace H:=Option.bind_eq_some_iff.mp H
       obtain ⟨t314,A240,H⟩:=H
       replace H : (if t314 = true then (some true) else (some false)) = some true:=H
       have A24:=Aside0.mk A240
       clear A240
       by_cases c25 : t314 = true
       ·subst c25
        have H1 : (some true) = some true:=by first|exact rfl|(rw [if_pos rfl] at H;exact H)
        clear H
        have H:=H1
        clear H1
        clear H
        go_wp2_with (first|((with_reducible refine gate_callee (f:=13) rfl ?_);refine goesL_ (some 51) rfl rfl Tryd.func13 (by kernel_rfl) rfl #[.slice A0 l0.length c0] rfl (by (try simp only [List.map_toArray,List.map_cons,List.map_nil]);first|done|rfl|(simp only [List.length_drop,List.length_take];rfl)) ?_;(with_reducible refine (laws_toReNodeS.calls kj12 _ _ l0 t311 _ ?side1 ?side2 A23.out).mono ?_);(case side1=>repeat (first|exact (Kd.C_below HR0.out HB.out)|(with_reducible refine Kd.C_alloc ?_ _)|(with_reducible refine Kd.C_drewN ?_ _)|(with_reducible refine Kd.C_drew ?_)));(case side2=>exact HC0.out);rintro e w26 ⟨v312,rfl,ho0,hb⟩;refine ⟨_,rfl,?_⟩;have n0_:=Aside0.mk (Kd.S_elder' (by (with_reducible repeat (first|apply Kd.S_alloc|apply Kd.S_drewN|apply Kd.S_drew));exact HO_10.out) (Kd.S_base ho0) hb);have n1_:=Aside0.mk (Kd.S_lower (Kd.S_new' ho0 (Kd.S_lt (by (with_reducible repeat (first|apply Kd.S_alloc|apply Kd.S_drewN|apply Kd.S_drew));exact HO_10.out))) (below_size (by repeat (first|(with_reducible first|exact HB.out|apply below_alloc|apply pw_below_drewN|apply below_drew1)|exact HB.out))));have n2_:=Aside0.mk (below_step (by repeat (first|(with_reducible first|exact HB.out|apply below_alloc|apply pw_below_drewN|apply below_drew1)|exact HB.out)) hb);clear HO_10;clear HB;have HO_10:=n0_;have HO313:=n1_;have HB:=n2_;clear n0_ n1_ n2_;(try clear hb);(try clear hb2);(try clear hk);(try clear hi);(try clear ho0);obtain ⟨Ao27,co27,eo27⟩:=Kd.S_slice HO313.out;subst eo27)|((with_reducible refine gate_callee (f:=15) rfl ?_);refine goesL_ (some 52) rfl rfl Tryd.func15 (by kernel_rfl) rfl #[.slice Ao19 t306.length co19,.slice Ao27 t311.length co27] rfl (by (try simp only [List.map_toArray,List.map_cons,List.map_nil]);first|done|rfl|(simp only [List.length_drop,List.length_take];rfl)) ?_;(with_reducible refine (laws_eqReNodeS.calls kj12 _ _ t306 _ _ t311 true _ ?side1 ?side2 ?side3 ?side4 A24.out).mono ?_);(case side1=>repeat (first|exact (Kd.S_reads' HO_10.out).2.2|(with_reducible refine Kd.C_alloc ?_ _)|(with_reducible refine Kd.C_drewN ?_ _)|(with_reducible refine Kd.C_drew ?_)));(case side2=>exact (Kd.S_reads' HO_10.out).2.1);(case side3=>repeat (first|exact (Kd.S_reads' HO313.out).2.2|(with_reducible refine Kd.C_alloc ?_ _)|(with_reducible refine Kd.C_drewN ?_ _)|(with_reducible refine Kd.C_drew ?_)));(case side4=>exact (Kd.S_reads' HO313.out).2.1);rintro e w28 ⟨rfl,hb⟩;refine ⟨_,rfl,?_⟩;have n0_:=Aside0.mk (Kd.S_below (by (with_reducible repeat (first|apply Kd.S_alloc|apply Kd.S_drewN|apply Kd.S_drew));exact HO_10.out) hb);have n1_:=Aside0.mk (Kd.S_below (by (with_reducible repeat (first|apply Kd.S_alloc|apply Kd.S_drewN|apply Kd.S_drew));exact HO313.out) hb);have n2_:=Aside0.mk (below_step (by repeat (first|(with_reducible first|exact HB.out|apply below_alloc|apply pw_below_drewN|apply below_drew1)|exact HB.out)) hb);clear HO_10;clear HO313;clear HB;have HO_10:=n0_;have HO313:=n1_;have HB:=n2_;clear n0_ n1_ n2_;(try clear hb);(try clear hb2);(try clear hk);(try clear hi)))
        go_ret
        exact ⟨by first|rfl|(rw [HOR_.out];done)|(rw [HOR_.out];rfl)|(simp [HOR_.out];done)|(have h_:=HOR_.out;simp at h_;subst h_;first|rfl|(simp;done))|(have h_:=HOR_.out;simp at h_ ⊢;exact h_)|(simp [errW_none,errW_some] <;> rfl)|(simp [*,errW_none,errW_some] <;> rfl),by repeat (first|(with_reducible first|exact HB.out|apply below_alloc|apply pw_below_drewN|apply below_drew1)|exact HB.out)⟩
       ·replace c25:=Bool.eq_false_iff.mpr c25
        subst c25
        have H1 : (some false) = some true:=by rw [if_neg (show ¬ (false = true) by decide)] at H;exact H
        clear H
        have H:=H1
        clear H1
        exact absurd H (by simp)
end Go.Proofs.YtlakdfbfkbndiaaDoor.Q
namespace Go.Proofs.YtlakdfbfkbndiaaDoor.Q
open Go Go.ChangeShapes Go.WideShapes Go.Deep Go.Proofs.YtlakdfbfkbndiaaDoorW.PrintWords
structure Opens (P : Program) (t : TypeId) {α : Type} (d : Kd α) (good : α → Prop) : Prop where
  sz : P.cellsOf t = d.sz
  get : ∀ {H : Type} {enc : TypeId × Value → H} {w : World} {fuel : Nat} {cs : List Value} {x : DataW H × List MemPlace},
    DataW.trod enc P w 0 (fun _ => true) true fuel t cs = some x → ∃ a, d.K w a cs ∧ good a
theorem opens_int {P : Program} {t : TypeId} {k : IntKind} (ht : P.underlying t = some (.int k)) (hc : P.cellsOf t = 1) : Opens P t (Kd.int k) (fun n => (Lit.int k n).wf = true) :=
  ⟨hc, fun h => by obtain ⟨n, rfl, _, hw⟩ := DataW.trod_int ht h; exact ⟨n, rfl, hw⟩⟩
theorem opens_bool {P : Program} {t : TypeId} (ht : P.underlying t = some .bool) (hc : P.cellsOf t = 1) : Opens P t Kd.bool (fun _ => True) :=
  ⟨hc, fun h => by obtain ⟨n, rfl, _⟩ := DataW.trod_bool ht h; exact ⟨n, rfl, trivial⟩⟩
theorem opens_string {P : Program} {t : TypeId} (ht : P.underlying t = some .string) (hc : P.cellsOf t = 1) : Opens P t Kd.string (fun s => s.size ≤ maxLen) :=
  ⟨hc, fun h => by obtain ⟨s, rfl, _, hs⟩ := DataW.trod_string ht h; exact ⟨s, rfl, hs⟩⟩
def okInt (k : IntKind) (n : Int) : Prop := (Lit.int k n).wf = true
def okStr (s : ByteArray) : Prop := s.size ≤ maxLen
def okBool (_ : Bool) : Prop := True
theorem open_int_ok {P : Program} {t : TypeId} {k : IntKind} (ht : P.underlying t = some (.int k)) (hc : P.cellsOf t = 1) : Opens P t (Kd.int k) (okInt k) := opens_int ht hc
theorem open_bool_ok {P : Program} {t : TypeId} (ht : P.underlying t = some .bool) (hc : P.cellsOf t = 1) : Opens P t Kd.bool okBool := opens_bool ht hc
theorem open_str_ok {P : Program} {t : TypeId} (ht : P.underlying t = some .string) (hc : P.cellsOf t = 1) : Opens P t Kd.string okStr := opens_string ht hc
theorem list_of {α : Type} (Q : Nat → α → Prop) : ∀ (n : Nat), (∀ i, i < n → ∃ a, Q i a) → ∃ l : List α, l.length = n ∧ ∀ i a, l[i]? = some a → Q i a
  | 0, _ => ⟨[], rfl, fun i a h => by simp at h⟩
  | n + 1, h => by
    obtain ⟨l, hl, hq⟩ := list_of Q n (fun i hi => h i (by omega))
    obtain ⟨a, ha⟩ := h n (by omega)
    refine ⟨l ++ [a], by simp [hl], fun i b hb => ?_⟩
    by_cases hi : i < l.length
    · rw [List.getElem?_append_left hi] at hb; exact hq i b hb
    · rw [List.getElem?_append_right (by omega)] at hb
      have : i - l.length = 0 := by
        have := (List.getElem?_eq_some_iff.1 hb).1
        simp at this; omega
      rw [this] at hb
      simp at hb
      obtain rfl : i = n := by omega
      exact hb ▸ ha
theorem slice_reads {P : Program} {t e : TypeId} {α : Type} {d : Kd α} {good : α → Prop} (ht : P.underlying t = some (.slice e)) (hd : Opens P e d good) {H : Type} {enc : TypeId × Value → H} {w : World} {fuel : Nat} {cs : List Value} {x : DataW H × List MemPlace}
    (h : DataW.trod enc P w 0 (fun _ => true) true fuel t cs = some x) :
    ∃ (A : Option Addr) (c : Nat) (l : List α), cs = [.slice A l.length c] ∧ l.length ≤ c ∧ d.C w A l.length l ∧ l.length ≤ maxLen ∧ ∀ a ∈ l, good a := by
  rcases open_slice ht h with ⟨rfl, _⟩ | ⟨a, len, cap, m, n, D, Pl, rfl, _, hl, hm, hmm, _, hi⟩
  · exact ⟨none, 0, [], rfl, Nat.le_refl _, ⟨rfl, by simp, fun h => by simp at h⟩, by simp, fun a ha => by simp at ha⟩
  · simp only [if_true] at hmm
    obtain ⟨l, hll, hq⟩ := list_of (fun i b => good b ∧ ∃ cs', w.cells? 0 (a.add (i * P.cellsOf e)) (P.cellsOf e) = some cs' ∧ d.K w b cs') len (fun i hil => by
      obtain ⟨cs', hc, ht'⟩ := hi i (by omega)
      obtain ⟨b, hb, hg⟩ := hd.get ht'
      exact ⟨b, hg, cs', hc, hb⟩)
    subst hll
    refine ⟨some a, cap, l, rfl, hl, ⟨rfl, by unfold maxLen at hm; omega, fun _ => ⟨a, rfl, fun j p hj => ?_⟩⟩, by omega, fun b hb => ?_⟩
    · obtain ⟨_, cs', hc, hK⟩ := hq j p hj
      refine ⟨cs', d.K_len hK, hK, fun i u hu => ?_⟩
      rw [hd.sz] at hc
      obtain ⟨_, hcl, hat⟩ := World.cells?_some hc
      have hil : i < d.sz := by
        have := (List.getElem?_eq_some_iff.1 hu).1
        rw [d.K_len hK] at this; exact this
      have h1 := hat i hil
      rw [Go.Deep.add_add] at h1
      exact h1.trans hu
    · obtain ⟨i, hi', rfl⟩ := List.getElem_of_mem hb
      exact (hq i _ (List.getElem?_eq_getElem hi')).1
theorem opens_slice {P : Program} {t e : TypeId} {α : Type} {d : Kd α} {good : α → Prop} (ht : P.underlying t = some (.slice e)) (hc : P.cellsOf t = 1) (hd : Opens P e d good) :
    Opens P t (Kd.slice e d) (fun l => l.length ≤ maxLen ∧ ∀ a ∈ l, good a) :=
  ⟨hc, fun h => by
    obtain ⟨A, c, l, rfl, h1, h2, h3, h4⟩ := slice_reads ht hd h
    exact ⟨l, ⟨A, c, rfl, h1, h2⟩, h3, h4⟩⟩
def OpensF (P : Program) (fs : List Field) {α : Type} (d : Kd α) (good : α → Prop) : Prop :=
  ∀ {H : Type} {enc : TypeId × Value → H} {w : World} {n : Nat} {cs : List Value}, cs.length = fs.length →
    (∀ (i : Nat) (f : Field) (v : Value), fs[i]? = some f → cs[i]? = some v → ∃ y, DataW.trod enc P w 0 (fun _ => true) true n f.type [v] = some y) → ∃ a, d.K w a cs ∧ good a
theorem opensF_one {P : Program} {f : Field} {α : Type} {d : Kd α} {good : α → Prop} (h : Opens P f.type d good) : OpensF P [f] d good := fun {H enc w n cs} hl hf => by
  match cs, hl with
  | [v], _ =>
    obtain ⟨y, hy⟩ := hf 0 f v rfl rfl
    exact h.get hy
theorem opensF_cons {P : Program} {f : Field} {fs : List Field} {α β : Type} {d : Kd α} {d' : Kd β} {good : α → Prop} {good' : β → Prop} (h : Opens P f.type d good) (h' : OpensF P fs d' good') :
    OpensF P (f :: fs) (Kd.pair d d') (fun p => good p.1 ∧ good' p.2) := fun {H enc w n cs} hl hf => by
  match cs, hl with
  | v :: r, hl =>
    obtain ⟨y, hy⟩ := hf 0 f v rfl rfl
    obtain ⟨a, ha, hg⟩ := h.get hy
    obtain ⟨b, hb, hg'⟩ := h' (w := w) (n := n) (cs := r) (by simpa using hl) (fun i f' v' h1 h2 => hf (i + 1) f' v' (by simpa using h1) (by simpa using h2))
    exact ⟨(a, b), ⟨[v], r, rfl, ha, hb⟩, hg, hg'⟩
theorem opens_struct {P : Program} {t : TypeId} {fs : Array Field} {α β : Type} {d : Kd α} {good : α → Prop} (f : β → α) (g : α → β) (hfg : ∀ a, f (g a) = a) (ht : P.underlying t = some (.struct fs)) (hone : oneCellFields P fs = true) (hc : P.cellsOf t = fs.size) (hd : d.sz = fs.size)
    (h : OpensF P fs.toList d good) : Opens P t (Kd.iso d f) (fun b => good (f b)) :=
  ⟨hc.trans hd.symm, fun {H enc w fuel cs x} hx => by
    obtain ⟨ys, n, rfl, hy, hlen, hyl, hf⟩ := DataW.trod_struct ht hx
    obtain ⟨a, ha, hg⟩ := h (enc := enc) (w := w) (n := n) (cs := cs) (by rw [hlen, hc]; simp) (fun i fi v hi hv => by
      have hi' : fs[i]? = some fi := by simpa using hi
      obtain ⟨ho, hk⟩ := hone_of hone i fi hi'
      have hil : i < fs.size := (Array.getElem?_eq_some_iff.1 hi').1
      have h1 := hf i fi hi'
      rw [ho, hk] at h1
      have h2 : (cs.drop i).take 1 = [v] := by
        obtain ⟨hlt, rfl⟩ := List.getElem?_eq_some_iff.1 hv
        rw [List.drop_eq_getElem_cons hlt]; rfl
      rw [h2] at h1
      exact ⟨_, h1.trans (List.getElem?_eq_getElem (by omega))⟩)
    exact ⟨g a, by show d.K w (f (g a)) cs; rw [hfg]; exact ha, by rw [hfg]; exact hg⟩⟩
end Go.Proofs.YtlakdfbfkbndiaaDoor.Q
namespace Go.Proofs.YtlakdfbfkbndiaaDoor.Q
open Go.RowKit Go.Proofs.YtlakdfbfkbndiaaDoor.Re Go.Proofs.YtlakdfbfkbndiaaDoorW.PrintWords Go.Proofs.YtlakdfbfkbndiaaDoorW.PrintLast Go.Proofs.YtlakdfbfkbndiaaDoorW.PrintMore
theorem l2in_l0 (s : ByteArray) (neg : Bool) (c f0 : Int) (f3 : List Int) (hs : s.size ≤ 1099511627776) : ∀ (d i k : Nat), i + 2 * d = s.size → d < k → spec_l2in.l0 k c (i : Int) f0 neg s f3 = some (inFrom s neg c d i)
  | 0, i, 0, _, hk => absurd hk (by omega)
  | 0, i, k + 1, hi, _ => by
    have w1 : wrap64 ((i : Int) + 1) = ((i + 1 : Nat) : Int) := by unfold wrap64; omega
    simp only [spec_l2in.l0]
    rw [w1, if_neg (by omega)]; rfl
  | d + 1, i, 0, _, hk => absurd hk (by omega)
  | d + 1, i, k + 1, hi, hk => by
    have w1 : wrap64 ((i : Int) + 1) = ((i + 1 : Nat) : Int) := by unfold wrap64; omega
    have w2 : wrap64 ((i : Int) + 2) = ((i + 2 : Nat) : Int) := by unfold wrap64; omega
    simp only [spec_l2in.l0, inFrom]
    rw [w1, w2, if_pos (by omega), if_pos (by omega), if_pos (by omega), l2in_l0 s neg c f0 f3 hs d (i + 2) k (by omega) (by omega)]
    by_cases h1 : c ≥ bt s (i : Int)
    · rw [if_pos h1, if_pos (by omega)]
      by_cases h2 : c ≤ bt s ((i + 1 : Nat) : Int)
      · rw [if_pos h2, if_pos ⟨h1, h2⟩]
      · rw [if_neg h2, if_neg (fun h => h2 h.2)]
    · rw [if_neg h1, if_neg (fun h => h1 h.1)]
theorem l2in_eq (x : S49) (c : Int) (he : x.f2.size % 2 = 0) (hs : x.f2.size ≤ 1099511627776) (k : Nat) (hk : 1099511627777 ≤ k) : spec_l2in.f k x.f0 x.f1 x.f2 x.f3 c = some (inS x c) :=
  l2in_l0 x.f2 x.f1 c x.f0 x.f3 hs (x.f2.size / 2) 0 _ (by omega) (by omega)
def falses : List Bool → Nat
  | [] => 0
  | b :: r => (if b = true then 0 else 1) + falses r
theorem falses_set : ∀ (l : List Bool) (q : Nat), q < l.length → l.getD q false = false → falses (l.set q true) + 1 = falses l
  | [], q, h, _ => absurd h (by simp)
  | b :: r, 0, _, h => by
    have h : b = false := h
    subst h
    simp [falses]; omega
  | b :: r, q + 1, h, h2 => by
    have := falses_set r q (by simpa using h) (by simpa using h2)
    simp only [List.set_cons_succ, falses]
    omega
theorem getD_set (l : List Bool) (q p : Nat) (hq : q < l.length) : (l.set q true).getD p false = true ↔ l.getD p false = true ∨ p = q := by
  rw [List.getD_eq_getElem?_getD, List.getD_eq_getElem?_getD, List.getElem?_set]
  by_cases h : q = p
  · subst h; simp [hq]
  · rw [if_neg h]
    constructor
    · exact .inl
    · rintro (h1 | h1)
      · exact h1
      · exact absurd h1.symm h
end Go.Proofs.YtlakdfbfkbndiaaDoor.Q
namespace Go.Proofs.YtlakdfbfkbndiaaDoor.Q
open Go.RowKit Go.Proofs.YtlakdfbfkbndiaaDoor.Re Go.Proofs.YtlakdfbfkbndiaaDoorW.PrintWords Go.Proofs.YtlakdfbfkbndiaaDoorW.PrintLast Go.Proofs.YtlakdfbfkbndiaaDoorW.PrintMore
section
variable (l : List S49) (s : ByteArray)
def epsB (e : Re.Way) (t : Nat) : Bool := decide (e.2.2 < 0) || ((decide ((nodeAt l e.2.2.toNat).f0 = 1) && decide (t = 0)) || (decide ((nodeAt l e.2.2.toNat).f0 = 2) && decide (t = s.size)))
def passL (t : Nat) : List Re.Way → List Bool → Bool → List Bool × Bool
  | [], m, b => (m, b)
  | e :: r, m, b => if (m.getD e.1.toNat false && !m.getD e.2.1.toNat false && epsB l s e t) = true then passL t r (m.set e.2.1.toNat true) true else passL t r m b
structure WaysIn (E : List Re.Way) (N : Nat) : Prop where
  lo : ∀ e, e ∈ E → 0 ≤ e.1 ∧ e.1 < N ∧ 0 ≤ e.2.1 ∧ e.2.1 < N
  node : ∀ e, e ∈ E → e.2.2 < l.length ∧ (0 ≤ e.2.2 → (nodeAt l e.2.2.toNat).f0 < 3 ∧ 0 ≤ (nodeAt l e.2.2.toNat).f0)
  len : E.length ≤ 1000000
  cnt : N ≤ 1000000
  two : 2 ≤ N
end
end Go.Proofs.YtlakdfbfkbndiaaDoor.Q
namespace Go.Proofs.YtlakdfbfkbndiaaDoor.Q
open Go.RowKit Go.Proofs.YtlakdfbfkbndiaaDoor.Re Go.Proofs.YtlakdfbfkbndiaaDoorW.PrintWords Go.Proofs.YtlakdfbfkbndiaaDoorW.PrintLast Go.Proofs.YtlakdfbfkbndiaaDoorW.PrintMore
section
variable (l : List S49) (s : ByteArray)
variable {l s} {E : List Re.Way} {N : Nat}
theorem rd_toE (E : List Re.Way) (i : Nat) (hi : i < E.length) : rd_T85 (E.map toE) (i : Int) = toE (E.getD i (0, 0, 0)) := by
  unfold rd_T85
  rw [Int.toNat_natCast, List.getD_eq_getElem?_getD, List.getD_eq_getElem?_getD, List.getElem?_map, List.getElem?_eq_getElem hi]; rfl
theorem rdOf_get (m : List Bool) (q : Int) (h : 0 ≤ q) : rdOf false m q = m.getD q.toNat false := by
  unfold rdOf
  first | rfl | simp
theorem close_l1 (hW : WaysIn l E N) (hs : s.size ≤ 500) (t : Nat) : ∀ (d i : Nat), i + d = E.length → ∀ (k : Nat) (m : List Bool) (b : Bool), m.length = N →
    spec_l2close.l1 (k + 2 * d + 1) l s (t : Int) m b (i : Int) (E.map toE) (N : Int) = spec_l2close.l0 k l s (t : Int) (passL l s t (E.drop i) m b).1 (passL l s t (E.drop i) m b).2 (E.map toE) (N : Int)
  | 0, i, hi, k, m, b, hm => by
    simp only [spec_l2close.l1]
    rw [if_neg (by rw [List.length_map]; omega), List.drop_eq_nil_of_le (by omega)]
    rfl
  | d + 1, i, hi, k, m, b, hm => by
    have hlt : i < E.length := by omega
    have hd : E.drop i = E.getD i (0, 0, 0) :: E.drop (i + 1) := by
      rw [List.drop_eq_getElem_cons hlt, List.getD_eq_getElem?_getD, List.getElem?_eq_getElem hlt]; rfl
    have hmem : E.getD i (0, 0, 0) ∈ E := by
      rw [List.getD_eq_getElem?_getD, List.getElem?_eq_getElem hlt]; exact List.getElem_mem hlt
    have hr := rd_toE E i hlt
    generalize E.getD i (0, 0, 0) = e at hd hmem hr
    obtain ⟨a0, a1, b0, b1⟩ := hW.lo e hmem
    obtain ⟨n1, n2⟩ := hW.node e hmem
    have hlen := hW.len
    have wi : wrap64 ((i : Int) + 1) = ((i + 1 : Nat) : Int) := by clear n1 n2 hd hmem hr; unfold wrap64; omega
    have q1 : (i : Int) < ((E.map toE).length : Int) := by rw [List.length_map]; exact Int.ofNat_lt.mpr hlt
    have q2 : (0 : Int) ≤ (i : Int) := Int.natCast_nonneg i
    have q3 : e.1 < (m.length : Int) := by rw [hm]; exact a1
    have q4 : e.2.1 < (m.length : Int) := by rw [hm]; exact b1
    clear hlen
    have ih := fun (m : List Bool) (b : Bool) (hm : m.length = N) => close_l1 hW hs t d (i + 1) (by omega) k m b hm
    have e1 : k + 2 * (d + 1) + 1 = (k + 2 * d + 1) + 1 + 1 := by omega
    rw [e1]
    simp only [spec_l2close.l1]
    have hf : (rd_T85 (E.map toE) (i : Int)).f0 = e.1 ∧ (rd_T85 (E.map toE) (i : Int)).f1 = e.2.1 ∧ (rd_T85 (E.map toE) (i : Int)).f2 = e.2.2 := by rw [hr]; exact ⟨rfl, rfl, rfl⟩
    rw [hf.1, hf.2.1, hf.2.2, if_pos q1, if_pos q2, if_pos a0, if_pos q3, rdOf_get m e.1 a0, rdOf_get m e.2.1 b0, hd]
    have key : ∀ q : Bool, q = m.getD e.2.1.toNat false → (m.getD e.1.toNat false = true) → spec_l2close.j2 (k + 2 * d + 1 + 1) l s (t : Int) m b (i : Int) q (E.map toE) (N : Int) e.1 e.2.1 e.2.2 =
        spec_l2close.l0 k l s (t : Int) (passL l s t (e :: E.drop (i + 1)) m b).1 (passL l s t (e :: E.drop (i + 1)) m b).2 (E.map toE) (N : Int) := fun q hq hfrom => by
      simp only [spec_l2close.j2, passL]
      rw [wi, hfrom]
      cases q with
      | true =>
        rw [if_pos rfl, ← hq, if_neg (by simp)]
        exact ih m b hm
      | false =>
        rw [if_neg (by decide), ← hq]
        have hset : (m.set e.2.1.toNat true).length = N := by rw [List.length_set, hm]
        by_cases c1 : e.2.2 < 0
        · rw [if_pos c1, if_pos b0, if_pos q4, if_pos (by simp [epsB, c1])]
          exact ih _ true hset
        · rw [if_neg c1, if_pos (Int.not_lt.mp c1), if_pos n1]
          have hn : rd_T49 l e.2.2 = nodeAt l e.2.2.toNat := by unfold nodeAt rd_T49; rw [Int.toNat_natCast]
          rw [hn]
          by_cases c2 : (nodeAt l e.2.2.toNat).f0 = 1
          · rw [if_pos c2, if_neg (show ¬ (nodeAt l e.2.2.toNat).f0 = 2 by rw [c2]; decide)]
            by_cases c3 : t = 0
            · rw [if_pos (show (t : Int) = 0 by rw [c3]; rfl), if_pos b0, if_pos q4, if_pos (by simp [epsB, c2, c3])]
              exact ih _ true hset
            · rw [if_neg (show ¬ (t : Int) = 0 from fun h => c3 (Int.ofNat.inj h)), if_neg (by simp [epsB, c1, c2, c3])]
              exact ih m b hm
          · rw [if_neg c2]
            by_cases c4 : (nodeAt l e.2.2.toNat).f0 = 2
            · rw [if_pos c4]
              by_cases c3 : t = s.size
              · rw [if_pos (show (t : Int) = (s.size : Int) by rw [c3]), if_pos b0, if_pos q4, if_pos (by simp [epsB, c4, c3])]
                exact ih _ true hset
              · rw [if_neg (show ¬ (t : Int) = (s.size : Int) from fun h => c3 (Int.ofNat.inj h)), if_neg (by simp [epsB, c1, c2, c4, c3])]
                exact ih m b hm
            · rw [if_neg c4, if_neg (by simp [epsB, c1, c2, c4])]
              exact ih m b hm
    by_cases hfrom : m.getD e.1.toNat false = true
    · rw [if_pos hfrom, if_pos b0, if_pos q4]
      exact key _ rfl hfrom
    · rw [if_neg hfrom]
      have hfrom : m.getD e.1.toNat false = false := by simpa using hfrom
      simp only [spec_l2close.j2, passL]
      rw [if_pos trivial, wi, hfrom, if_neg (by simp)]
      exact ih m b hm
end
end Go.Proofs.YtlakdfbfkbndiaaDoor.Q
namespace Go.Proofs.YtlakdfbfkbndiaaDoor.Q
open Go.RowKit Go.Proofs.YtlakdfbfkbndiaaDoor.Re Go.Proofs.YtlakdfbfkbndiaaDoorW.PrintWords Go.Proofs.YtlakdfbfkbndiaaDoorW.PrintLast Go.Proofs.YtlakdfbfkbndiaaDoorW.PrintMore
def Ev {α : Type} (g : Nat → Option α) (r : α) : Prop := ∃ K, ∀ k, K ≤ k → g k = some r
theorem Ev.mk {α : Type} {g : Nat → Option α} {r : α} (h : ∀ k, g k = some r) : Ev g r := ⟨0, fun k _ => h k⟩
theorem Ev.congr {α : Type} {f g : Nat → Option α} {r : α} (h : Ev f r) (e : ∀ k, g k = f k) : Ev g r := by
  obtain ⟨K, hK⟩ := h
  exact ⟨K, fun k hk => (e k).trans (hK k hk)⟩
theorem Ev.succ {α : Type} {g : Nat → Option α} {r : α} (h : Ev (fun k => g (k + 1)) r) : Ev g r := by
  obtain ⟨K, hK⟩ := h
  exact ⟨K + 1, fun k hk => by obtain ⟨j, rfl⟩ : ∃ j, k = j + 1 := ⟨k - 1, by omega⟩; exact hK j (by omega)⟩
theorem Ev.add {α : Type} {g : Nat → Option α} {r : α} (n : Nat) (h : Ev (fun k => g (k + n)) r) : Ev g r := by
  obtain ⟨K, hK⟩ := h
  exact ⟨K + n, fun k hk => by obtain ⟨j, rfl⟩ : ∃ j, k = j + n := ⟨k - n, by omega⟩; exact hK j (by omega)⟩
theorem Ev.up {α : Type} {g : Nat → Option α} {r : α} (n : Nat) (h : Ev g r) : Ev (fun k => g (k + n)) r := by
  obtain ⟨K, hK⟩ := h
  exact ⟨K, fun k hk => hK (k + n) (by omega)⟩
theorem Ev.bind {α β : Type} {f : Nat → Option α} {g : Nat → α → Option β} {a : α} {r : β} (h : Ev f a) (h2 : Ev (fun k => g k a) r) : Ev (fun k => (f k).bind (g k)) r := by
  obtain ⟨K, hK⟩ := h
  obtain ⟨M, hM⟩ := h2
  exact ⟨K + M, fun k hk => by show (f k).bind (g k) = some r; rw [hK k (by omega)]; exact hM k (by omega)⟩
inductive Eps (l : List S49) (s : ByteArray) (E : List Re.Way) (t : Nat) (m : List Bool) : Nat → Prop
  | base {q : Nat} : m.getD q false = true → Eps l s E t m q
  | step {e : Re.Way} : e ∈ E → epsB l s e t = true → Eps l s E t m e.1.toNat → Eps l s E t m e.2.1.toNat
end Go.Proofs.YtlakdfbfkbndiaaDoor.Q
namespace Go.Proofs.YtlakdfbfkbndiaaDoor.Q
open Go.RowKit Go.Proofs.YtlakdfbfkbndiaaDoor.Re Go.Proofs.YtlakdfbfkbndiaaDoorW.PrintWords Go.Proofs.YtlakdfbfkbndiaaDoorW.PrintLast Go.Proofs.YtlakdfbfkbndiaaDoorW.PrintMore
section
variable {l : List S49} {s : ByteArray} {E : List Re.Way} {N : Nat} {t : Nat}
theorem Eps.trans {m m1 : List Bool} (h : ∀ q, m1.getD q false = true → Eps l s E t m q) {q : Nat} (g : Eps l s E t m1 q) : Eps l s E t m q := by
  induction g with
  | base h1 => exact h _ h1
  | step he hb _ ih => exact .step he hb ih
theorem passL_spec (m0 : List Bool) : ∀ (r : List Re.Way) (m : List Bool) (b : Bool), (∀ e, e ∈ r → e ∈ E ∧ e.2.1.toNat < m.length) → (∀ q, m.getD q false = true → Eps l s E t m0 q) →
    (passL l s t r m b).1.length = m.length ∧ (∀ q, m.getD q false = true → (passL l s t r m b).1.getD q false = true) ∧ (∀ q, (passL l s t r m b).1.getD q false = true → Eps l s E t m0 q) ∧
    falses (passL l s t r m b).1 ≤ falses m ∧ ((passL l s t r m b).2 = true → b = true ∨ falses (passL l s t r m b).1 < falses m) ∧
    ((passL l s t r m b).2 = false → b = false ∧ (passL l s t r m b).1 = m ∧ ∀ e, e ∈ r → m.getD e.1.toNat false = true → epsB l s e t = true → m.getD e.2.1.toNat false = true)
  | [], m, b, _, h => ⟨rfl, fun _ h => h, h, Nat.le_refl _, fun h => .inl h, fun h => ⟨h, rfl, fun e he => absurd he List.not_mem_nil⟩⟩
  | e :: r, m, b, hr, h => by
    simp only [passL]
    by_cases c : (m.getD e.1.toNat false && !m.getD e.2.1.toNat false && epsB l s e t) = true
    · rw [if_pos c]
      simp only [Bool.and_eq_true, Bool.not_eq_true'] at c
      obtain ⟨⟨c1, c2⟩, c3⟩ := c
      obtain ⟨hE, hlt⟩ := hr e List.mem_cons_self
      have hm : ∀ q, (m.set e.2.1.toNat true).getD q false = true → Eps l s E t m0 q := fun q hq => by
        rcases (getD_set m _ q hlt).mp hq with h1 | h1
        · exact h q h1
        · rw [h1]; exact .step hE c3 (h _ c1)
      obtain ⟨p1, p2, p3, p4, p5, p6⟩ := passL_spec m0 r (m.set e.2.1.toNat true) true (fun e' he' => by rw [List.length_set]; exact hr e' (List.mem_cons_of_mem _ he')) hm
      have hf := falses_set m _ hlt c2
      refine ⟨by rw [p1, List.length_set], fun q hq => p2 q ((getD_set m _ q hlt).mpr (.inl hq)), p3, by omega, fun _ => .inr (by omega), fun h0 => ?_⟩
      exact absurd (p6 h0).1 (by decide)
    · rw [if_neg c]
      obtain ⟨p1, p2, p3, p4, p5, p6⟩ := passL_spec m0 r m b (fun e' he' => hr e' (List.mem_cons_of_mem _ he')) h
      refine ⟨p1, p2, p3, p4, p5, fun h0 => ?_⟩
      obtain ⟨q1, q2, q3⟩ := p6 h0
      refine ⟨q1, q2, fun e' he' h1 h2 => ?_⟩
      rcases List.mem_cons.mp he' with rfl | h3
      · rw [h1, h2] at c
        cases h4 : m.getD e'.2.1.toNat false with
        | true => rfl
        | false => rw [h4] at c; exact absurd rfl c
      · exact q3 e' h3 h1 h2
theorem close_ev (hW : WaysIn l E N) (hs : s.size ≤ 500) (t : Nat) : ∀ (n : Nat) (m : List Bool), falses m ≤ n → m.length = N →
    ∃ m', m'.length = N ∧ (∀ q, m'.getD q false = true ↔ Eps l s E t m q) ∧ Ev (fun k => spec_l2close.l0 k l s (t : Int) m true (E.map toE) (N : Int)) m' := by
  intro n
  induction n using Nat.strongRecOn with
  | _ n ih =>
    intro m hn hm
    have hr : ∀ e, e ∈ E → e ∈ E ∧ e.2.1.toNat < m.length := fun e he => ⟨he, by have := hW.lo e he; omega⟩
    obtain ⟨p1, p2, p3, p4, p5, p6⟩ := passL_spec (l := l) (s := s) (E := E) (t := t) m E m false hr (fun q hq => .base hq)
    have hstep : ∀ k, spec_l2close.l0 (k + 2 * E.length + 2) l s (t : Int) m true (E.map toE) (N : Int) = spec_l2close.l0 k l s (t : Int) (passL l s t E m false).1 (passL l s t E m false).2 (E.map toE) (N : Int) := fun k => by
      have h1 := close_l1 hW hs t E.length 0 (by omega) k m false hm
      rw [List.drop_zero] at h1
      rw [← h1]
      rw [show k + 2 * E.length + 2 = (k + 2 * E.length + 1) + 1 by omega]
      simp only [spec_l2close.l0, if_true]
      rfl
    generalize passL l s t E m false = r at p1 p2 p3 p4 p5 p6 hstep
    obtain ⟨m1, b1⟩ := r
    dsimp only at p1 p2 p3 p4 p5 p6 hstep
    cases b1 with
    | false =>
      obtain ⟨_, rfl, q3⟩ := p6 rfl
      refine ⟨m1, hm, fun q => ⟨.base, fun h => ?_⟩, ?_⟩
      · induction h with
        | base h => exact h
        | step he hb _ ih => exact q3 _ he ih hb
      · refine Ev.add (2 * E.length + 2) (Ev.succ (Ev.mk fun k => ?_))
        show spec_l2close.l0 (k + 1 + (2 * E.length + 2)) l s (t : Int) m1 true (E.map toE) (N : Int) = some m1
        rw [← Nat.add_assoc, hstep (k + 1)]
        simp [spec_l2close.l0]
    | true =>
      have hlt : falses m1 < falses m := (p5 rfl).resolve_left (by decide)
      obtain ⟨m', g1, g2, g3⟩ := ih (falses m1) (by omega) m1 (Nat.le_refl _) (by omega)
      refine ⟨m', g1, fun q => (g2 q).trans ⟨Eps.trans p3, Eps.trans fun q hq => .base (p2 q hq)⟩, ?_⟩
      refine Ev.add (2 * E.length + 2) (Ev.congr g3 fun k => ?_)
      show spec_l2close.l0 (k + (2 * E.length + 2)) l s (t : Int) m true (E.map toE) (N : Int) = _
      rw [← Nat.add_assoc, hstep k]
def setB (l : List S49) (s : ByteArray) (e : Re.Way) (t : Nat) : Bool := decide (0 ≤ e.2.2) && (decide ((nodeAt l e.2.2.toNat).f0 = 0) && inS (nodeAt l e.2.2.toNat) (bt s t))
def nextL (l : List S49) (s : ByteArray) (t : Nat) (m : List Bool) : List Re.Way → List Bool → List Bool
  | [], x => x
  | e :: r, x => if (m.getD e.1.toNat false && setB l s e t) = true then nextL l s t m r (x.set e.2.1.toNat true) else nextL l s t m r x
theorem nextL_spec (m : List Bool) : ∀ (r : List Re.Way) (x : List Bool), (∀ e, e ∈ r → e.2.1.toNat < x.length) →
    (nextL l s t m r x).length = x.length ∧ ∀ q, (nextL l s t m r x).getD q false = true ↔ x.getD q false = true ∨ ∃ e, e ∈ r ∧ m.getD e.1.toNat false = true ∧ setB l s e t = true ∧ q = e.2.1.toNat
  | [], x, _ => ⟨rfl, fun q => by simp [nextL]⟩
  | e :: r, x, h => by
    simp only [nextL]
    have hlt := h e List.mem_cons_self
    by_cases c : (m.getD e.1.toNat false && setB l s e t) = true
    · rw [if_pos c]
      rw [Bool.and_eq_true] at c
      obtain ⟨p1, p2⟩ := nextL_spec m r (x.set e.2.1.toNat true) (fun e' he' => by rw [List.length_set]; exact h e' (List.mem_cons_of_mem _ he'))
      refine ⟨by rw [p1, List.length_set], fun q => ?_⟩
      rw [p2 q, getD_set x _ q hlt]
      constructor
      · rintro ((h1 | h1) | ⟨e', he', h2⟩)
        · exact .inl h1
        · exact .inr ⟨e, List.mem_cons_self, c.1, c.2, h1⟩
        · exact .inr ⟨e', List.mem_cons_of_mem _ he', h2⟩
      · rintro (h1 | ⟨e', he', h2, h3, h4⟩)
        · exact .inl (.inl h1)
        · rcases List.mem_cons.mp he' with rfl | h5
          · exact .inl (.inr h4)
          · exact .inr ⟨e', h5, h2, h3, h4⟩
    · rw [if_neg c]
      obtain ⟨p1, p2⟩ := nextL_spec m r x (fun e' he' => h e' (List.mem_cons_of_mem _ he'))
      refine ⟨p1, fun q => ?_⟩
      rw [p2 q]
      constructor
      · rintro (h1 | ⟨e', he', h2⟩)
        · exact .inl h1
        · exact .inr ⟨e', List.mem_cons_of_mem _ he', h2⟩
      · rintro (h1 | ⟨e', he', h2, h3, h4⟩)
        · exact .inl h1
        · rcases List.mem_cons.mp he' with rfl | h5
          · exact absurd (by rw [h2, h3]; rfl) c
          · exact .inr ⟨e', h5, h2, h3, h4⟩
end
end Go.Proofs.YtlakdfbfkbndiaaDoor.Q
namespace Go.Proofs.YtlakdfbfkbndiaaDoor.Q
open Go.RowKit Go.Proofs.YtlakdfbfkbndiaaDoor.Re Go.Proofs.YtlakdfbfkbndiaaDoorW.PrintWords Go.Proofs.YtlakdfbfkbndiaaDoorW.PrintLast Go.Proofs.YtlakdfbfkbndiaaDoorW.PrintMore
theorem toList_nil (s : ByteArray) : s.toList = ([] : List UInt8) ↔ s.size = 0 := by
  have h : s.toList.length = s.size := by simp [ByteArray.toList_eq, Array.length_toList]
  constructor
  · intro e; rw [e] at h; exact h.symm
  · intro e; rw [e] at h; exact List.eq_nil_of_length_eq_zero h
def pairsB (s : ByteArray) : Nat → Nat → Bool
  | 0, _ => true
  | d + 1, i => if bt s ((i + 1 : Nat) : Int) < bt s (i : Int) then false else pairsB s d (i + 2)
def nodeB (x : S49) : Bool :=
  if x.f0 = 0 then (if x.f2.size % 2 = 0 ∧ x.f3.length = 0 ∧ ¬ (x.f2.size = 0 ∧ x.f1 = false) then pairsB x.f2 (x.f2.size / 2) 0 else false)
  else if x.f1 = true ∨ x.f2.size ≠ 0 then false
  else if x.f0 = 1 ∨ x.f0 = 2 then decide (x.f3.length = 0)
  else if x.f0 = 3 ∨ x.f0 = 4 then decide (2 ≤ x.f3.length)
  else if x.f0 = 5 ∨ x.f0 = 6 ∨ x.f0 = 7 then decide (x.f3.length = 1)
  else false
theorem implPairs (f0 : Int) (neg : Bool) (s : ByteArray) (f3 : List Int) (hs : s.size ≤ 1099511627776) : ∀ (d i k : Nat), i + 2 * d = s.size → d < k → impl_isReNode.l0 k (i : Int) f0 neg s f3 = some (pairsB s d i)
  | 0, i, 0, _, hk => absurd hk (by omega)
  | 0, i, k + 1, hi, _ => by
    simp only [impl_isReNode.l0]
    rw [if_neg (by omega)]; rfl
  | d + 1, i, 0, _, hk => absurd hk (by omega)
  | d + 1, i, k + 1, hi, hk => by
    have w1 : wrap64 ((i : Int) + 1) = ((i + 1 : Nat) : Int) := by unfold wrap64; omega
    have w2 : wrap64 ((i : Int) + 2) = ((i + 2 : Nat) : Int) := by unfold wrap64; omega
    simp only [impl_isReNode.l0, pairsB]
    rw [w1, w2, if_pos (by omega), if_pos (by omega), if_pos (by omega), if_pos (by omega), implPairs f0 neg s f3 hs d (i + 2) k (by omega) (by omega)]
    split <;> rfl
theorem specPairs (f0 : Int) (neg : Bool) (s : ByteArray) (f3 : List Int) (hs : s.size ≤ 1099511627776) : ∀ (d i k : Nat), i + 2 * d = s.size → d < k → spec_l2pairs.l0 k (i : Int) f0 neg s f3 = some (pairsB s d i)
  | 0, i, 0, _, hk => absurd hk (by omega)
  | 0, i, k + 1, hi, _ => by
    have w1 : wrap64 ((i : Int) + 1) = ((i + 1 : Nat) : Int) := by unfold wrap64; omega
    simp only [spec_l2pairs.l0]
    rw [w1, if_neg (by omega)]; rfl
  | d + 1, i, 0, _, hk => absurd hk (by omega)
  | d + 1, i, k + 1, hi, hk => by
    have w1 : wrap64 ((i : Int) + 1) = ((i + 1 : Nat) : Int) := by unfold wrap64; omega
    have w2 : wrap64 ((i : Int) + 2) = ((i + 2 : Nat) : Int) := by unfold wrap64; omega
    simp only [spec_l2pairs.l0, pairsB]
    rw [w1, w2, if_pos (by omega), if_pos (by omega), if_pos (by omega), if_pos (by omega), specPairs f0 neg s f3 hs d (i + 2) k (by omega) (by omega)]
    split <;> rfl
end Go.Proofs.YtlakdfbfkbndiaaDoor.Q
