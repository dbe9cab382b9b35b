/- What the row of FnExactReTest rests on, and the row: for every input that can be read the call returns true and the input reads as it did; condition: what the row lists of the library reads as the program lays it. -/
import Derived.Test.YtlakdfbfkbndiaaDoorKFnExactReTeste
import Derived.Test.YtlakdfbfkbndiaaDoorCards
import Derived.Test.YtlakdfbfkbndiaaDoorRows
import Derived.Test.YtlakdfbfkbndiaaDoorTie
set_option linter.unusedVariables false
set_option linter.unusedSimpArgs false
namespace Go.Proofs.YtlakdfbfkbndiaaDoor.Q
open Go.RowKit Go.Proofs.YtlakdfbfkbndiaaDoor.Re Go.Proofs.YtlakdfbfkbndiaaDoorW.PrintWords Go.Proofs.YtlakdfbfkbndiaaDoorW.PrintLast Go.Proofs.YtlakdfbfkbndiaaDoorW.PrintMore
open Go.ChangeMaps (setBlock)
set_option maxRecDepth 100000 in
set_option maxHeartbeats 8000000 in
theorem ends_step {l : List S49} {s : ByteArray} {A0 : Option Addr} {c0 Bm Bf : Nat} {w0 : World} (hB : Base l s A0 c0 w0) (n : Nat) (hn : n < l.length) (ih : ∀ m, m < n → EndsAt l s A0 c0 Bm Bf w0 m) : EndsAt l s A0 c0 Bm Bf w0 n := by
  intro i hi w hM
  have HBase := Aside0.mk hB
  have HIH := Aside0.mk ih
  have HM := Aside0.mk hM
  clear hB ih hM
  have hl200 := HBase.out.ok.len
  have hs500 := HBase.out.sz
  go_enter Tryd.func61, Tryd.ntmps61
  go_wp2_with fail
  obtain ⟨w1, hw1⟩ : ∃ w1, w1 = w.alloc (.cells #[.int .i64 n, .int .i64 i] 72) := ⟨_, rfl⟩
  rw [← hw1]
  have HM1 : Aside0 (Mem l s A0 c0 Bm Bf w0 w1) := ⟨HM.out.move (by rw [hw1]; exact (Below.refl _ _).alloc (Nat.le_refl _) _)⟩
  have HG1 : Aside0 (w.grownBy w1 (some Bf)) := ⟨by rw [hw1]; exact World.grownBy_alloc w _ _⟩
  have HK1 : Aside0 (w1.heap[w.heap.size]? = some (.cells #[.int .i64 n, .int .i64 i] 72 (0, 0))) := ⟨by rw [hw1]; exact heap_alloc_new w _⟩
  have HZ1 : Aside0 (w1.heap.size = w.heap.size + 1) := ⟨by rw [hw1]; simp⟩
  have HF1 : Aside0 (∀ r, r < w.heap.size → Free Bf r w → Free Bf r w1) := ⟨fun r _ hf => hf.same (by rw [hw1]; exact Below.heap_alloc w _ _ (Array.getElem?_eq_some_iff.mp HM.out.map.choose_spec.choose_spec.1).1)⟩
  clear hw1
  have hk0 : w1.cell? ⟨w.heap.size, 0, none⟩ = some (.int .i64 n) := by simp [World.cell?, HK1.out]
  have hk1 : w1.cell? ⟨w.heap.size, 1, none⟩ = some (.int .i64 i) := by simp [World.cell?, HK1.out]
  obtain ⟨hc0, hc1, hc2⟩ := HM1.out.cell
  have hlook := HM1.out.map.look (by omega) (by omega) hn hi
  unfold pkey at hlook
  have HL := Aside0.mk hl200
  have HS := Aside0.mk hs500
  have HI := Aside0.mk hi
  have HN := Aside0.mk hn
  clear hl200 hs500 hi hn
  rcases hlook with hlook | ⟨b, ws, hlook, hb0, hbw, hbS, hbF⟩
  · obtain ⟨ad, A3, c3, e0, hx0, hx1, hx2, hx3, hl3, hi3⟩ := at_T49 HBase.out.rd (n : Int) (by omega) (by have := HN.out; omega)
    simp only [Int.toNat_natCast] at hx0 hx1 hx2 hx3
    have HX : Aside0 (∃ x, x = rd_T49 l n) := ⟨_, rfl⟩
    obtain ⟨x, hxe⟩ := HX.out
    rw [← hxe] at hx0 hx1 hx2 hx3 hl3 hi3
    have HXE : Aside0 (nodeAt l n = x) := ⟨hxe.symm⟩
    have HRK := Aside0.mk hi3
    have HCK := Aside0.mk hl3
    clear hxe HX hi3 hl3
    replace hx0 := (HM1.out.below.cell (World.block_lt_of_cell? w0 _ hx0)).trans hx0
    replace hx1 := (HM1.out.below.cell (World.block_lt_of_cell? w0 _ hx1)).trans hx1
    replace hx2 := (HM1.out.below.cell (World.block_lt_of_cell? w0 _ hx2)).trans hx2
    replace hx3 := (HM1.out.below.cell (World.block_lt_of_cell? w0 _ hx3)).trans hx3
    subst e0
    have p0 : ((0 : Int) ≤ (n : Int)) = True := eq_true (by omega)
    have p1 : ((n : Int) < (l.length : Int)) = True := eq_true (by have := HN.out; omega)
    go_quiet (fail)
    go_upto_block 0 with fail
    obtain ⟨w2, hw2⟩ : ∃ w2, w2 = ((w1.drewN nq).alloc (.cells #[.int .u64 0, .int .u64 0, .int .u64 0, .int .u64 0, .int .u64 0, .int .u64 0, .int .u64 0, .int .u64 0] 113)).alloc (.cells #[.int .i64 x.f0, .bool x.f1, .string x.f2, .slice A3 x.f3.length c3] 49) := ⟨_, rfl⟩
    rw [← hw2]
    have hBe : Below w1.heap.size w1 w2 := by rw [hw2]; exact below_alloc (below_alloc (pw_below_drewN (Below.refl _ _) _) _) _
    have HWk : Aside0 (Work l s (some ad) c0 Bm Bf w0 w n i (w1.heap.size + 1) x A3 c3 w2) := ⟨{
      mem := HM1.out.move hBe
      lo := HM.out.below.size
      grown := HG1.out.trans ⟨hBe.os, hBe.tape, hBe.output, hBe.size, fun k hk _ => hBe.block k hk⟩
      key := (hBe.block _ (Array.getElem?_eq_some_iff.mp HK1.out).1).trans HK1.out
      loc := by
        have e : ((w1.drewN nq).alloc (.cells #[.int .u64 0, .int .u64 0, .int .u64 0, .int .u64 0, .int .u64 0, .int .u64 0, .int .u64 0, .int .u64 0] 113)).heap.size = w1.heap.size + 1 := by simp
        rw [hw2, ← e]; exact heap_alloc_new _ _
      free := fun r hr hf => (HF1.out r hr hf).same (hBe.block _ (map_lt HM1.out)) }⟩
    have HOw : Aside0 (Own Bf w w1.heap.size (fun _ => False) (fun _ => 0) w2) := ⟨{
      lo := HG1.out.size
      obj := by rw [hw2, Below.heap_alloc _ _ _ (by simp)]; exact heap_alloc_new _ _
      free := (HM1.out.map.free (Nat.le_refl _)).same (hBe.block _ (map_lt HM1.out))
      set := IsSet.empty }⟩
    clear hBe hw2
    go_cut [10] (fun v10 wc => ∃ b ws, v10 = .pointer (some ⟨b, 0, none⟩) ∧ Aside0 (Work l s (some ad) c0 Bm Bf w0 w n i (w1.heap.size + 1) x A3 c3 wc) ∧ Aside0 (Own Bf w b (meets l s n i) ws wc))
    case first =>
      have hkd := HBase.out.ok.kd n HN.out
      rw [HXE.out] at hkd
      have hcl := HWk.out.loc
      have hn0 : w2.cell? ⟨w1.heap.size + 1, 0, none⟩ = some (.int .i64 x.f0) := by simp [World.cell?, hcl]
      have hn1 : w2.cell? ⟨w1.heap.size + 1, 1, none⟩ = some (.bool x.f1) := by simp [World.cell?, hcl]
      have hn2 : w2.cell? ⟨w1.heap.size + 1, 2, none⟩ = some (.string x.f2) := by simp [World.cell?, hcl]
      have hn3 : w2.cell? ⟨w1.heap.size + 1, 3, none⟩ = some (.slice A3 x.f3.length c3) := by simp [World.cell?, hcl]
      obtain ⟨hm0, hm1, hm2⟩ := HWk.out.mem.cell
      have HMeet := Aside0.mk (meets_eq HBase.out.ok s n HN.out)
      rw [HXE.out] at HMeet
      have HOk := Aside0.mk HBase.out.ok
      clear hk0 hk1 hc0 hc1 hc2 hx0 hx1 hx2 hx3 hlook hcl
      obtain ⟨f0, f1, f2, f3⟩ := x
      dsimp only at hkd hn0 hn1 hn2 hn3 HMeet HRK HCK
      have hcase : f0 = 0 ∨ f0 = 1 ∨ f0 = 2 ∨ f0 = 3 ∨ f0 = 4 ∨ f0 = 7 ∨ f0 = 5 ∨ f0 = 6 := by omega
      clear hkd
      rcases hcase with rfl | rfl | rfl | rfl | rfl | rfl | rfl | rfl
      · as_aux_lemma =>
        have HS2 : Aside0 (∀ j, meets l s n i j ↔ i < s.size ∧ inS ⟨0, f1, f2, f3⟩ (bt s i) = true ∧ j = i + 1) := ⟨fun j => by rw [HMeet.out, if_pos (by decide)]; simp [leafR]⟩
        by_cases h0 : i < s.size
        · have h0i : ((i : Int) < (s.size : Int)) = True := eq_true (by omega)
          have h0n : ((0 : Int) ≤ (i : Int)) = True := eq_true (by omega)
          have H0 := Aside0.mk h0
          have hbt := Aside0.mk (bt_nat h0)
          have he := HOk.out.even n HN.out (by rw [HXE.out])
          have ht := HOk.out.txt n HN.out
          rw [HXE.out] at he ht
          have hin := inSet_eq ⟨0, f1, f2, f3⟩ (bt s i) he ht
          generalize hq : inS ⟨0, f1, f2, f3⟩ (bt s i) = q at hin HS2
          have hcall := fun W hW => impl_inSet.calls _ 0 f1 f2 A3 c3 f3 (bt s i) q W hW HCK.out hin
          rw [hbt.out] at hcall
          have HCall := Aside0.mk hcall
          clear he ht hin hcall hq
          go_upto_region 25 with fail
          go_still_tail 15, (by kernel_rfl)
          change wpList _ _ _ _ _ w2.drew
          have hdr : Below w2.heap.size w2 w2.drew := (Below.refl _ _).drew
          replace HOw : Aside0 (Own Bf w w1.heap.size (fun _ => False) (fun _ => 0) w2.drew) := ⟨HOw.out.move HWk.out.mem hdr⟩
          replace HWk := Aside0.mk (HWk.out.move hdr)
          clear hdr
          have hcallW := HCall.out w2.drew (Kd.C_below HRK.out HWk.out.mem.below)
          clear HCall
          generalize w2.drew = w4 at *
          go_wp2_with fail
          refine hcallW.mono ?_
          rintro e w5 ⟨rfl, hbel⟩
          dsimp only
          clear hcallW
          replace HOw : Aside0 (Own Bf w w1.heap.size (fun _ => False) (fun _ => 0) w5) := ⟨HOw.out.move HWk.out.mem hbel⟩
          replace HWk := Aside0.mk (HWk.out.move hbel)
          clear hbel
          have hi5 : (i : Int) ≤ 500 := by have := HS.out; omega
          cases q with
          | true =>
            have hcall := add_succ_calls w1.heap.size i (by omega) _ _ HOw.out.set w5 HOw.out.obj
            go_wp2_with fail
            refine hcall.mono ?_
            rintro e w' ⟨r, rfl, _, ws, hS', hw', hg', -⟩
            have hF := HOw.out.free.same (hg'.block _ (map_lt HWk.out.mem) (fun e => map_ne HWk.out.mem HOw.out.obj (Option.some.inj e).symm))
            have HW' := Aside0.mk (HWk.out.set HOw.out hg')
            have HO' : Aside0 (Own Bf w w1.heap.size (meets l s n i) ws w') := ⟨⟨HOw.out.lo, hw', hF, hS'.congr fun j _ => by rw [HS2.out]; simp [h0]⟩⟩
            clear hS' hw' hg' hF
            go_wp2_with fail
            go_meet
            exact ⟨_, ws, rfl, HW', HO'⟩
          | false =>
            have HO' : Aside0 (Own Bf w w1.heap.size (meets l s n i) (fun _ => 0) w5) := ⟨⟨HOw.out.lo, HOw.out.obj, HOw.out.free, HOw.out.set.congr fun j _ => by rw [HS2.out]; simp⟩⟩
            go_wp2_with fail
            go_meet
            exact ⟨_, _, rfl, HWk, HO'⟩
        · have h0i : ((i : Int) < (s.size : Int)) = False := eq_false (by omega)
          have HO' : Aside0 (Own Bf w w1.heap.size (meets l s n i) (fun _ => 0) w2) := ⟨⟨HOw.out.lo, HOw.out.obj, HOw.out.free, HOw.out.set.congr fun j _ => by rw [HS2.out]; simp [h0]⟩⟩
          go_upto_region 25 with fail
          go_quiet (fail)
          have HO2 : Aside0 (Own Bf w w1.heap.size (meets l s n i) (fun _ => 0) (w2.drewN nq)) := ⟨HO'.out.move HWk.out.mem (pw_below_drewN (Below.refl _ _) _)⟩
          go_wp2_with fail
          go_meet
          exact ⟨_, _, rfl, ⟨HWk.out.move (pw_below_drewN (Below.refl _ _) _)⟩, HO2⟩
      · as_aux_lemma =>
        have HS2 : Aside0 (∀ j, meets l s n i j ↔ i = 0 ∧ j = 0) := ⟨fun j => by rw [HMeet.out, if_pos (by decide)]; simp [leafR]⟩
        by_cases h0 : i = 0
        · subst h0
          have hcall := add_zero_calls w1.heap.size _ _ HOw.out.set w2 HOw.out.obj
          go_wp2_with fail
          refine hcall.mono ?_
          rintro e w' ⟨r, rfl, _, ws, hS', hw', hg', -⟩
          have hF := HOw.out.free.same (hg'.block _ (map_lt HWk.out.mem) (fun e => map_ne HWk.out.mem HOw.out.obj (Option.some.inj e).symm))
          have HW' := Aside0.mk (HWk.out.set HOw.out hg')
          have HO' : Aside0 (Own Bf w w1.heap.size (meets l s n 0) ws w') := ⟨⟨HOw.out.lo, hw', hF, hS'.congr fun j _ => by rw [HS2.out]; simp⟩⟩
          clear hS' hw' hg' hF
          go_wp2_with fail
          go_meet
          exact ⟨_, ws, rfl, HW', HO'⟩
        · have h0i : ((i : Int) == 0) = false := beq_eq_false_iff_ne.mpr (by omega)
          have HO' : Aside0 (Own Bf w w1.heap.size (meets l s n i) (fun _ => 0) w2) := ⟨⟨HOw.out.lo, HOw.out.obj, HOw.out.free, HOw.out.set.congr fun j _ => by rw [HS2.out]; simp [h0]⟩⟩
          go_wp2_with fail
          go_meet
          exact ⟨_, _, rfl, HWk, HO'⟩
      · as_aux_lemma =>
        have HS2 : Aside0 (∀ j, meets l s n i j ↔ i = s.size ∧ j = i) := ⟨fun j => by rw [HMeet.out, if_pos (by decide)]; simp [leafR]⟩
        by_cases h0 : i = s.size
        · have h0i : ((i : Int) == (s.size : Int)) = true := beq_iff_eq.mpr (by omega)
          have H0 := Aside0.mk h0
          clear h0
          have hcall := add_calls w1.heap.size i (by have := HI.out; have := HS.out; omega) _ _ HOw.out.set w2 HOw.out.obj
          go_wp2_with fail
          refine hcall.mono ?_
          rintro e w' ⟨r, rfl, _, ws, hS', hw', hg', -⟩
          have hF := HOw.out.free.same (hg'.block _ (map_lt HWk.out.mem) (fun e => map_ne HWk.out.mem HOw.out.obj (Option.some.inj e).symm))
          have HW' := Aside0.mk (HWk.out.set HOw.out hg')
          have HO' : Aside0 (Own Bf w w1.heap.size (meets l s n i) ws w') := ⟨⟨HOw.out.lo, hw', hF, hS'.congr fun j _ => by rw [HS2.out]; simp [H0.out]⟩⟩
          clear hS' hw' hg' hF
          go_wp2_with fail
          go_meet
          exact ⟨_, ws, rfl, HW', HO'⟩
        · have h0i : ((i : Int) == (s.size : Int)) = false := beq_eq_false_iff_ne.mpr (by omega)
          have HO' : Aside0 (Own Bf w w1.heap.size (meets l s n i) (fun _ => 0) w2) := ⟨⟨HOw.out.lo, HOw.out.obj, HOw.out.free, HOw.out.set.congr fun j _ => by rw [HS2.out]; simp [h0]⟩⟩
          go_wp2_with fail
          go_meet
          exact ⟨_, _, rfl, HWk, HO'⟩
      · as_aux_lemma =>
        have HKid := Aside0.mk (HOk.out.kid n HN.out)
        rw [HXE.out] at HKid
        have HS2 : Aside0 (∀ j, meets l s n i j ↔ seqR (f3.map fun k => meets l s k.toNat) i j) := ⟨fun j => by
          have e : kidsR l s n = f3.map fun k => meets l s k.toNat := by unfold kidsR; rw [HXE.out]
          rw [HMeet.out, if_neg (by decide), if_pos rfl, e]⟩
        have HFw : Aside0 (∀ j y, seqR ((f3.take j).map fun k => meets l s k.toNat) i y → y ≤ s.size) := ⟨fun j y hy => (fwd_seq s.size _ (fun R hR => by
          obtain ⟨k, hk, rfl⟩ := List.mem_map.mp hR
          have hk := HKid.out k (List.mem_of_mem_take hk)
          exact meets_fwd HOk.out s k.toNat (by have := HN.out; omega)) i y HI.out hy).2⟩
        have HL3 : Aside0 (f3.length ≤ 9223372036854775807) := ⟨HRK.out.2.1⟩
        have HT0 := Aside0.mk HBase.out.tabs
        have hcall := add_calls w1.heap.size i (by have := HI.out; have := HS.out; omega) _ _ HOw.out.set w2 HOw.out.obj
        go_wp2_with fail
        refine hcall.mono ?_
        rintro e w' ⟨r, rfl, _, ws, hS', hw', hg', -⟩
        have hF := HOw.out.free.same (hg'.block _ (map_lt HWk.out.mem) (fun e => map_ne HWk.out.mem HOw.out.obj (Option.some.inj e).symm))
        have HW' := Aside0.mk (HWk.out.set HOw.out hg')
        have HO' : Aside0 (Own Bf w w1.heap.size (seqR ((f3.take 0).map fun k => meets l s k.toNat) i) ws w') := ⟨⟨HOw.out.lo, hw', hF, hS'.congr fun j _ => by simp [seqR, eq_comm]⟩⟩
        have hcl := HW'.out.loc
        have hn3' : w'.cell? ⟨w1.heap.size + 1, 3, none⟩ = some (.slice A3 f3.length c3) := by simp [World.cell?, hcl]
        clear hS' hw' hg' hF hcall hcl hn0 hn1 hn2 hn3 hm0 hm1 hm2
        go_wp2_with fail
        go_loopg [10, 154] f3.length (fun gg v10 v154 wr => ∃ (j b : Nat) (ws : Nat → Nat), v10 = .pointer (some ⟨b, 0, none⟩) ∧ v154 = .int .i64 j ∧ j ≤ f3.length ∧ f3.length - j ≤ gg ∧ Aside0 (Work l s (some ad) c0 Bm Bf w0 w n i (w1.heap.size + 1) ⟨3, f1, f2, f3⟩ A3 c3 wr) ∧ Aside0 (Own Bf w b (seqR ((f3.take j).map fun k => meets l s k.toNat) i) ws wr))
        case atStart => exact ⟨0, _, _, rfl, rfl, by omega, by omega, HW', HO'⟩
        case round =>
          clear HWk HOw HW' HO' hn3'
          obtain ⟨j, b, ws, rfl, rfl, hj, hg, HWk, HOw⟩ := hrel
          by_cases hlt : j < f3.length
          · have HLt := Aside0.mk hlt
            have hlt0 : (j : Int) < (f3.length : Int) := by omega
            obtain ⟨ad3, c, e0, _, hK, hcell⟩ := Kd.C_get (Kd.C_below HRK.out HWk.out.mem.below) (0 : Int) j (by omega) (by omega)
            subst e0
            have hK : c = [.int .i64 (f3.getD ((j : Int)).toNat 0)] := hK
            subst hK
            have hce := hcell 0 _ rfl
            replace hce : wr.cell? (ad3.add j) = some (.int .i64 (f3.getD j 0)) := by simpa [Kd.int, Kd.scalar] using hce
            clear hcell
            have HMem3 : Aside0 (f3.getD j 0 ∈ f3 ∧ f3.take (j + 1) = f3.take j ++ [f3.getD j 0]) := ⟨by
              rw [List.getD_eq_getElem?_getD, List.getElem?_eq_getElem hlt]
              exact ⟨List.getElem_mem hlt, by rw [List.take_add_one, List.getElem?_eq_getElem hlt]; rfl⟩⟩
            generalize f3.getD j 0 = z at *
            have hz := HKid.out z HMem3.out.1
            obtain ⟨m, rfl⟩ : ∃ m : Nat, z = (m : Int) := ⟨z.toNat, by omega⟩
            have HMn : Aside0 (m < n) := ⟨by omega⟩
            clear hz
            go_upto_region 39 with fail
            obtain ⟨w3, hw3⟩ : ∃ w3, w3 = wr.alloc (.cells #[.int .u64 0, .int .u64 0, .int .u64 0, .int .u64 0, .int .u64 0, .int .u64 0, .int .u64 0, .int .u64 0] 113) := ⟨_, rfl⟩
            rw [← hw3]
            have hBe : Below wr.heap.size wr w3 := by rw [hw3]; exact below_alloc (Below.refl _ _) _
            have HWk3 := Aside0.mk (HWk.out.move hBe)
            have HOw3 := Aside0.mk (HOw.out.move HWk.out.mem hBe)
            have HNx : Aside0 (Own Bf w wr.heap.size (fun _ => False) (fun _ => 0) w3) := ⟨{
              lo := HWk.out.grown.size
              obj := by rw [hw3]; exact heap_alloc_new _ _
              free := (HWk.out.mem.map.free (Nat.le_refl _)).same (hBe.block _ (map_lt HWk.out.mem))
              set := IsSet.empty }⟩
            have HNN : Aside0 (b ≠ wr.heap.size) := ⟨fun e => by have := (Array.getElem?_eq_some_iff.mp HOw.out.obj).1; omega⟩
            clear hBe hw3 hce HWk HOw
            have hlist := list_calls b ws _ HOw3.out.set w3 HOw3.out.obj (HT0.out.below HWk3.out.mem.below)
            go_wp2_with fail
            refine hlist.mono ?_
            rintro e w4 ⟨v4, rfl, hR4, hB4⟩
            dsimp only
            obtain ⟨L, hL⟩ : ∃ L, L = upto (seqR ((f3.take j).map fun k => meets l s k.toNat) i) 512 := ⟨_, rfl⟩
            rw [← hL] at hR4
            have HLm : Aside0 (∀ y, y ∈ L ↔ y < 512 ∧ seqR ((f3.take j).map fun k => meets l s k.toNat) i y) := ⟨fun y => by rw [hL]; exact mem_upto⟩
            have HLl : Aside0 (L.length ≤ 512) := ⟨by rw [hL]; exact upto_len _ _⟩
            obtain ⟨A4, c4, rfl, hl4, hC4⟩ := Kd.R_reads hR4
            rw [nats_len] at hR4 hl4 ⊢
            have HR4 := Aside0.mk hR4
            have HWk4 := Aside0.mk (HWk3.out.move hB4)
            have HNx4 := Aside0.mk (HNx.out.move HWk3.out.mem hB4)
            obtain ⟨nx, hnx⟩ : ∃ nx, nx = wr.heap.size := ⟨_, rfl⟩
            rw [← hnx] at HNx4 HNN ⊢
            obtain ⟨bs, hbs⟩ : ∃ bs, bs = w3.heap.size := ⟨_, rfl⟩
            rw [← hbs] at HR4
            clear hlist hL hR4 hB4 hl4 hC4 HWk3 HOw3 HNx hnx hbs
            go_wp2_with fail
            go_loopg [163] L.length (fun g2 v163 wr2 => ∃ (p : Nat) (vs : Nat → Nat), v163 = .int .i64 p ∧ p ≤ L.length ∧ L.length - p ≤ g2 ∧ Aside0 (Work l s (some ad) c0 Bm Bf w0 w n i (w1.heap.size + 1) ⟨3, f1, f2, f3⟩ (some ad3) c3 wr2) ∧ Aside0 (Own Bf w nx (fun y => ∃ x, x ∈ L.take p ∧ meets l s m x y) vs wr2) ∧ Aside0 (Kd.R (Kd.int .i64) 3 wr2 bs (fun _ => True) (.slice A4 L.length c4) (nats L)))
            case atStart => exact ⟨0, _, rfl, by omega, by omega, HWk4, ⟨⟨HNx4.out.lo, HNx4.out.obj, HNx4.out.free, HNx4.out.set.congr fun y _ => by simp⟩⟩, HR4⟩
            case round =>
              clear HWk4 HNx4 HR4
              obtain ⟨p, vs, rfl, hp, hg2, HWk, HNx, HR4⟩ := hrel
              by_cases hpl : p < L.length
              · have hpl0 : (p : Int) < (L.length : Int) := by omega
                have HPl := Aside0.mk hpl
                obtain ⟨ad4, e4, hcp⟩ := row_get HR4.out p (by rw [nats_len]; exact hpl)
                subst e4
                rw [nats_get L p hpl] at hcp
                obtain ⟨htk, hmem⟩ := take_next L p hpl
                generalize L.getD p 0 = x at hcp htk hmem
                have HTk := Aside0.mk htk
                have HXs : Aside0 (x ≤ s.size) := ⟨HFw.out j x ((HLm.out x).mp hmem).2⟩
                have hcall := HIH.out m HMn.out x HXs.out wr HWk.out.mem
                clear htk hmem
                go_wp2_with fail
                refine hcall.mono ?_
                rintro e w5 ⟨b2, ws2, rfl, hb0, hbw, hbS, hM3, hG3, hnF, hFr⟩
                dsimp only
                have HNx5 := Aside0.mk (HNx.out.call HWk.out.mem hG3 hFr)
                have HR5 := Aside0.mk (row_call HR4.out HWk.out.mem hG3)
                have HWk5 := Aside0.mk (HWk.out.call hM3 hG3 hFr)
                have HB2 : Aside0 (w5.heap[b2]? = some (wobj ws2)) := ⟨hbw⟩
                have HS3 : Aside0 (IsSet ws2 (meets l s m x)) := ⟨hbS⟩
                have HNe : Aside0 (b2 ≠ nx) := ⟨fun e => hnF (e ▸ HNx5.out.free)⟩
                clear hcall hb0 hbw hbS hM3 hG3 hnF hFr HNx HWk HR4 hcp
                go_wp2_with fail
                go_loopg [171] 8 (fun g3 v171 wr3 => ∃ (q : Nat), v171 = .int .i64 q ∧ q ≤ 8 ∧ 8 - q ≤ g3 ∧ Aside0 (Work l s (some ad) c0 Bm Bf w0 w n i (w1.heap.size + 1) ⟨3, f1, f2, f3⟩ (some ad3) c3 wr3) ∧ Aside0 (wr3.heap[b2]? = some (wobj ws2)) ∧ Aside0 (wr3.heap[nx]? = some (wobj (part vs ws2 q)) ∧ Free Bf nx wr3) ∧ Aside0 (Kd.R (Kd.int .i64) 3 wr3 bs (fun _ => True) (.slice (some ad4) L.length c4) (nats L)))
                case atStart => exact ⟨0, rfl, by omega, by omega, HWk5, HB2, ⟨by rw [part_zero]; exact HNx5.out.obj, HNx5.out.free⟩, HR5⟩
                case round =>
                  clear HWk5 HB2 HR5
                  obtain ⟨q, rfl, hq, hg3, HWk4, HB4, HO4, HR4⟩ := hrel
                  by_cases hq8 : q < 8
                  · have hq0 : (q : Int) < 8 := by omega
                    have hq1 : (0 : Int) ≤ (q : Int) := by omega
                    have hcb := wobj_cell HB4.out q hq8
                    have hco := wobj_cell HO4.out.1 q hq8
                    have hfo := wobj_frozen HO4.out.1 q
                    have hpq : part vs ws2 q q = vs q := if_neg (by omega)
                    rw [hpq] at hco
                    have hor := part_lt HNx5.out.set HS3.out q hq8
                    clear hpq
                    go_wp2_with fail
                    go_quiet (fail)
                    go_wp2_with fail
                    go_region
                    go_wp2_with fail
                    have HJ := HWk4.out.join HNx5.out.lo HNe.out hq8 HB4.out HO4.out (nq + 1)
                    have HR6 := Aside0.mk (row_put (q := q) (u := .int .u64 ((vs q ||| ws2 q : Nat) : Int)) (Kd.R_drewN HR4.out (nq + 1)) HO4.out.1)
                    go_roundg (8 - (q + 1))
                    case measure => omega
                    case rel => exact ⟨q + 1, by go_num, by omega, by omega, ⟨HJ.1⟩, ⟨HJ.2.1⟩, ⟨HJ.2.2⟩, HR6⟩
                  · obtain rfl : q = 8 := by omega
                    have hq0 : ¬ ((8 : Nat) : Int) < 8 := by omega
                    have HTx : Aside0 (∀ y, (∃ x', x' ∈ L.take (p + 1) ∧ meets l s m x' y) ↔ (∃ x', x' ∈ L.take p ∧ meets l s m x' y) ∨ meets l s m x y) := ⟨fun y => by
                      rw [HTk.out]
                      constructor
                      · rintro ⟨k, hk, hm⟩
                        rcases List.mem_append.mp hk with h | h
                        · exact .inl ⟨k, h, hm⟩
                        · have h : k = x := by simpa using h
                          subst h
                          exact .inr hm
                      · rintro (⟨k, hk, hm⟩ | hm)
                        · exact ⟨k, List.mem_append_left _ hk, hm⟩
                        · exact ⟨x, List.mem_append_right _ (by simp), hm⟩⟩
                    have HO5 : Aside0 (Own Bf w nx (fun y => ∃ x', x' ∈ L.take (p + 1) ∧ meets l s m x' y) (part vs ws2 8) wr) := ⟨⟨HNx5.out.lo, HO4.out.1, HO4.out.2, (part_set HNx5.out.set HS3.out).congr fun y _ => (HTx.out y).symm⟩⟩
                    have hpi : (p : Int) + 1 ≤ 513 := by have := HPl.out; have := HLl.out; omega
                    go_wp2_with fail
                    go_roundg (L.length - (p + 1))
                    case measure => have := HPl.out; omega
                    case rel => exact ⟨p + 1, _, by go_num, HPl.out, Nat.le_refl _, HWk4, HO5, HR4⟩
              · obtain rfl : p = L.length := by omega
                have hpl0 : ¬ (L.length : Int) < (L.length : Int) := by omega
                have HO5 : Aside0 (Own Bf w nx (seqR ((f3.take (j + 1)).map fun k => meets l s k.toNat) i) vs wr) := ⟨⟨HNx.out.lo, HNx.out.obj, HNx.out.free, HNx.out.set.congr fun y _ => by
                  rw [List.take_length, HMem3.out.2, List.map_append, List.map_cons, List.map_nil, seqR_snoc]
                  constructor
                  · rintro ⟨x', hx', hm⟩
                    exact ⟨x', ((HLm.out x').mp hx').2, by simpa using hm⟩
                  · rintro ⟨x', hx', hm⟩
                    exact ⟨x', (HLm.out x').mpr ⟨by have := HFw.out j x' hx'; have := HS.out; omega, hx'⟩, by simpa using hm⟩⟩⟩
                go_wp2_with fail
                go_roundg (f3.length - (j + 1))
                case measure => have := HLt.out; omega
                case rel => exact ⟨j + 1, nx, _, rfl, congrArg (Value.int .i64) (by have h1 := HLt.out; have h2 := HL3.out; unfold wrap64; omega), HLt.out, Nat.le_refl _, HWk, HO5⟩
          · obtain rfl : j = f3.length := by omega
            have hlt0 : ¬ (f3.length : Int) < (f3.length : Int) := by omega
            have HO6 : Aside0 (Own Bf w b (meets l s n i) ws wr) := ⟨⟨HOw.out.lo, HOw.out.obj, HOw.out.free, HOw.out.set.congr fun y _ => by rw [List.take_length]; exact (HS2.out y).symm⟩⟩
            go_wp2_with fail
            go_meet
            exact ⟨b, ws, rfl, HWk, HO6⟩
      · as_aux_lemma =>
        have HS2 : Aside0 (∀ j, meets l s n i j ↔ ∃ k, k ∈ f3 ∧ meets l s k.toNat i j) := ⟨fun j => by rw [HMeet.out, if_neg (by decide), if_neg (by decide), if_pos rfl]⟩
        have HKid := Aside0.mk (HOk.out.kid n HN.out)
        rw [HXE.out] at HKid
        have HL3 : Aside0 (f3.length ≤ 9223372036854775807) := ⟨HRK.out.2.1⟩
        go_wp2_with fail
        go_loopg [196] f3.length (fun gg v196 wr => ∃ (j : Nat) (ws : Nat → Nat), v196 = .int .i64 j ∧ j ≤ f3.length ∧ f3.length - j ≤ gg ∧ Aside0 (Work l s (some ad) c0 Bm Bf w0 w n i (w1.heap.size + 1) ⟨4, f1, f2, f3⟩ A3 c3 wr) ∧ Aside0 (Own Bf w w1.heap.size (fun y => ∃ k, k ∈ f3.take j ∧ meets l s k.toNat i y) ws wr))
        case atStart => exact ⟨0, _, rfl, by omega, by omega, HWk, ⟨⟨HOw.out.lo, HOw.out.obj, HOw.out.free, HOw.out.set.congr fun j _ => by simp⟩⟩⟩
        case round =>
          clear HWk HOw hn0 hn1 hn2 hn3 hm0 hm1 hm2
          obtain ⟨j, ws, rfl, hj, hg, HWk, HOw⟩ := hrel
          by_cases hlt : j < f3.length
          · have HLt := Aside0.mk hlt
            have hlt0 : (j : Int) < (f3.length : Int) := by omega
            obtain ⟨ad3, c, e0, _, hK, hcell⟩ := Kd.C_get (Kd.C_below HRK.out HWk.out.mem.below) (0 : Int) j (by omega) (by omega)
            subst e0
            have hK : c = [.int .i64 (f3.getD ((j : Int)).toNat 0)] := hK
            subst hK
            have hce := hcell 0 _ rfl
            replace hce : wr.cell? (ad3.add j) = some (.int .i64 (f3.getD j 0)) := by simpa [Kd.int, Kd.scalar] using hce
            clear hcell
            have HMem3 : Aside0 (f3.getD j 0 ∈ f3 ∧ f3.take (j + 1) = f3.take j ++ [f3.getD j 0]) := ⟨by
              rw [List.getD_eq_getElem?_getD, List.getElem?_eq_getElem hlt]
              exact ⟨List.getElem_mem hlt, by rw [List.take_add_one, List.getElem?_eq_getElem hlt]; rfl⟩⟩
            generalize f3.getD j 0 = z at *
            have hz := HKid.out z HMem3.out.1
            obtain ⟨m, rfl⟩ : ∃ m : Nat, z = (m : Int) := ⟨z.toNat, by omega⟩
            have hcall := HIH.out m (by omega) i HI.out wr HWk.out.mem
            clear hz
            go_wp2_with fail
            refine hcall.mono ?_
            rintro e w3 ⟨b2, ws2, rfl, hb0, hbw, hbS, hM3, hG3, hnF, hFr⟩
            dsimp only
            have HOw3 := Aside0.mk (HOw.out.call HWk.out.mem hG3 hFr)
            have HWk3 := Aside0.mk (HWk.out.call hM3 hG3 hFr)
            have HB2 : Aside0 (w3.heap[b2]? = some (wobj ws2)) := ⟨hbw⟩
            have HS3 : Aside0 (IsSet ws2 (meets l s m i)) := ⟨hbS⟩
            have HNe : Aside0 (b2 ≠ w1.heap.size) := ⟨fun e => hnF (e ▸ HOw3.out.free)⟩
            clear hcall hb0 hbw hbS hM3 hG3 hnF hFr HOw HWk hce
            go_wp2_with fail
            go_loopg [204] 8 (fun g2 v204 wr2 => ∃ (q : Nat), v204 = .int .i64 q ∧ q ≤ 8 ∧ 8 - q ≤ g2 ∧ Aside0 (Work l s (some ad) c0 Bm Bf w0 w n i (w1.heap.size + 1) ⟨4, f1, f2, f3⟩ (some ad3) c3 wr2) ∧ Aside0 (wr2.heap[b2]? = some (wobj ws2)) ∧ Aside0 (wr2.heap[w1.heap.size]? = some (wobj (part ws ws2 q)) ∧ Free Bf w1.heap.size wr2))
            case atStart => exact ⟨0, rfl, by omega, by omega, HWk3, HB2, ⟨by rw [part_zero]; exact HOw3.out.obj, HOw3.out.free⟩⟩
            case round =>
              clear HWk3 HB2
              obtain ⟨q, rfl, hq, hg2, HWk4, HB4, HO4⟩ := hrel
              by_cases hq8 : q < 8
              · have hq0 : (q : Int) < 8 := by omega
                have hq1 : (0 : Int) ≤ (q : Int) := by omega
                have hcb := wobj_cell HB4.out q hq8
                have hco := wobj_cell HO4.out.1 q hq8
                have hfo := wobj_frozen HO4.out.1 q
                have hpq : part ws ws2 q q = ws q := if_neg (by omega)
                rw [hpq] at hco
                have hor := part_lt HOw3.out.set HS3.out q hq8
                clear hpq
                go_wp2_with fail
                go_quiet (fail)
                go_wp2_with fail
                go_region
                go_wp2_with fail
                have HJ := HWk4.out.join HOw3.out.lo HNe.out hq8 HB4.out HO4.out (nq + 1)
                go_roundg (8 - (q + 1))
                case measure => omega
                case rel => exact ⟨q + 1, by go_num, by omega, by omega, ⟨HJ.1⟩, ⟨HJ.2.1⟩, ⟨HJ.2.2⟩⟩
              · obtain rfl : q = 8 := by omega
                have hq0 : ¬ ((8 : Nat) : Int) < 8 := by omega
                have HTk : Aside0 (∀ y, (∃ k, k ∈ f3.take (j + 1) ∧ meets l s k.toNat i y) ↔ (∃ k, k ∈ f3.take j ∧ meets l s k.toNat i y) ∨ meets l s m i y) := ⟨fun y => by
                  rw [HMem3.out.2]
                  constructor
                  · rintro ⟨k, hk, hm⟩
                    rcases List.mem_append.mp hk with h | h
                    · exact .inl ⟨k, h, hm⟩
                    · have h : k = (m : Int) := by simpa using h
                      subst h
                      exact .inr (by simpa using hm)
                  · rintro (⟨k, hk, hm⟩ | hm)
                    · exact ⟨k, List.mem_append_left _ hk, hm⟩
                    · exact ⟨m, List.mem_append_right _ (by simp), by simpa using hm⟩⟩
                have HO5 : Aside0 (Own Bf w w1.heap.size (fun y => ∃ k, k ∈ f3.take (j + 1) ∧ meets l s k.toNat i y) (part ws ws2 8) wr) := ⟨⟨HOw3.out.lo, HO4.out.1, HO4.out.2, (part_set HOw3.out.set HS3.out).congr fun y _ => (HTk.out y).symm⟩⟩
                go_wp2_with fail
                go_roundg (f3.length - (j + 1))
                case measure => have := HLt.out; omega
                case rel => exact ⟨j + 1, _, congrArg (Value.int .i64) (by have h1 := HLt.out; have h2 := HL3.out; unfold wrap64; omega), HLt.out, Nat.le_refl _, HWk4, HO5⟩
          · obtain rfl : j = f3.length := by omega
            have hlt0 : ¬ (f3.length : Int) < (f3.length : Int) := by omega
            have hcl := HWk.out.loc
            have hn0 : wr.cell? ⟨w1.heap.size + 1, 0, none⟩ = some (.int .i64 4) := by simp [World.cell?, hcl]
            have HO5 : Aside0 (Own Bf w w1.heap.size (fun y => ∃ k, k ∈ f3 ∧ meets l s k.toNat i y) ws wr) := ⟨⟨HOw.out.lo, HOw.out.obj, HOw.out.free, HOw.out.set.congr fun y _ => by rw [List.take_length]⟩⟩
            clear hcl
            have HO6 : Aside0 (Own Bf w w1.heap.size (meets l s n i) ws wr) := ⟨⟨HO5.out.lo, HO5.out.obj, HO5.out.free, HO5.out.set.congr fun y _ => (HS2.out y).symm⟩⟩
            go_wp2_with fail
            go_meet
            exact ⟨_, ws, rfl, HWk, HO6⟩
      · as_aux_lemma =>
        have HOne := HOk.out.one n HN.out (by rw [HXE.out]; show (5 : Int) ≤ 7; decide)
        rw [HXE.out] at HOne
        have HS2 : Aside0 (∀ j, meets l s n i j ↔ (∃ k, k ∈ f3 ∧ meets l s k.toNat i j) ∨ j = i) := ⟨fun j => by
          obtain ⟨k1, hk1⟩ := HOne
          have hk1 : f3 = [k1] := hk1
          rw [HMeet.out, if_neg (by decide), if_neg (by decide), if_neg (by decide), if_neg (by decide), if_neg (by decide), hk1]
          simp only [List.headD_cons, List.mem_singleton, exists_eq_left]
          constructor
          · rintro (e | h)
            · exact .inr e.symm
            · exact .inl h
          · rintro (h | e)
            · exact .inr h
            · exact .inl e.symm⟩
        clear HOne
        have HKid := Aside0.mk (HOk.out.kid n HN.out)
        rw [HXE.out] at HKid
        have HL3 : Aside0 (f3.length ≤ 9223372036854775807) := ⟨HRK.out.2.1⟩
        go_wp2_with fail
        go_loopg [196] f3.length (fun gg v196 wr => ∃ (j : Nat) (ws : Nat → Nat), v196 = .int .i64 j ∧ j ≤ f3.length ∧ f3.length - j ≤ gg ∧ Aside0 (Work l s (some ad) c0 Bm Bf w0 w n i (w1.heap.size + 1) ⟨7, f1, f2, f3⟩ A3 c3 wr) ∧ Aside0 (Own Bf w w1.heap.size (fun y => ∃ k, k ∈ f3.take j ∧ meets l s k.toNat i y) ws wr))
        case atStart => exact ⟨0, _, rfl, by omega, by omega, HWk, ⟨⟨HOw.out.lo, HOw.out.obj, HOw.out.free, HOw.out.set.congr fun j _ => by simp⟩⟩⟩
        case round =>
          clear HWk HOw hn0 hn1 hn2 hn3 hm0 hm1 hm2
          obtain ⟨j, ws, rfl, hj, hg, HWk, HOw⟩ := hrel
          by_cases hlt : j < f3.length
          · have HLt := Aside0.mk hlt
            have hlt0 : (j : Int) < (f3.length : Int) := by omega
            obtain ⟨ad3, c, e0, _, hK, hcell⟩ := Kd.C_get (Kd.C_below HRK.out HWk.out.mem.below) (0 : Int) j (by omega) (by omega)
            subst e0
            have hK : c = [.int .i64 (f3.getD ((j : Int)).toNat 0)] := hK
            subst hK
            have hce := hcell 0 _ rfl
            replace hce : wr.cell? (ad3.add j) = some (.int .i64 (f3.getD j 0)) := by simpa [Kd.int, Kd.scalar] using hce
            clear hcell
            have HMem3 : Aside0 (f3.getD j 0 ∈ f3 ∧ f3.take (j + 1) = f3.take j ++ [f3.getD j 0]) := ⟨by
              rw [List.getD_eq_getElem?_getD, List.getElem?_eq_getElem hlt]
              exact ⟨List.getElem_mem hlt, by rw [List.take_add_one, List.getElem?_eq_getElem hlt]; rfl⟩⟩
            generalize f3.getD j 0 = z at *
            have hz := HKid.out z HMem3.out.1
            obtain ⟨m, rfl⟩ : ∃ m : Nat, z = (m : Int) := ⟨z.toNat, by omega⟩
            have hcall := HIH.out m (by omega) i HI.out wr HWk.out.mem
            clear hz
            go_wp2_with fail
            refine hcall.mono ?_
            rintro e w3 ⟨b2, ws2, rfl, hb0, hbw, hbS, hM3, hG3, hnF, hFr⟩
            dsimp only
            have HOw3 := Aside0.mk (HOw.out.call HWk.out.mem hG3 hFr)
            have HWk3 := Aside0.mk (HWk.out.call hM3 hG3 hFr)
            have HB2 : Aside0 (w3.heap[b2]? = some (wobj ws2)) := ⟨hbw⟩
            have HS3 : Aside0 (IsSet ws2 (meets l s m i)) := ⟨hbS⟩
            have HNe : Aside0 (b2 ≠ w1.heap.size) := ⟨fun e => hnF (e ▸ HOw3.out.free)⟩
            clear hcall hb0 hbw hbS hM3 hG3 hnF hFr HOw HWk hce
            go_wp2_with fail
            go_loopg [204] 8 (fun g2 v204 wr2 => ∃ (q : Nat), v204 = .int .i64 q ∧ q ≤ 8 ∧ 8 - q ≤ g2 ∧ Aside0 (Work l s (some ad) c0 Bm Bf w0 w n i (w1.heap.size + 1) ⟨7, f1, f2, f3⟩ (some ad3) c3 wr2) ∧ Aside0 (wr2.heap[b2]? = some (wobj ws2)) ∧ Aside0 (wr2.heap[w1.heap.size]? = some (wobj (part ws ws2 q)) ∧ Free Bf w1.heap.size wr2))
            case atStart => exact ⟨0, rfl, by omega, by omega, HWk3, HB2, ⟨by rw [part_zero]; exact HOw3.out.obj, HOw3.out.free⟩⟩
            case round =>
              clear HWk3 HB2
              obtain ⟨q, rfl, hq, hg2, HWk4, HB4, HO4⟩ := hrel
              by_cases hq8 : q < 8
              · have hq0 : (q : Int) < 8 := by omega
                have hq1 : (0 : Int) ≤ (q : Int) := by omega
                have hcb := wobj_cell HB4.out q hq8
                have hco := wobj_cell HO4.out.1 q hq8
                have hfo := wobj_frozen HO4.out.1 q
                have hpq : part ws ws2 q q = ws q := if_neg (by omega)
                rw [hpq] at hco
                have hor := part_lt HOw3.out.set HS3.out q hq8
                clear hpq
                go_wp2_with fail
                go_quiet (fail)
                go_wp2_with fail
                go_region
                go_wp2_with fail
                have HJ := HWk4.out.join HOw3.out.lo HNe.out hq8 HB4.out HO4.out (nq + 1)
                go_roundg (8 - (q + 1))
                case measure => omega
                case rel => exact ⟨q + 1, by go_num, by omega, by omega, ⟨HJ.1⟩, ⟨HJ.2.1⟩, ⟨HJ.2.2⟩⟩
              · obtain rfl : q = 8 := by omega
                have hq0 : ¬ ((8 : Nat) : Int) < 8 := by omega
                have HTk : Aside0 (∀ y, (∃ k, k ∈ f3.take (j + 1) ∧ meets l s k.toNat i y) ↔ (∃ k, k ∈ f3.take j ∧ meets l s k.toNat i y) ∨ meets l s m i y) := ⟨fun y => by
                  rw [HMem3.out.2]
                  constructor
                  · rintro ⟨k, hk, hm⟩
                    rcases List.mem_append.mp hk with h | h
                    · exact .inl ⟨k, h, hm⟩
                    · have h : k = (m : Int) := by simpa using h
                      subst h
                      exact .inr (by simpa using hm)
                  · rintro (⟨k, hk, hm⟩ | hm)
                    · exact ⟨k, List.mem_append_left _ hk, hm⟩
                    · exact ⟨m, List.mem_append_right _ (by simp), by simpa using hm⟩⟩
                have HO5 : Aside0 (Own Bf w w1.heap.size (fun y => ∃ k, k ∈ f3.take (j + 1) ∧ meets l s k.toNat i y) (part ws ws2 8) wr) := ⟨⟨HOw3.out.lo, HO4.out.1, HO4.out.2, (part_set HOw3.out.set HS3.out).congr fun y _ => (HTk.out y).symm⟩⟩
                go_wp2_with fail
                go_roundg (f3.length - (j + 1))
                case measure => have := HLt.out; omega
                case rel => exact ⟨j + 1, _, congrArg (Value.int .i64) (by have h1 := HLt.out; have h2 := HL3.out; unfold wrap64; omega), HLt.out, Nat.le_refl _, HWk4, HO5⟩
          · obtain rfl : j = f3.length := by omega
            have hlt0 : ¬ (f3.length : Int) < (f3.length : Int) := by omega
            have hcl := HWk.out.loc
            have hn0 : wr.cell? ⟨w1.heap.size + 1, 0, none⟩ = some (.int .i64 7) := by simp [World.cell?, hcl]
            have HO5 : Aside0 (Own Bf w w1.heap.size (fun y => ∃ k, k ∈ f3 ∧ meets l s k.toNat i y) ws wr) := ⟨⟨HOw.out.lo, HOw.out.obj, HOw.out.free, HOw.out.set.congr fun y _ => by rw [List.take_length]⟩⟩
            clear hcl
            have hcall := add_calls w1.heap.size i (by have := HI.out; have := HS.out; omega) _ _ HO5.out.set wr HO5.out.obj
            go_wp2_with fail
            refine hcall.mono ?_
            rintro e w' ⟨r, rfl, _, ws', hS', hw', hg', -⟩
            have hF := HO5.out.free.same (hg'.block _ (map_lt HWk.out.mem) (fun e => map_ne HWk.out.mem HO5.out.obj (Option.some.inj e).symm))
            have HW' := Aside0.mk (HWk.out.set HO5.out hg')
            have HO' : Aside0 (Own Bf w w1.heap.size (meets l s n i) ws' w') := ⟨⟨HO5.out.lo, hw', hF, hS'.congr fun y _ => (HS2.out y).symm⟩⟩
            clear hS' hw' hg' hF
            go_wp2_with fail
            go_meet
            exact ⟨_, ws', rfl, HW', HO'⟩
      · as_aux_lemma =>
        have HOne := HOk.out.one n HN.out (by rw [HXE.out]; show (5 : Int) ≤ 5; decide)
        have HKid := HOk.out.kid n HN.out
        rw [HXE.out] at HOne HKid
        obtain ⟨k1, hk1⟩ := HOne
        have hk1 : f3 = [k1] := hk1
        subst hk1
        have hz := HKid k1 (by simp)
        obtain ⟨m, rfl⟩ : ∃ m : Nat, k1 = (m : Int) := ⟨k1.toNat, by omega⟩
        have HMn : Aside0 (m < n) := ⟨by omega⟩
        clear hz HKid
        have HFw : Aside0 (Fwd (meets l s m) s.size) := ⟨meets_fwd HOk.out s m (by have := HN.out; have := HMn.out; omega)⟩
        have HS2 : Aside0 (∀ j, meets l s n i j ↔ Plus (meets l s m) i j ∨ j = i) := ⟨fun j => by
          rw [HMeet.out, if_neg (by decide), if_neg (by decide), if_neg (by decide), if_pos rfl]
          show Star (meets l s ((m : Int)).toNat) i j ↔ _
          rw [Int.toNat_natCast]
          exact plus_star⟩
        have HT0 := Aside0.mk HBase.out.tabs
        obtain ⟨ad3, c, e0, _, hK, hcell⟩ := Kd.C_get (Kd.C_below HRK.out HWk.out.mem.below) (0 : Int) 0 (by omega) (by simp)
        subst e0
        have hK : c = [.int .i64 (([(m : Int)] : List Int).getD ((0 : Int)).toNat 0)] := hK
        subst hK
        have hce := hcell 0 _ rfl
        have hce2 : w2.cell? ad3 = some (.int .i64 m) := by simpa [Kd.int, Kd.scalar, Addr.add] using hce
        replace hce : w2.cell? (ad3.add 0) = some (.int .i64 m) := by simpa [Kd.int, Kd.scalar] using hce
        clear hcell
        have hcall := HIH.out m HMn.out i HI.out w2 HWk.out.mem
        go_wp2_with fail
        refine hcall.mono ?_
        rintro e w3 ⟨b2, ws2, rfl, hb0, hbw, hbS, hM3, hG3, hnF, hFr⟩
        dsimp only
        have HOw3 := Aside0.mk (HOw.out.call HWk.out.mem hG3 hFr)
        have HWk3 := Aside0.mk (HWk.out.call hM3 hG3 hFr)
        have hlist := list_calls b2 ws2 _ hbS w3 hbw (HT0.out.below HWk3.out.mem.below)
        clear hcall hb0 hbw hbS hM3 hG3 hnF hFr HOw HWk hce hce2 hn0 hn1 hn2 hn3 hm0 hm1 hm2
        go_wp2_with fail
        refine hlist.mono ?_
        rintro e w4 ⟨v4, rfl, hR4, hB4⟩
        dsimp only
        obtain ⟨Q0, hQ0⟩ : ∃ Q0, Q0 = upto (meets l s m i) (s.size + 1) := ⟨_, rfl⟩
        rw [upto_big (n := s.size + 1) (fun y hy => by have := HFw.out i y HI.out hy; omega) (by have := HS.out; omega), ← hQ0] at hR4
        have HQ0 : Aside0 (Re.Queue (meets l s m) i (s.size + 1) Q0 0) := ⟨by rw [hQ0]; exact Queue.start fun y hy => by have := HFw.out i y HI.out hy; omega⟩
        have HQl : Aside0 (Q0.length ≤ 501) := ⟨by have := HQ0.out.len; have := HS.out; omega⟩
        obtain ⟨A4, c4, rfl, hl4, hC4⟩ := Kd.R_reads hR4
        rw [nats_len] at hR4 hl4 ⊢
        have HR4 := Aside0.mk hR4
        have HOw4 := Aside0.mk (HOw3.out.move HWk3.out.mem hB4)
        have HWk4 := Aside0.mk (HWk3.out.move hB4)
        replace HR4 := Aside0.mk (Kd.R_lower HR4.out HWk3.out.grown.size)
        clear hlist hQ0 hR4 hB4 hl4 hC4 HWk3 HOw3
        go_wp2_with fail
        go_loopg [61] Q0.length (fun g2 v61 wr2 => ∃ (p : Nat) (vs : Nat → Nat), v61 = .int .i64 p ∧ p ≤ Q0.length ∧ Q0.length - p ≤ g2 ∧ Aside0 (Work l s (some ad) c0 Bm Bf w0 w n i (w1.heap.size + 1) ⟨5, f1, f2, [(m : Int)]⟩ (some ad3) c3 wr2) ∧ Aside0 (Own Bf w w1.heap.size (fun y => y ∈ Q0.take p) vs wr2) ∧ Aside0 (Kd.R (Kd.int .i64) 3 wr2 w.heap.size (fun _ => True) (.slice A4 Q0.length c4) (nats Q0)))
        case atStart => exact ⟨0, _, rfl, by omega, by omega, HWk4, ⟨⟨HOw4.out.lo, HOw4.out.obj, HOw4.out.free, HOw4.out.set.congr fun y _ => by simp⟩⟩, HR4⟩
        case round =>
          clear HWk4 HOw4 HR4
          obtain ⟨p, vs, rfl, hp, hg2, HWk, HOw, HR4⟩ := hrel
          by_cases hpl : p < Q0.length
          · have hpl0 : (p : Int) < (Q0.length : Int) := by omega
            have HPl := Aside0.mk hpl
            obtain ⟨ad4, e4, hcp⟩ := row_get HR4.out p (by rw [nats_len]; exact hpl)
            subst e4
            rw [nats_get Q0 p hpl] at hcp
            obtain ⟨htk, hmem⟩ := take_next Q0 p hpl
            generalize Q0.getD p 0 = x at hcp htk hmem
            have hxl := HQ0.out.lt x hmem
            have hcall := add_calls w1.heap.size x (by have := HS.out; omega) _ _ HOw.out.set wr HOw.out.obj
            have HTk := Aside0.mk htk
            clear htk hmem hxl
            go_wp2_with fail
            refine hcall.mono ?_
            rintro e w' ⟨r, rfl, _, ws', hS', hw', hg', -⟩
            dsimp only
            have hF := HOw.out.free.same (hg'.block _ (map_lt HWk.out.mem) (fun e => map_ne HWk.out.mem HOw.out.obj (Option.some.inj e).symm))
            have HW' := Aside0.mk (HWk.out.set HOw.out hg')
            have HR' := Aside0.mk (row_grown2 HR4.out HOw.out.obj hg')
            have HO' : Aside0 (Own Bf w w1.heap.size (fun y => y ∈ Q0.take (p + 1)) ws' w') := ⟨⟨HOw.out.lo, hw', hF, hS'.congr fun y _ => by rw [HTk.out]; simp⟩⟩
            have hpi : (p : Int) + 1 ≤ 513 := by have := HPl.out; have := HQl.out; omega
            clear hS' hw' hg' hF hcp hcall
            go_wp2_with fail
            go_roundg (Q0.length - (p + 1))
            case measure => have := HPl.out; omega
            case rel => exact ⟨p + 1, _, by go_num, HPl.out, Nat.le_refl _, HW', HO', HR'⟩
          · obtain rfl : p = Q0.length := by omega
            have hpl0 : ¬ (Q0.length : Int) < (Q0.length : Int) := by omega
            have HOw5 : Aside0 (Own Bf w w1.heap.size (fun y => y ∈ Q0) vs wr) := ⟨⟨HOw.out.lo, HOw.out.obj, HOw.out.free, HOw.out.set.congr fun y _ => by rw [List.take_length]⟩⟩
            clear HOw
            go_wp2_with fail
            go_loopg [22, 25] 513 (fun gg v22 v25 wr => ∃ (i' : Nat) (Q : List Nat) (ws : Nat → Nat), v25 = .int .i64 i' ∧ 513 - i' ≤ gg ∧ i' ≤ Q.length ∧ Aside0 (Re.Queue (meets l s m) i (s.size + 1) Q i') ∧ Aside0 (Work l s (some ad) c0 Bm Bf w0 w n i (w1.heap.size + 1) ⟨5, f1, f2, [(m : Int)]⟩ (some ad3) c3 wr) ∧ Aside0 (Own Bf w w1.heap.size (fun y => y ∈ Q) ws wr) ∧ Aside0 (Kd.R (Kd.int .i64) 3 wr w.heap.size (fun _ => True) v22 (nats Q)))
            case atStart => exact ⟨0, Q0, vs, rfl, by omega, by omega, HQ0, HWk, HOw5, HR4⟩
            case round =>
              clear HWk HOw5 HR4 HQ0
              obtain ⟨i', Q, ws, rfl, hg, hi', HQ, HWk, HOw, HR⟩ := hrel
              obtain ⟨A5, c5, hv, _, _⟩ := Kd.R_reads HR.out
              rw [nats_len] at hv
              subst hv
              have HQ5 : Aside0 (Q.length ≤ 501) := ⟨by have := HQ.out.len; have := HS.out; omega⟩
              have hcl := HWk.out.loc
              have hn3 : wr.cell? ⟨w1.heap.size + 1, 3, none⟩ = some (.slice (some ad3) 1 c3) := by simp [World.cell?, hcl]
              have hn0 : wr.cell? ⟨w1.heap.size + 1, 0, none⟩ = some (.int .i64 5) := by simp [World.cell?, hcl]
              clear hcl
              by_cases hlt : i' < Q.length
              · have hlt0 : (i' : Int) < (Q.length : Int) := by omega
                have HLt := Aside0.mk hlt
                obtain ⟨ad5, e5, hcq⟩ := row_get HR.out i' (by rw [nats_len]; exact hlt)
                subst e5
                rw [nats_get Q i' hlt] at hcq
                have HStep := Aside0.mk (HQ.out.step hlt (fun q x hq hx => by have := HFw.out q x (by omega) hx; omega))
                have hmem := (take_next Q i' hlt).2
                have HXq : Aside0 (∃ x, Q.getD i' 0 = x) := ⟨_, rfl⟩
                obtain ⟨x, hx⟩ := HXq.out
                rw [hx] at hcq HStep hmem
                replace HXq : Aside0 (Q.getD i' 0 = x) := ⟨hx⟩
                clear hx
                have HXs : Aside0 (x ≤ s.size) := ⟨by have := HQ.out.lt x hmem; omega⟩
                obtain ⟨ad3', cc, e0, _, hK, hcell⟩ := Kd.C_get (Kd.C_below HRK.out HWk.out.mem.below) (0 : Int) 0 (by omega) (by simp)
                obtain rfl : ad3 = ad3' := Option.some.inj e0
                have hK : cc = [.int .i64 (([(m : Int)] : List Int).getD ((0 : Int)).toNat 0)] := hK
                subst hK
                have hce := hcell 0 _ rfl
                replace hce : wr.cell? ad3 = some (.int .i64 m) := by simpa [Kd.int, Kd.scalar, Addr.add] using hce
                clear hcell e0 hmem
                go_upto_region 16 with fail
                refine wp_region_aside_at (v := .int .i64 0) 9 12 (by kernel_rfl) rfl (by kernel_rfl) (by kernel_rfl) (by kernel_rfl) (fun _ _ _ h => h) (Or.inl ⟨by rfl, fun w => ?_⟩) (by kernel_rfl) (by kernel_rfl) ?_
                · first | rfl | (go_simp; done)
                simp only [List.take_succ_cons, List.take_zero, List.drop_succ_cons, List.drop_zero]
                repeat still_step
                try refine wpStill_nil ?_
                change wpList _ _ _ _ _ wr.drew
                have hdr : Below wr.heap.size wr wr.drew := (Below.refl _ _).drew
                replace HOw := Aside0.mk (HOw.out.move HWk.out.mem hdr)
                replace HWk := Aside0.mk (HWk.out.move hdr)
                replace HR := Aside0.mk (Kd.R_below HR.out hdr)
                clear hdr hce hcq hn3 hn0
                generalize wr.drew = w6 at *
                have hcall := HIH.out m HMn.out x HXs.out w6 HWk.out.mem
                go_wp2_with fail
                refine hcall.mono ?_
                rintro e w7 ⟨b2, ws2, rfl, hb0, hbw, hbS, hM3, hG3, hnF, hFr⟩
                dsimp only
                replace HR := Aside0.mk (row_call HR.out HWk.out.mem hG3)
                replace HOw := Aside0.mk (HOw.out.call HWk.out.mem hG3 hFr)
                replace HWk := Aside0.mk (HWk.out.call hM3 hG3 hFr)
                have hlist := list_calls b2 ws2 _ hbS w7 hbw (HT0.out.below HWk.out.mem.below)
                clear hcall hb0 hbw hbS hM3 hG3 hnF hFr
                go_wp2_with fail
                refine hlist.mono ?_
                rintro e w8 ⟨v4, rfl, hR4, hB4⟩
                dsimp only
                obtain ⟨L, hL⟩ : ∃ L, L = upto (meets l s m x) (s.size + 1) := ⟨_, rfl⟩
                rw [upto_big (n := s.size + 1) (fun y hy => by have := HFw.out x y HXs.out hy; omega) (by have := HS.out; omega), ← hL] at hR4
                rw [← hL] at HStep
                have HLb : Aside0 (L.length ≤ 501 ∧ ∀ y, y ∈ L → y ≤ s.size) := ⟨by rw [hL]; have := upto_len (meets l s m x) (s.size + 1); have := HS.out; omega, fun y hy => by rw [hL] at hy; have := (mem_upto.mp hy).1; omega⟩
                obtain ⟨inner, hown⟩ := Kd.R_own HR.out
                have hR5 := Kd.R_mono (Kd.R_new hR4 hown) (fun k hk => hk.2)
                obtain ⟨A6, c6, rfl, hl6, hC6⟩ := Kd.R_reads hR4
                rw [nats_len L] at hR5 hl6 ⊢
                have HL5 := Aside0.mk hR5
                replace HR := Aside0.mk (Kd.R_below HR.out hB4)
                replace HOw := Aside0.mk (HOw.out.move HWk.out.mem hB4)
                replace HWk := Aside0.mk (HWk.out.move hB4)
                obtain ⟨bl, hbl⟩ : ∃ bl, bl = w7.heap.size := ⟨_, rfl⟩
                rw [← hbl] at HL5
                clear hlist hL hR4 hR5 hB4 hl6 hC6 hown hbl
                go_wp2_with fail
                go_loopg [22, 87] L.length (fun g2 v22 v87 wr2 => ∃ (p : Nat) (vs : Nat → Nat), v87 = .int .i64 p ∧ p ≤ L.length ∧ L.length - p ≤ g2 ∧ Aside0 (Work l s (some ad) c0 Bm Bf w0 w n i (w1.heap.size + 1) ⟨5, f1, f2, [(m : Int)]⟩ (some ad3) c3 wr2) ∧ Aside0 (Own Bf w w1.heap.size (fun y => y ∈ ext Q (L.take p)) vs wr2) ∧ Aside0 (Kd.R (Kd.int .i64) 3 wr2 w.heap.size (fun _ => True) v22 (nats (ext Q (L.take p)))) ∧ Aside0 (Kd.R (Kd.int .i64) 3 wr2 bl (fun k => some k ≠ v22.ownBlock) (.slice A6 L.length c6) (nats L)) ∧ Aside0 ((ext Q (L.take p)).length ≤ 501 + p))
                case atStart => exact ⟨0, ws, rfl, by omega, by omega, HWk, HOw, HR, HL5, HQ5⟩
                case round =>
                  clear HWk HOw HR HL5
                  obtain ⟨p, vs, rfl, hp, hg2, HWk, HOw, HR, HL5, HEl⟩ := hrel
                  by_cases hpl : p < L.length
                  · have hpl0 : (p : Int) < (L.length : Int) := by omega
                    have HPl := Aside0.mk hpl
                    obtain ⟨ad6, e6, hcp⟩ := row_get (row_true HL5.out) p (by rw [nats_len]; exact hpl)
                    subst e6
                    rw [nats_get L p hpl] at hcp
                    have hext := ext_take Q L p hpl
                    have hmem := (take_next L p hpl).2
                    generalize L.getD p 0 = z at hcp hext hmem
                    have hzl := HLb.out.2 z hmem
                    have hcall := add_calls w1.heap.size z (by have := HS.out; omega) _ _ HOw.out.set wr HOw.out.obj
                    have HExt := Aside0.mk hext
                    have hpi : (p : Int) + 1 ≤ 513 := by have := HLb.out.1; omega
                    clear hext hmem hzl
                    go_wp2_with fail
                    refine hcall.mono ?_
                    rintro e w' ⟨r, rfl, hr, ws', hS', hw', hg', -⟩
                    dsimp only
                    have hF := HOw.out.free.same (hg'.block _ (map_lt HWk.out.mem) (fun e => map_ne HWk.out.mem HOw.out.obj (Option.some.inj e).symm))
                    have HW' := Aside0.mk (HWk.out.set HOw.out hg')
                    have HR' := Aside0.mk (row_grown2 HR.out HOw.out.obj hg')
                    have HL' := Aside0.mk (row_grown2 HL5.out HOw.out.obj hg')
                    have HO' : Aside0 (Own Bf w w1.heap.size (fun y => y ∈ ext Q (L.take (p + 1))) ws' w') := ⟨⟨HOw.out.lo, hw', hF, hS'.congr fun y _ => by
                      rw [HExt.out]
                      split
                      · rename_i h
                        constructor
                        · rintro (h1 | h1)
                          · exact h1
                          · rw [h1]; exact h
                        · exact .inl
                      · simp⟩⟩
                    clear hS' hw' hg' hF hcp hcall HWk HOw HR HL5
                    cases r with
                    | false =>
                      have hin : z ∈ ext Q (L.take p) := Classical.byContradiction fun h => absurd (hr.mpr h) (by decide)
                      have HE : Aside0 (ext Q (L.take (p + 1)) = ext Q (L.take p)) := ⟨by rw [HExt.out, if_pos hin]⟩
                      clear hr hin
                      go_wp2_with fail
                      go_roundg (L.length - (p + 1))
                      case measure => have := HPl.out; omega
                      case rel => exact ⟨p + 1, _, by go_num, HPl.out, Nat.le_refl _, HW', HO', ⟨by rw [HE.out]; exact HR'.out⟩, HL', ⟨by rw [HE.out]; have := HEl.out; omega⟩⟩
                    | true =>
                      have hout := hr.mp rfl
                      have HE : Aside0 (ext Q (L.take (p + 1)) = ext Q (L.take p) ++ [z]) := ⟨by rw [HExt.out, if_neg hout]⟩
                      have HLN : Aside0 ((nats (ext Q (L.take p))).length < 17592186044415) := ⟨by rw [nats_len]; have := HEl.out; have := HPl.out; have := HLb.out.1; omega⟩
                      have HBsz : Aside0 (w.heap.size ≤ w'.heap.size) := ⟨HW'.out.grown.size⟩
                      clear hr hout
                      go_wp2_with (first | ((with_reducible refine gate_builtin (b := .append) (xs := #[.tmp 94, .tmp 96]) rfl ?_); at_builtin; refine Kd.R_append (Kd.int .i64) (w0 := w') w.heap.size rfl (.tmp 94) (.tmp 96) 31 3 (.int .i64 0) 8 rfl Tryd.underlying31 info3 rfl (by decide) (by omega) _ (nats (ext Q (L.take p))) (z : Int) [.int .i64 (z : Int)] (fun _ => True) (fun _ => False) rfl rfl ?aP (fun _ hk => hk.elim) (fun _ _ => trivial) ?aO ?aB ?aS ?aL ?_; (case aP => exact rfl); (case aO => exact HR'.out); (case aB => exact Below.refl _ _); (case aS => exact HBsz.out); (case aL => have := HLN.out; omega); intro v159 w24 ho hb hg hat; rw [← nats_snoc] at ho; have HO2 := Aside0.mk ho; have HG2 := Aside0.mk hg; have HA2 := Aside0.mk hat; clear ho hb hg hat))
                      have HWn := Aside0.mk (HW'.out.row HR'.out (Nat.le_refl _) HG2.out)
                      have HOn := Aside0.mk (HO'.out.row HW'.out.mem HR'.out HG2.out)
                      have HLn := Aside0.mk (row_row HL'.out HG2.out HA2.out)
                      go_wp2_with fail
                      go_roundg (L.length - (p + 1))
                      case measure => have := HPl.out; omega
                      case rel => exact ⟨p + 1, _, by go_num, HPl.out, Nat.le_refl _, HWn, HOn, ⟨by rw [HE.out]; exact HO2.out⟩, HLn, ⟨by rw [HE.out, List.length_append, List.length_singleton]; have := HEl.out; omega⟩⟩
                  · obtain rfl : p = L.length := by omega
                    have hpl0 : ¬ (L.length : Int) < (L.length : Int) := by omega
                    have HOn : Aside0 (Own Bf w w1.heap.size (fun y => y ∈ ext Q L) vs wr) := ⟨⟨HOw.out.lo, HOw.out.obj, HOw.out.free, HOw.out.set.congr fun y _ => by rw [List.take_length]⟩⟩
                    have HRn : Aside0 (Kd.R (Kd.int .i64) 3 wr w.heap.size (fun _ => True) u22 (nats (ext Q L))) := ⟨by have h := HR.out; rw [List.take_length] at h; exact h⟩
                    have HLe : Aside0 (i' + 1 ≤ (ext Q L).length) := ⟨by
                      obtain ⟨m', hm'⟩ := ext_head L Q
                      rw [hm', List.length_append]
                      have := HLt.out
                      omega⟩
                    have hii : (i' : Int) + 1 ≤ 513 := by have := HLt.out; have := HQ5.out; omega
                    clear HOw HR
                    go_wp2_with fail
                    go_roundg (513 - (i' + 1))
                    case measure => have := HLt.out; have := HQ5.out; omega
                    case rel => exact ⟨i' + 1, _, _, by go_num, Nat.le_refl _, HLe.out, HStep, HWk, HOn, HRn⟩
              · obtain rfl : i' = Q.length := by omega
                have hlt0 : ¬ (Q.length : Int) < (Q.length : Int) := by omega
                have HDone := Aside0.mk (fun y => HQ.out.done y)
                have HO5 : Aside0 (Own Bf w w1.heap.size (fun y => Plus (meets l s m) i y) ws wr) := ⟨⟨HOw.out.lo, HOw.out.obj, HOw.out.free, HOw.out.set.congr fun y _ => HDone.out y⟩⟩
                clear HOw
                have hcall := add_calls w1.heap.size i (by have := HI.out; have := HS.out; omega) _ _ HO5.out.set wr HO5.out.obj
                go_wp2_with fail
                refine hcall.mono ?_
                rintro e w' ⟨r, rfl, _, ws', hS', hw', hg', -⟩
                dsimp only
                have hF := HO5.out.free.same (hg'.block _ (map_lt HWk.out.mem) (fun e => map_ne HWk.out.mem HO5.out.obj (Option.some.inj e).symm))
                have HW' := Aside0.mk (HWk.out.set HO5.out hg')
                have HO' : Aside0 (Own Bf w w1.heap.size (meets l s n i) ws' w') := ⟨⟨HO5.out.lo, hw', hF, hS'.congr fun y _ => (HS2.out y).symm⟩⟩
                clear hS' hw' hg' hF
                go_wp2_with fail
                go_meet
                exact ⟨_, ws', rfl, HW', HO'⟩
      · as_aux_lemma =>
        have HOne := HOk.out.one n HN.out (by rw [HXE.out]; show (5 : Int) ≤ 6; decide)
        have HKid := HOk.out.kid n HN.out
        rw [HXE.out] at HOne HKid
        obtain ⟨k1, hk1⟩ := HOne
        have hk1 : f3 = [k1] := hk1
        subst hk1
        have hz := HKid k1 (by simp)
        obtain ⟨m, rfl⟩ : ∃ m : Nat, k1 = (m : Int) := ⟨k1.toNat, by omega⟩
        have HMn : Aside0 (m < n) := ⟨by omega⟩
        clear hz HKid
        have HFw : Aside0 (Fwd (meets l s m) s.size) := ⟨meets_fwd HOk.out s m (by have := HN.out; have := HMn.out; omega)⟩
        have HS2 : Aside0 (∀ j, meets l s n i j ↔ Plus (meets l s m) i j) := ⟨fun j => by
          rw [HMeet.out, if_neg (by decide), if_neg (by decide), if_neg (by decide), if_neg (by decide), if_pos rfl]
          show Plus (meets l s ((m : Int)).toNat) i j ↔ _
          rw [Int.toNat_natCast]⟩
        have HT0 := Aside0.mk HBase.out.tabs
        obtain ⟨ad3, c, e0, _, hK, hcell⟩ := Kd.C_get (Kd.C_below HRK.out HWk.out.mem.below) (0 : Int) 0 (by omega) (by simp)
        subst e0
        have hK : c = [.int .i64 (([(m : Int)] : List Int).getD ((0 : Int)).toNat 0)] := hK
        subst hK
        have hce := hcell 0 _ rfl
        have hce2 : w2.cell? ad3 = some (.int .i64 m) := by simpa [Kd.int, Kd.scalar, Addr.add] using hce
        replace hce : w2.cell? (ad3.add 0) = some (.int .i64 m) := by simpa [Kd.int, Kd.scalar] using hce
        clear hcell
        have hcall := HIH.out m HMn.out i HI.out w2 HWk.out.mem
        go_wp2_with fail
        refine hcall.mono ?_
        rintro e w3 ⟨b2, ws2, rfl, hb0, hbw, hbS, hM3, hG3, hnF, hFr⟩
        dsimp only
        have HOw3 := Aside0.mk (HOw.out.call HWk.out.mem hG3 hFr)
        have HWk3 := Aside0.mk (HWk.out.call hM3 hG3 hFr)
        have hlist := list_calls b2 ws2 _ hbS w3 hbw (HT0.out.below HWk3.out.mem.below)
        clear hcall hb0 hbw hbS hM3 hG3 hnF hFr HOw HWk hce hce2 hn0 hn1 hn2 hn3 hm0 hm1 hm2
        go_wp2_with fail
        refine hlist.mono ?_
        rintro e w4 ⟨v4, rfl, hR4, hB4⟩
        dsimp only
        obtain ⟨Q0, hQ0⟩ : ∃ Q0, Q0 = upto (meets l s m i) (s.size + 1) := ⟨_, rfl⟩
        rw [upto_big (n := s.size + 1) (fun y hy => by have := HFw.out i y HI.out hy; omega) (by have := HS.out; omega), ← hQ0] at hR4
        have HQ0 : Aside0 (Re.Queue (meets l s m) i (s.size + 1) Q0 0) := ⟨by rw [hQ0]; exact Queue.start fun y hy => by have := HFw.out i y HI.out hy; omega⟩
        have HQl : Aside0 (Q0.length ≤ 501) := ⟨by have := HQ0.out.len; have := HS.out; omega⟩
        obtain ⟨A4, c4, rfl, hl4, hC4⟩ := Kd.R_reads hR4
        rw [nats_len] at hR4 hl4 ⊢
        have HR4 := Aside0.mk hR4
        have HOw4 := Aside0.mk (HOw3.out.move HWk3.out.mem hB4)
        have HWk4 := Aside0.mk (HWk3.out.move hB4)
        replace HR4 := Aside0.mk (Kd.R_lower HR4.out HWk3.out.grown.size)
        clear hlist hQ0 hR4 hB4 hl4 hC4 HWk3 HOw3
        go_wp2_with fail
        go_loopg [61] Q0.length (fun g2 v61 wr2 => ∃ (p : Nat) (vs : Nat → Nat), v61 = .int .i64 p ∧ p ≤ Q0.length ∧ Q0.length - p ≤ g2 ∧ Aside0 (Work l s (some ad) c0 Bm Bf w0 w n i (w1.heap.size + 1) ⟨6, f1, f2, [(m : Int)]⟩ (some ad3) c3 wr2) ∧ Aside0 (Own Bf w w1.heap.size (fun y => y ∈ Q0.take p) vs wr2) ∧ Aside0 (Kd.R (Kd.int .i64) 3 wr2 w.heap.size (fun _ => True) (.slice A4 Q0.length c4) (nats Q0)))
        case atStart => exact ⟨0, _, rfl, by omega, by omega, HWk4, ⟨⟨HOw4.out.lo, HOw4.out.obj, HOw4.out.free, HOw4.out.set.congr fun y _ => by simp⟩⟩, HR4⟩
        case round =>
          clear HWk4 HOw4 HR4
          obtain ⟨p, vs, rfl, hp, hg2, HWk, HOw, HR4⟩ := hrel
          by_cases hpl : p < Q0.length
          · have hpl0 : (p : Int) < (Q0.length : Int) := by omega
            have HPl := Aside0.mk hpl
            obtain ⟨ad4, e4, hcp⟩ := row_get HR4.out p (by rw [nats_len]; exact hpl)
            subst e4
            rw [nats_get Q0 p hpl] at hcp
            obtain ⟨htk, hmem⟩ := take_next Q0 p hpl
            generalize Q0.getD p 0 = x at hcp htk hmem
            have hxl := HQ0.out.lt x hmem
            have hcall := add_calls w1.heap.size x (by have := HS.out; omega) _ _ HOw.out.set wr HOw.out.obj
            have HTk := Aside0.mk htk
            clear htk hmem hxl
            go_wp2_with fail
            refine hcall.mono ?_
            rintro e w' ⟨r, rfl, _, ws', hS', hw', hg', -⟩
            dsimp only
            have hF := HOw.out.free.same (hg'.block _ (map_lt HWk.out.mem) (fun e => map_ne HWk.out.mem HOw.out.obj (Option.some.inj e).symm))
            have HW' := Aside0.mk (HWk.out.set HOw.out hg')
            have HR' := Aside0.mk (row_grown2 HR4.out HOw.out.obj hg')
            have HO' : Aside0 (Own Bf w w1.heap.size (fun y => y ∈ Q0.take (p + 1)) ws' w') := ⟨⟨HOw.out.lo, hw', hF, hS'.congr fun y _ => by rw [HTk.out]; simp⟩⟩
            have hpi : (p : Int) + 1 ≤ 513 := by have := HPl.out; have := HQl.out; omega
            clear hS' hw' hg' hF hcp hcall
            go_wp2_with fail
            go_roundg (Q0.length - (p + 1))
            case measure => have := HPl.out; omega
            case rel => exact ⟨p + 1, _, by go_num, HPl.out, Nat.le_refl _, HW', HO', HR'⟩
          · obtain rfl : p = Q0.length := by omega
            have hpl0 : ¬ (Q0.length : Int) < (Q0.length : Int) := by omega
            have HOw5 : Aside0 (Own Bf w w1.heap.size (fun y => y ∈ Q0) vs wr) := ⟨⟨HOw.out.lo, HOw.out.obj, HOw.out.free, HOw.out.set.congr fun y _ => by rw [List.take_length]⟩⟩
            clear HOw
            go_wp2_with fail
            go_loopg [22, 25] 513 (fun gg v22 v25 wr => ∃ (i' : Nat) (Q : List Nat) (ws : Nat → Nat), v25 = .int .i64 i' ∧ 513 - i' ≤ gg ∧ i' ≤ Q.length ∧ Aside0 (Re.Queue (meets l s m) i (s.size + 1) Q i') ∧ Aside0 (Work l s (some ad) c0 Bm Bf w0 w n i (w1.heap.size + 1) ⟨6, f1, f2, [(m : Int)]⟩ (some ad3) c3 wr) ∧ Aside0 (Own Bf w w1.heap.size (fun y => y ∈ Q) ws wr) ∧ Aside0 (Kd.R (Kd.int .i64) 3 wr w.heap.size (fun _ => True) v22 (nats Q)))
            case atStart => exact ⟨0, Q0, vs, rfl, by omega, by omega, HQ0, HWk, HOw5, HR4⟩
            case round =>
              clear HWk HOw5 HR4 HQ0
              obtain ⟨i', Q, ws, rfl, hg, hi', HQ, HWk, HOw, HR⟩ := hrel
              obtain ⟨A5, c5, hv, _, _⟩ := Kd.R_reads HR.out
              rw [nats_len] at hv
              subst hv
              have HQ5 : Aside0 (Q.length ≤ 501) := ⟨by have := HQ.out.len; have := HS.out; omega⟩
              have hcl := HWk.out.loc
              have hn3 : wr.cell? ⟨w1.heap.size + 1, 3, none⟩ = some (.slice (some ad3) 1 c3) := by simp [World.cell?, hcl]
              have hn0 : wr.cell? ⟨w1.heap.size + 1, 0, none⟩ = some (.int .i64 6) := by simp [World.cell?, hcl]
              clear hcl
              by_cases hlt : i' < Q.length
              · have hlt0 : (i' : Int) < (Q.length : Int) := by omega
                have HLt := Aside0.mk hlt
                obtain ⟨ad5, e5, hcq⟩ := row_get HR.out i' (by rw [nats_len]; exact hlt)
                subst e5
                rw [nats_get Q i' hlt] at hcq
                have HStep := Aside0.mk (HQ.out.step hlt (fun q x hq hx => by have := HFw.out q x (by omega) hx; omega))
                have hmem := (take_next Q i' hlt).2
                generalize Q.getD i' 0 = x at hcq HStep hmem
                have HXs : Aside0 (x ≤ s.size) := ⟨by have := HQ.out.lt x hmem; omega⟩
                obtain ⟨ad3', cc, e0, _, hK, hcell⟩ := Kd.C_get (Kd.C_below HRK.out HWk.out.mem.below) (0 : Int) 0 (by omega) (by simp)
                obtain rfl : ad3 = ad3' := Option.some.inj e0
                have hK : cc = [.int .i64 (([(m : Int)] : List Int).getD ((0 : Int)).toNat 0)] := hK
                subst hK
                have hce := hcell 0 _ rfl
                replace hce : wr.cell? ad3 = some (.int .i64 m) := by simpa [Kd.int, Kd.scalar, Addr.add] using hce
                clear hcell e0 hmem
                go_upto_region 16 with fail
                refine wp_region_aside_at (v := .int .i64 0) 9 12 (by kernel_rfl) rfl (by kernel_rfl) (by kernel_rfl) (by kernel_rfl) (fun _ _ _ h => h) (Or.inl ⟨by rfl, fun w => ?_⟩) (by kernel_rfl) (by kernel_rfl) ?_
                · first | rfl | (go_simp; done)
                simp only [List.take_succ_cons, List.take_zero, List.drop_succ_cons, List.drop_zero]
                repeat still_step
                try refine wpStill_nil ?_
                change wpList _ _ _ _ _ wr.drew
                have hdr : Below wr.heap.size wr wr.drew := (Below.refl _ _).drew
                replace HOw := Aside0.mk (HOw.out.move HWk.out.mem hdr)
                replace HWk := Aside0.mk (HWk.out.move hdr)
                replace HR := Aside0.mk (Kd.R_below HR.out hdr)
                clear hdr hce hcq hn3 hn0
                generalize wr.drew = w6 at *
                have hcall := HIH.out m HMn.out x HXs.out w6 HWk.out.mem
                go_wp2_with fail
                refine hcall.mono ?_
                rintro e w7 ⟨b2, ws2, rfl, hb0, hbw, hbS, hM3, hG3, hnF, hFr⟩
                dsimp only
                replace HR := Aside0.mk (row_call HR.out HWk.out.mem hG3)
                replace HOw := Aside0.mk (HOw.out.call HWk.out.mem hG3 hFr)
                replace HWk := Aside0.mk (HWk.out.call hM3 hG3 hFr)
                have hlist := list_calls b2 ws2 _ hbS w7 hbw (HT0.out.below HWk.out.mem.below)
                clear hcall hb0 hbw hbS hM3 hG3 hnF hFr
                go_wp2_with fail
                refine hlist.mono ?_
                rintro e w8 ⟨v4, rfl, hR4, hB4⟩
                dsimp only
                obtain ⟨L, hL⟩ : ∃ L, L = upto (meets l s m x) (s.size + 1) := ⟨_, rfl⟩
                rw [upto_big (n := s.size + 1) (fun y hy => by have := HFw.out x y HXs.out hy; omega) (by have := HS.out; omega), ← hL] at hR4
                rw [← hL] at HStep
                have HLb : Aside0 (L.length ≤ 501 ∧ ∀ y, y ∈ L → y ≤ s.size) := ⟨by rw [hL]; have := upto_len (meets l s m x) (s.size + 1); have := HS.out; omega, fun y hy => by rw [hL] at hy; have := (mem_upto.mp hy).1; omega⟩
                obtain ⟨inner, hown⟩ := Kd.R_own HR.out
                have hR5 := Kd.R_mono (Kd.R_new hR4 hown) (fun k hk => hk.2)
                obtain ⟨A6, c6, rfl, hl6, hC6⟩ := Kd.R_reads hR4
                rw [nats_len L] at hR5 hl6 ⊢
                have HL5 := Aside0.mk hR5
                replace HR := Aside0.mk (Kd.R_below HR.out hB4)
                replace HOw := Aside0.mk (HOw.out.move HWk.out.mem hB4)
                replace HWk := Aside0.mk (HWk.out.move hB4)
                obtain ⟨bl, hbl⟩ : ∃ bl, bl = w7.heap.size := ⟨_, rfl⟩
                rw [← hbl] at HL5
                clear hlist hL hR4 hR5 hB4 hl6 hC6 hown hbl
                go_wp2_with fail
                go_loopg [22, 87] L.length (fun g2 v22 v87 wr2 => ∃ (p : Nat) (vs : Nat → Nat), v87 = .int .i64 p ∧ p ≤ L.length ∧ L.length - p ≤ g2 ∧ Aside0 (Work l s (some ad) c0 Bm Bf w0 w n i (w1.heap.size + 1) ⟨6, f1, f2, [(m : Int)]⟩ (some ad3) c3 wr2) ∧ Aside0 (Own Bf w w1.heap.size (fun y => y ∈ ext Q (L.take p)) vs wr2) ∧ Aside0 (Kd.R (Kd.int .i64) 3 wr2 w.heap.size (fun _ => True) v22 (nats (ext Q (L.take p)))) ∧ Aside0 (Kd.R (Kd.int .i64) 3 wr2 bl (fun k => some k ≠ v22.ownBlock) (.slice A6 L.length c6) (nats L)) ∧ Aside0 ((ext Q (L.take p)).length ≤ 501 + p))
                case atStart => exact ⟨0, ws, rfl, by omega, by omega, HWk, HOw, HR, HL5, HQ5⟩
                case round =>
                  clear HWk HOw HR HL5
                  obtain ⟨p, vs, rfl, hp, hg2, HWk, HOw, HR, HL5, HEl⟩ := hrel
                  by_cases hpl : p < L.length
                  · have hpl0 : (p : Int) < (L.length : Int) := by omega
                    have HPl := Aside0.mk hpl
                    obtain ⟨ad6, e6, hcp⟩ := row_get (row_true HL5.out) p (by rw [nats_len]; exact hpl)
                    subst e6
                    rw [nats_get L p hpl] at hcp
                    have hext := ext_take Q L p hpl
                    have hmem := (take_next L p hpl).2
                    generalize L.getD p 0 = z at hcp hext hmem
                    have hzl := HLb.out.2 z hmem
                    have hcall := add_calls w1.heap.size z (by have := HS.out; omega) _ _ HOw.out.set wr HOw.out.obj
                    have HExt := Aside0.mk hext
                    have hpi : (p : Int) + 1 ≤ 513 := by have := HLb.out.1; omega
                    clear hext hmem hzl
                    go_wp2_with fail
                    refine hcall.mono ?_
                    rintro e w' ⟨r, rfl, hr, ws', hS', hw', hg', -⟩
                    dsimp only
                    have hF := HOw.out.free.same (hg'.block _ (map_lt HWk.out.mem) (fun e => map_ne HWk.out.mem HOw.out.obj (Option.some.inj e).symm))
                    have HW' := Aside0.mk (HWk.out.set HOw.out hg')
                    have HR' := Aside0.mk (row_grown2 HR.out HOw.out.obj hg')
                    have HL' := Aside0.mk (row_grown2 HL5.out HOw.out.obj hg')
                    have HO' : Aside0 (Own Bf w w1.heap.size (fun y => y ∈ ext Q (L.take (p + 1))) ws' w') := ⟨⟨HOw.out.lo, hw', hF, hS'.congr fun y _ => by
                      rw [HExt.out]
                      split
                      · rename_i h
                        constructor
                        · rintro (h1 | h1)
                          · exact h1
                          · rw [h1]; exact h
                        · exact .inl
                      · simp⟩⟩
                    clear hS' hw' hg' hF hcp hcall HWk HOw HR HL5
                    cases r with
                    | false =>
                      have hin : z ∈ ext Q (L.take p) := Classical.byContradiction fun h => absurd (hr.mpr h) (by decide)
                      have HE : Aside0 (ext Q (L.take (p + 1)) = ext Q (L.take p)) := ⟨by rw [HExt.out, if_pos hin]⟩
                      clear hr hin
                      go_wp2_with fail
                      go_roundg (L.length - (p + 1))
                      case measure => have := HPl.out; omega
                      case rel => exact ⟨p + 1, _, by go_num, HPl.out, Nat.le_refl _, HW', HO', ⟨by rw [HE.out]; exact HR'.out⟩, HL', ⟨by rw [HE.out]; have := HEl.out; omega⟩⟩
                    | true =>
                      have hout := hr.mp rfl
                      have HE : Aside0 (ext Q (L.take (p + 1)) = ext Q (L.take p) ++ [z]) := ⟨by rw [HExt.out, if_neg hout]⟩
                      have HLN : Aside0 ((nats (ext Q (L.take p))).length < 17592186044415) := ⟨by rw [nats_len]; have := HEl.out; have := HPl.out; have := HLb.out.1; omega⟩
                      have HBsz : Aside0 (w.heap.size ≤ w'.heap.size) := ⟨HW'.out.grown.size⟩
                      clear hr hout
                      go_wp2_with (first | ((with_reducible refine gate_builtin (b := .append) (xs := #[.tmp 94, .tmp 96]) rfl ?_); at_builtin; refine Kd.R_append (Kd.int .i64) (w0 := w') w.heap.size rfl (.tmp 94) (.tmp 96) 31 3 (.int .i64 0) 8 rfl Tryd.underlying31 info3 rfl (by decide) (by omega) _ (nats (ext Q (L.take p))) (z : Int) [.int .i64 (z : Int)] (fun _ => True) (fun _ => False) rfl rfl ?aP (fun _ hk => hk.elim) (fun _ _ => trivial) ?aO ?aB ?aS ?aL ?_; (case aP => exact rfl); (case aO => exact HR'.out); (case aB => exact Below.refl _ _); (case aS => exact HBsz.out); (case aL => have := HLN.out; omega); intro v159 w24 ho hb hg hat; rw [← nats_snoc] at ho; have HO2 := Aside0.mk ho; have HG2 := Aside0.mk hg; have HA2 := Aside0.mk hat; clear ho hb hg hat))
                      have HWn := Aside0.mk (HW'.out.row HR'.out (Nat.le_refl _) HG2.out)
                      have HOn := Aside0.mk (HO'.out.row HW'.out.mem HR'.out HG2.out)
                      have HLn := Aside0.mk (row_row HL'.out HG2.out HA2.out)
                      go_wp2_with fail
                      go_roundg (L.length - (p + 1))
                      case measure => have := HPl.out; omega
                      case rel => exact ⟨p + 1, _, by go_num, HPl.out, Nat.le_refl _, HWn, HOn, ⟨by rw [HE.out]; exact HO2.out⟩, HLn, ⟨by rw [HE.out, List.length_append, List.length_singleton]; have := HEl.out; omega⟩⟩
                  · obtain rfl : p = L.length := by omega
                    have hpl0 : ¬ (L.length : Int) < (L.length : Int) := by omega
                    have HOn : Aside0 (Own Bf w w1.heap.size (fun y => y ∈ ext Q L) vs wr) := ⟨⟨HOw.out.lo, HOw.out.obj, HOw.out.free, HOw.out.set.congr fun y _ => by rw [List.take_length]⟩⟩
                    have HRn : Aside0 (Kd.R (Kd.int .i64) 3 wr w.heap.size (fun _ => True) u22 (nats (ext Q L))) := ⟨by have h := HR.out; rw [List.take_length] at h; exact h⟩
                    have HLe : Aside0 (i' + 1 ≤ (ext Q L).length) := ⟨by
                      obtain ⟨m', hm'⟩ := ext_head L Q
                      rw [hm', List.length_append]
                      have := HLt.out
                      omega⟩
                    have hii : (i' : Int) + 1 ≤ 513 := by have := HLt.out; have := HQ5.out; omega
                    clear HOw HR
                    go_wp2_with fail
                    go_roundg (513 - (i' + 1))
                    case measure => have := HLt.out; have := HQ5.out; omega
                    case rel => exact ⟨i' + 1, _, _, by go_num, Nat.le_refl _, HLe.out, HStep, HWk, HOn, HRn⟩
              · obtain rfl : i' = Q.length := by omega
                have hlt0 : ¬ (Q.length : Int) < (Q.length : Int) := by omega
                have HDone := Aside0.mk (fun y => HQ.out.done y)
                have HO5 : Aside0 (Own Bf w w1.heap.size (fun y => Plus (meets l s m) i y) ws wr) := ⟨⟨HOw.out.lo, HOw.out.obj, HOw.out.free, HOw.out.set.congr fun y _ => HDone.out y⟩⟩
                clear HOw
                have HO' : Aside0 (Own Bf w w1.heap.size (meets l s n i) ws wr) := ⟨⟨HO5.out.lo, HO5.out.obj, HO5.out.free, HO5.out.set.congr fun y _ => (HS2.out y).symm⟩⟩
                go_wp2_with fail
                go_meet
                exact ⟨_, ws, rfl, HWk, HO'⟩
    case rest =>
      obtain ⟨b, ws, rfl, HWc, HOc⟩ := hcut
      have hkc := HWc.out.key
      have hkc0 : wc.cell? ⟨w.heap.size, 0, none⟩ = some (.int .i64 n) := by simp [World.cell?, hkc]
      have hkc1 : wc.cell? ⟨w.heap.size, 1, none⟩ = some (.int .i64 i) := by simp [World.cell?, hkc]
      obtain ⟨hm0, hm1, hm2⟩ := HWc.out.mem.cell
      have hdr : Below wc.heap.size wc wc.drew := (Below.refl _ _).drew
      replace HOc : Aside0 (Own Bf w b (meets l s n i) ws wc.drew) := ⟨HOc.out.move HWc.out.mem hdr⟩
      replace HWc : Aside0 (Work l s (some ad) c0 Bm Bf w0 w n i (w1.heap.size + 1) x A3 c3 wc.drew) := ⟨HWc.out.move hdr⟩
      obtain ⟨o, hst, hM3, hG3, hZ3, hN3, hF3⟩ := HWc.out.mem.map.store (by have := HL.out; omega) (by have := HS.out; omega) HN.out HI.out (Nat.le_trans HWc.out.lo HOc.out.lo) HOc.out.obj HOc.out.set
      have hb3 := hG3.block b (Array.getElem?_eq_some_iff.mp HOc.out.obj).1 (fun e => map_ne HWc.out.mem HOc.out.obj (Option.some.inj e))
      have hbm3 := hG3.block Bm (Array.getElem?_eq_some_iff.mp HWc.out.mem.obj).1 (fun e => map_ne HWc.out.mem HWc.out.mem.obj (Option.some.inj e))
      unfold pkey at hst
      generalize setBlock wc.drew Bf o = w3 at hst hM3 hG3 hZ3 hN3 hF3 hb3 hbm3
      have HRes : Aside0 (w0.heap.size ≤ b ∧ w3.heap[b]? = some (wobj ws) ∧ IsSet ws (meets l s n i) ∧ Mem l s (some ad) c0 Bm Bf w0 w3 ∧ w.grownBy w3 (some Bf) ∧ ¬ Free Bf b w3 ∧ ∀ r, r < w.heap.size → Free Bf r w → Free Bf r w3) := ⟨⟨Nat.le_trans HWc.out.lo HOc.out.lo, hb3.trans HOc.out.obj, HOc.out.set, {
        below := HWc.out.mem.below.grown hG3 HWc.out.mem.below.size (fun k e => by rw [← Option.some.inj e]; exact HWc.out.mem.bf)
        bm := HWc.out.mem.bm
        bf := HWc.out.mem.bf
        obj := hbm3.trans HWc.out.mem.obj
        map := hM3 }, HWc.out.grown.trans hG3, hN3, fun r hr hf => hF3 r (by have := HOc.out.lo; omega) (HWc.out.free r hr hf)⟩⟩
      clear hM3 hG3 hZ3 hN3 hF3 hb3 hbm3 hkc hdr hk0 hk1 hc0 hc1 hc2 hx0 hx1 hx2 hx3 hlook
      go_wp2_with fail
      go_region
      go_wp2_with fail
      go_ret
      exact ⟨b, ws, rfl, HRes.out.1, HRes.out.2.1, HRes.out.2.2.1, HRes.out.2.2.2.1, HRes.out.2.2.2.2.1, HRes.out.2.2.2.2.2.1, HRes.out.2.2.2.2.2.2⟩
  · have HF : Aside0 (w0.heap.size ≤ b ∧ w1.heap[b]? = some (wobj ws) ∧ IsSet ws (meets l s n i) ∧ ¬ Free Bf b w1) := ⟨⟨hb0, hbw, hbS, hbF⟩⟩
    clear hb0 hbw hbS hbF
    go_quiet (fail)
    go_wp2_with fail
    go_ret
    exact ⟨b, ws, rfl, HF.out.1, HF.out.2.1, HF.out.2.2.1, HM1.out.move ⟨rfl, rfl, rfl, Nat.le_refl _, fun _ _ => rfl⟩, ⟨HG1.out.os, HG1.out.tape, HG1.out.output, HG1.out.size, HG1.out.block⟩, HF.out.2.2.2, HF1.out⟩
end Go.Proofs.YtlakdfbfkbndiaaDoor.Q
namespace Go.Proofs.YtlakdfbfkbndiaaDoor.Q
open Go.RowKit Go.Proofs.YtlakdfbfkbndiaaDoor.Re Go.Proofs.YtlakdfbfkbndiaaDoorW.PrintWords Go.Proofs.YtlakdfbfkbndiaaDoorW.PrintLast Go.Proofs.YtlakdfbfkbndiaaDoorW.PrintMore
noncomputable def endsL (l : List S49) (s : ByteArray) (i : Nat) : List Nat := upto (meets l s (l.length - 1) i) (s.size + 1)
noncomputable def findV (l : List S49) (s : ByteArray) : Nat → Nat → Int × Int
  | 0, _ => (-1, 0)
  | d + 1, i => if (endsL l s i).length = 0 then findV l s d (i + 1) else ((i : Int), (((endsL l s i).getD ((endsL l s i).length - 1) 0 : Nat) : Int))
end Go.Proofs.YtlakdfbfkbndiaaDoor.Q
namespace Go.Proofs.YtlakdfbfkbndiaaDoor.Q
open Go.RowKit Go.Proofs.YtlakdfbfkbndiaaDoor.Re Go.Proofs.YtlakdfbfkbndiaaDoorW.PrintWords Go.Proofs.YtlakdfbfkbndiaaDoorW.PrintLast Go.Proofs.YtlakdfbfkbndiaaDoorW.PrintMore
section
variable {l : List S49} {s : ByteArray} {A0 : Option Addr} {c0 Bm Bf : Nat} {w0 : World}
theorem ends_calls (hB : Base l s A0 c0 w0) (n : Nat) : n < l.length → EndsAt l s A0 c0 Bm Bf w0 n := by
  induction n using Nat.strongRecOn with
  | _ n ih => exact fun hn => ends_step hB n hn fun m hm => ih m hm (by omega)
set_option maxRecDepth 100000 in
theorem at_calls (hB : Base l s A0 c0 w0) (i : Nat) (hi : i ≤ s.size) (w : World) (hM : Mem l s A0 c0 Bm Bf w0 w) :
    Calls Tryd.prog 45 #[.pointer (some ⟨Bm, 0, none⟩), .int .i64 i] w fun e w' => ∃ v, e = .returned v ∧ Kd.R (Kd.int .i64) 3 w' w.heap.size (fun _ => True) v (nats (endsL l s i)) ∧ Mem l s A0 c0 Bm Bf w0 w' ∧ w.grownBy w' (some Bf) := by
  have hcall := ends_calls (Bm := Bm) (Bf := Bf) hB (l.length - 1) (by have := hB.ok.pos; omega) i hi w hM
  have e1 : ((l.length - 1 : Nat) : Int) = (l.length : Int) - 1 := by have := hB.ok.pos; omega
  rw [e1] at hcall
  have h1 : (1 : Int) ≤ (l.length : Int) := by have := hB.ok.pos; omega
  have h2 : (l.length : Int) ≤ 200 := by have := hB.ok.len; omega
  obtain ⟨hm0, hm1, hm2⟩ := hM.cell
  have HB := Aside0.mk hB
  have HI := Aside0.mk hi
  clear hB hM hi e1
  go_enter Tryd.func45, Tryd.ntmps45
  go_wp2_with fail
  refine hcall.mono ?_
  rintro e w3 ⟨b2, ws2, rfl, hb0, hbw, hbS, hM3, hG3, hnF, hFr⟩
  dsimp only
  have hlist := list_calls b2 ws2 _ hbS w3 hbw (HB.out.tabs.below hM3.below)
  have HM3 := Aside0.mk hM3
  have HG3 := Aside0.mk hG3
  clear hcall hb0 hbw hbS hM3 hG3 hnF hFr
  go_wp2_with fail
  refine hlist.mono ?_
  rintro e w4 ⟨v4, rfl, hR4, hB4⟩
  dsimp only
  rw [upto_big (n := s.size + 1) (fun y hy => by have := meets_fwd HB.out.ok s (l.length - 1) (by have := HB.out.ok.pos; omega) i y HI.out hy; omega) (by have := HB.out.sz; omega)] at hR4
  have HR := Aside0.mk hR4
  have HM4 := Aside0.mk (HM3.out.move hB4)
  have HG4 : Aside0 (w.grownBy w4 (some Bf)) := ⟨HG3.out.trans ⟨hB4.os, hB4.tape, hB4.output, hB4.size, fun k hk _ => hB4.block k hk⟩⟩
  clear hlist hR4 hB4
  go_wp2_with fail
  go_ret
  exact ⟨v4, rfl, Kd.R_lower HR.out HG3.out.size, HM4.out, HG4.out⟩
end
end Go.Proofs.YtlakdfbfkbndiaaDoor.Q
namespace Go.Proofs.YtlakdfbfkbndiaaDoor.Q
open Go.RowKit Go.Proofs.YtlakdfbfkbndiaaDoor.Re Go.Proofs.YtlakdfbfkbndiaaDoorW.PrintWords Go.Proofs.YtlakdfbfkbndiaaDoorW.PrintLast Go.Proofs.YtlakdfbfkbndiaaDoorW.PrintMore
theorem MapOk.empty {D : Nat → Nat → Nat → Prop} {N L B0 Bf : Nat} {w : World} (h : w.heap[Bf]? = some (.map #[] 0)) : MapOk D N L B0 Bf w :=
  ⟨#[], 0, h, by simp, fun e he => by simp at he⟩
theorem heap_last (w : World) (o : Obj) : (w.alloc o).heap[w.heap.size]? = some o := by
  show (w.heap.push o)[w.heap.size]? = some o
  simp
set_option maxRecDepth 100000 in
theorem new_calls (l : List S49) (s : ByteArray) (A0 : Option Addr) (c0 : Nat) (w : World) (k : Nat) (b : Bool) (hr : Kd.C k49 w A0 l.length l) (hc : l.length ≤ c0) (hok : impl_ReOk.f k l = some b) :
    Calls Tryd.prog 41 #[.slice A0 l.length c0, .string s] w fun e w' =>
      Below w.heap.size w w' ∧ ((b = true ∧ s.size ≤ 500 ∧ ∃ Bm Bf, e = .returned (.pointer (some ⟨Bm, 0, none⟩)) ∧ Mem l s A0 c0 Bm Bf w w') ∨ (¬ (b = true ∧ s.size ≤ 500) ∧ e = .returned (.pointer none))) := by
  have hcall := impl_ReOk.calls k A0 c0 l b w hr hc hok
  have hmm := @run_makeMap Tryd.prog
  have HD := Aside0.mk (Below.refl w.heap.size w)
  cases b with
  | false =>
    go_enter Tryd.func41, Tryd.ntmps41
    go_wp2_with fail
    refine hcall.mono ?_
    rintro e w1 ⟨rfl, hb⟩
    dsimp only
    have HB := Aside0.mk hb
    clear hcall hb
    go_wp2_with fail
    go_ret
    exact ⟨HB.out, .inr ⟨by simp, rfl⟩⟩
  | true =>
    by_cases hs : s.size ≤ 500
    · have hs0 : ((500 : Int) < (s.size : Int)) = False := eq_false (by omega)
      go_enter Tryd.func41, Tryd.ntmps41
      go_wp2_with fail
      refine hcall.mono ?_
      rintro e w1 ⟨rfl, hb⟩
      dsimp only
      have HB := Aside0.mk hb
      clear hcall hb
      go_wp2_with fail
      go_ret
      have h1 : ((w1.alloc (.map #[] 0)).alloc (.cells #[.slice A0 l.length c0, .string s, .map (some w1.heap.size)] 90)).heap[w1.heap.size]? = some (.map #[] 0) := (Below.heap_alloc _ _ _ (by simp)).trans (heap_last w1 _)
      have h2 : ((w1.alloc (.map #[] 0)).alloc (.cells #[.slice A0 l.length c0, .string s, .map (some w1.heap.size)] 90)).heap[w1.heap.size + 1]? = some (.cells #[.slice A0 l.length c0, .string s, .map (some w1.heap.size)] 90 (0, 0)) := by
        have := heap_last (w1.alloc (.map #[] 0)) (.cells #[.slice A0 l.length c0, .string s, .map (some w1.heap.size)] 90)
        rwa [World.size_alloc] at this
      have hB2 := below_alloc (below_alloc HB.out (.map #[] 0)) (.cells #[.slice A0 l.length c0, .string s, .map (some w1.heap.size)] 90)
      exact ⟨hB2, .inl ⟨trivial, hs, w1.heap.size + 1, w1.heap.size, rfl, ⟨hB2, by have := HB.out.size; omega, HB.out.size, h2, MapOk.empty h1⟩⟩⟩
    · have hs0 : ((500 : Int) < (s.size : Int)) = True := eq_true (by omega)
      go_enter Tryd.func41, Tryd.ntmps41
      go_wp2_with fail
      refine hcall.mono ?_
      rintro e w1 ⟨rfl, hb⟩
      dsimp only
      have HB := Aside0.mk hb
      clear hcall hb
      go_wp2_with fail
      go_ret
      exact ⟨HB.out, .inr ⟨fun h => hs h.2, rfl⟩⟩
end Go.Proofs.YtlakdfbfkbndiaaDoor.Q
namespace Go.Proofs.YtlakdfbfkbndiaaDoor.Q
open Go.RowKit Go.Proofs.YtlakdfbfkbndiaaDoor.Re Go.Proofs.YtlakdfbfkbndiaaDoorW.PrintWords Go.Proofs.YtlakdfbfkbndiaaDoorW.PrintLast Go.Proofs.YtlakdfbfkbndiaaDoorW.PrintMore
section
variable {l : List S49} {s : ByteArray} {A0 : Option Addr} {c0 Bm Bf : Nat} {w0 : World}
theorem endsL_len (hB : Base l s A0 c0 w0) (i : Nat) : (endsL l s i).length ≤ 501 := by
  have := upto_len (meets l s (l.length - 1) i) (s.size + 1)
  have := hB.sz
  unfold endsL
  omega
set_option maxRecDepth 100000 in
theorem find_calls (hB : Base l s A0 c0 w0) (i : Nat) (hi : i ≤ s.size + 1) (w : World) (hM : Mem l s A0 c0 Bm Bf w0 w) :
    Calls Tryd.prog 42 #[.pointer (some ⟨Bm, 0, none⟩), .int .i64 i] w fun e w' =>
      e = .returned (.tuple #[.int .i64 (findV l s (s.size + 1 - i) i).1, .int .i64 (findV l s (s.size + 1 - i) i).2]) ∧ Mem l s A0 c0 Bm Bf w0 w' ∧ w.grownBy w' (some Bf) := by
  have HB := Aside0.mk hB
  have HM := Aside0.mk hM
  have HI := Aside0.mk hi
  have HG := Aside0.mk (World.grownBy.refl w (some Bf))
  clear hB hM hi
  go_enter Tryd.func42, Tryd.ntmps42
  go_wp2_with fail
  go_loopg [6] (s.size + 2) (fun g v6 wr => ∃ (j : Nat), v6 = .int .i64 j ∧ s.size + 2 - j ≤ g ∧ j ≤ s.size + 1 ∧ findV l s (s.size + 1 - i) i = findV l s (s.size + 1 - j) j ∧ Aside0 (Mem l s A0 c0 Bm Bf w0 wr) ∧ Aside0 (w.grownBy wr (some Bf)))
  case atStart => exact ⟨i, rfl, by omega, HI.out, rfl, HM, HG⟩
  case round =>
    clear HM HG
    obtain ⟨j, rfl, hg, hj, hv, HM, HG⟩ := hrel
    obtain ⟨hm0, hm1, hm2⟩ := HM.out.cell
    clear hm0 hm2
    have HV := Aside0.mk hv
    clear hv
    by_cases hlt : j ≤ s.size
    · have hlt0 : ((j : Int) ≤ (s.size : Int)) = True := eq_true (by omega)
      have hcall := at_calls HB.out j hlt wr HM.out
      have HLt := Aside0.mk hlt
      have hcap := endsL_len HB.out j
      clear hlt
      go_wp2_with fail
      refine hcall.mono ?_
      rintro e w4 ⟨v4, rfl, hR4, hM4, hG4⟩
      dsimp only
      obtain ⟨A4, c4, rfl, hl4, hC4⟩ := Kd.R_reads hR4
      rw [nats_len] at hR4 hl4 ⊢
      have HR4 := Aside0.mk hR4
      have HM4 := Aside0.mk hM4
      have HG4 := Aside0.mk (HG.out.trans hG4)
      clear hcall hR4 hM4 hG4 hl4 hC4 HM HG
      by_cases hn : (endsL l s j).length = 0
      · have hn0 : ((0 : Int) < ((endsL l s j).length : Int)) = False := eq_false (by omega)
        have hv2 : findV l s (s.size + 1 - j) j = findV l s (s.size + 1 - (j + 1)) (j + 1) := by
          rw [show s.size + 1 - j = (s.size + 1 - (j + 1)) + 1 by have := HLt.out; omega]
          simp only [findV]
          rw [if_pos hn]
        have hji : (j : Int) + 1 ≤ 502 := by have := HB.out.sz; have := HLt.out; omega
        have HV2 := Aside0.mk (HV.out.trans hv2)
        clear HV hv2
        go_wp2_with fail
        go_roundg (s.size + 2 - (j + 1))
        case measure => have := HLt.out; omega
        case rel => exact ⟨j + 1, by go_num, Nat.le_refl _, by have := HLt.out; omega, HV2.out, HM4, HG4⟩
      · have hn0 : ((0 : Int) < ((endsL l s j).length : Int)) = True := eq_true (by omega)
        obtain ⟨n, hnn⟩ : ∃ n, (endsL l s j).length = n + 1 := ⟨(endsL l s j).length - 1, by omega⟩
        have hv2 : findV l s (s.size + 1 - j) j = ((j : Int), (((endsL l s j).getD n 0 : Nat) : Int)) := by
          rw [show s.size + 1 - j = (s.size + 1 - (j + 1)) + 1 by have := HLt.out; omega]
          simp only [findV]
          rw [if_neg hn, hnn]; rfl
        obtain ⟨ad4, e4, hcp⟩ := row_get HR4.out n (by rw [nats_len]; omega)
        subst e4
        rw [nats_get _ n (by omega)] at hcp
        obtain ⟨x, hx⟩ : ∃ x, (endsL l s j).getD n 0 = x := ⟨_, rfl⟩
        rw [hx] at hcp hv2
        clear hx
        have h1 : ((endsL l s j).length : Int) - 1 = (n : Int) := by omega
        have h2 : (0 : Int) ≤ (n : Int) := by omega
        have h3 : ((n : Int) < ((endsL l s j).length : Int)) := by omega
        have HV2 := Aside0.mk (HV.out.trans hv2)
        clear HV hv2
        go_wp2_with fail
        go_region
        go_wp2_with fail
        go_ret2
        rw [HV2.out]
        have hdr : Below w4.heap.size w4 w4.drew := (Below.refl _ _).drew
        exact ⟨rfl, HM4.out.move hdr, HG4.out.trans ⟨hdr.os, hdr.tape, hdr.output, hdr.size, fun k hk _ => hdr.block k hk⟩⟩
    · have hlt0 : ((j : Int) ≤ (s.size : Int)) = False := eq_false (by omega)
      have hv2 : findV l s (s.size + 1 - j) j = (-1, 0) := by
        rw [show s.size + 1 - j = 0 by omega]; rfl
      have HV2 := Aside0.mk (HV.out.trans hv2)
      clear HV hv2
      go_wp2_with fail
      go_ret2
      rw [HV2.out]
      exact ⟨rfl, HM.out, HG.out⟩
end
end Go.Proofs.YtlakdfbfkbndiaaDoor.Q
namespace Go.Proofs.YtlakdfbfkbndiaaDoor.Q
open Go.RowKit Go.Proofs.YtlakdfbfkbndiaaDoor.Re Go.Proofs.YtlakdfbfkbndiaaDoorW.PrintWords Go.Proofs.YtlakdfbfkbndiaaDoorW.PrintLast Go.Proofs.YtlakdfbfkbndiaaDoorW.PrintMore
def kPair : Kd (Int × Int) := Kd.pair (Kd.int .i64) (Kd.int .i64)
theorem findV_spec (l : List S49) (s : ByteArray) (hV : Valid l) : ∀ (d i : Nat), i + d = s.size + 1 → (findV l s d i = (-1, 0)) ∨ ∃ j x : Nat, findV l s d i = ((j : Int), (x : Int)) ∧ i ≤ j ∧ j ≤ x ∧ x ≤ s.size
  | 0, i, _ => .inl rfl
  | d + 1, i, h => by
    simp only [findV]
    by_cases hn : (endsL l s i).length = 0
    · rw [if_pos hn]
      rcases findV_spec l s hV d (i + 1) (by omega) with h1 | ⟨j, x, h1, h2, h3, h4⟩
      · exact .inl h1
      · exact .inr ⟨j, x, h1, by omega, h3, h4⟩
    · rw [if_neg hn]
      refine .inr ⟨i, (endsL l s i).getD ((endsL l s i).length - 1) 0, rfl, Nat.le_refl _, ?_⟩
      have hm : (endsL l s i).getD ((endsL l s i).length - 1) 0 ∈ endsL l s i := by
        rw [List.getD_eq_getElem?_getD, List.getElem?_eq_getElem (by omega)]
        exact List.getElem_mem _
      have := (mem_upto.mp hm).2
      exact meets_fwd hV s (l.length - 1) (by have := hV.pos; omega) i _ (by omega) this
end Go.Proofs.YtlakdfbfkbndiaaDoor.Q
namespace Go.Proofs.YtlakdfbfkbndiaaDoor.Q
open Go.RowKit Go.Proofs.YtlakdfbfkbndiaaDoor.Re Go.Proofs.YtlakdfbfkbndiaaDoorW.PrintWords Go.Proofs.YtlakdfbfkbndiaaDoorW.PrintLast Go.Proofs.YtlakdfbfkbndiaaDoorW.PrintMore
section
variable {l : List S49} {s : ByteArray} {A0 : Option Addr} {c0 Bm Bf : Nat} {w0 w wr w1 : World} {base : Nat} {v : Value} {xs : List (Int × Int)}
theorem pair_ne {k : Nat} {ok : Nat → Prop} {o : Obj} (h : Kd.R kPair 72 wr base ok v xs) (hb : wr.heap[k]? = some o) (ho : ∀ c, o ≠ .cells c 72 (0, 0)) : some k ≠ v.ownBlock := fun e => by
  obtain ⟨c, hc⟩ := Kd.R_typed h k e.symm
  rw [hb] at hc
  exact ho c (Option.some.inj hc)
theorem Mem.pairs (h : Mem l s A0 c0 Bm Bf w0 wr) (hR : Kd.R kPair 72 wr base (fun _ => True) v xs) (hbase : w0.heap.size ≤ base) (hg : wr.grownBy w1 v.ownBlock) : Mem l s A0 c0 Bm Bf w0 w1 := by
  have keep : ∀ {k : Nat} {o : Obj}, wr.heap[k]? = some o → (∀ c, o ≠ .cells c 72 (0, 0)) → w1.heap[k]? = some o := fun {k o} hb ho => (hg.block k (Array.getElem?_eq_some_iff.mp hb).1 (pair_ne hR hb ho)).trans hb
  have hlo : ∀ k, v.ownBlock = some k → w0.heap.size ≤ k := fun k hk => Nat.le_trans hbase (Kd.R_base hR k hk)
  exact {
    below := h.below.grown hg h.below.size (fun k hk => hlo k hk)
    bm := h.bm
    bf := h.bf
    obj := keep h.obj (by simp)
    map := by
      obtain ⟨es, clock, hb, hd, he⟩ := h.map
      refine ⟨es, clock, keep hb (by simp), hd, fun e hm => ?_⟩
      obtain ⟨n', i', b', ws', g1, g2, g3, g4, g5, g6, g7⟩ := he e hm
      exact ⟨n', i', b', ws', g1, g2, g3, g4, g5, keep g6 (by simp [wobj]), g7⟩ }
end
end Go.Proofs.YtlakdfbfkbndiaaDoor.Q
namespace Go.Proofs.YtlakdfbfkbndiaaDoor.Q
open Go.RowKit Go.Proofs.YtlakdfbfkbndiaaDoor.Re Go.Proofs.YtlakdfbfkbndiaaDoorW.PrintWords Go.Proofs.YtlakdfbfkbndiaaDoorW.PrintLast Go.Proofs.YtlakdfbfkbndiaaDoorW.PrintMore
def okV (l : List S49) : Prop := ∃ k, impl_ReOk.f k l = some true
def sureL (l : List S49) : Prop := (∃ k b, impl_ReOk.f k l = some b) ∧ (okV l → Valid l)
theorem leO_le {α : Type} {f : Nat → Option α} (h : ∀ k, LeO (f k) (f (k + 1))) {k m : Nat} (hk : k ≤ m) {r : α} (hr : f k = some r) : f m = some r := by
  induction hk with
  | refl => exact hr
  | step _ ih => exact h _ _ ih
theorem ok_one {l : List S49} {k : Nat} {b : Bool} (h : impl_ReOk.f k l = some b) : (b = true ↔ okV l) := by
  constructor
  · rintro rfl; exact ⟨k, h⟩
  · rintro ⟨m, hm⟩
    have h1 := leO_le (f := fun k => impl_ReOk.f k l) (fun k => impl_ReOk.mono l k) (Nat.le_max_left k m) h
    have h2 := leO_le (f := fun k => impl_ReOk.f k l) (fun k => impl_ReOk.mono l k) (Nat.le_max_right k m) hm
    exact Option.some.inj (h1.symm.trans h2)
theorem new_any (l : List S49) (s : ByteArray) (A0 : Option Addr) (c0 : Nat) (w : World) (hS : sureL l) (hr : Kd.C k49 w A0 l.length l) (hc : l.length ≤ c0) :
    Calls Tryd.prog 41 #[.slice A0 l.length c0, .string s] w fun e w' =>
      Below w.heap.size w w' ∧ (((okV l ∧ s.size ≤ 500) ∧ ∃ Bm Bf, e = .returned (.pointer (some ⟨Bm, 0, none⟩)) ∧ Mem l s A0 c0 Bm Bf w w') ∨ (¬ (okV l ∧ s.size ≤ 500) ∧ e = .returned (.pointer none))) := by
  obtain ⟨⟨k, b, hk⟩, _⟩ := hS
  refine (new_calls l s A0 c0 w k b hr hc hk).mono ?_
  rintro e w' ⟨hb, h⟩
  refine ⟨hb, ?_⟩
  rcases h with ⟨h1, h2, h3⟩ | ⟨h1, h2⟩
  · exact .inl ⟨⟨(ok_one hk).mp h1, h2⟩, h3⟩
  · exact .inr ⟨fun g => h1 ⟨(ok_one hk).mpr g.1, g.2⟩, h2⟩
noncomputable def findR (l : List S49) (s : ByteArray) : Int × Int :=
  if (findV l s (s.size + 1) 0).1 < 0 then (-1, 0) else ((findV l s (s.size + 1) 0).1, (findV l s (s.size + 1) 0).2 - (findV l s (s.size + 1) 0).1)
open Classical in
noncomputable def impl_ReFind.f (l : List S49) (s : ByteArray) : Option (Int × Int) :=
  if sureL l then (if okV l ∧ s.size ≤ 500 then some (findR l s) else some (-1, 0)) else none
open Classical in
noncomputable def impl_ReTest.f (l : List S49) (s : ByteArray) : Option Bool := (impl_ReFind.f l s).map fun r => decide (0 ≤ r.1)
set_option maxRecDepth 100000 in
theorem impl_ReFind.calls (A0 : Option Addr) (c0 : Nat) (l0 : List S49) (a1 : ByteArray) (r1 r2 : Int) (w : World) (hr0 : Kd.C k49 w A0 l0.length l0) (hc0 : l0.length ≤ c0) (h : impl_ReFind.f l0 a1 = some (r1, r2)) (hT : Tabs w := by first | assumption | (refine Aside0.out (p := Tabs _) ?_; assumption) | (refine Tabs.below (w := ?ww) (Aside0.out ?ha) ?hb; (case ha => assumption); (case hb => repeat (first | (with_reducible first | exact Below.refl _ _ | (refine Aside0.out ?_; assumption) | apply below_alloc | apply pw_below_drewN | apply below_drew1 | (refine below_set ?_ (Aside0.out ?_); (rotate_left; assumption))) | (refine Aside0.out ?_; assumption)))) | (refine Tabs.drewN (w := ?ww) (Aside0.out ?ha) _; (case ha => assumption))) :
    Calls Tryd.prog 14 #[.slice A0 l0.length c0, .string a1] w fun e w' => e = .returned (.tuple #[.int .i64 r1, .int .i64 r2]) ∧ Below w.heap.size w w' := by
  unfold impl_ReFind.f at h
  by_cases hS : sureL l0
  · rw [if_pos hS] at h
    have hcall := new_any l0 a1 A0 c0 w hS hr0 hc0
    by_cases hok : okV l0 ∧ a1.size ≤ 500
    · rw [if_pos hok] at h
      have hBase : Base l0 a1 A0 c0 w := ⟨hS.2 hok.1, hok.2, hr0, hc0, hT⟩
      have HBase := Aside0.mk hBase
      have HOk := Aside0.mk hok
      have hsp := findV_spec l0 a1 hBase.ok (a1.size + 1) 0 (by omega)
      unfold findR at h
      generalize hf : findV l0 a1 (a1.size + 1) 0 = r at h hsp
      have HF := Aside0.mk hf
      clear hf hok hS hT hr0 hc0 hBase
      rcases hsp with e | ⟨j, x, e, e1, e2, e3⟩
      · subst e
        rw [if_pos (by decide)] at h
        cases h
        go_enter Tryd.func14, Tryd.ntmps14
        go_wp2_with fail
        refine hcall.mono ?_
        rintro e w1 ⟨hb, (⟨_, Bm, Bf, rfl, hM⟩ | ⟨hn, _⟩)⟩
        · dsimp only
          have hfind := find_calls HBase.out 0 (by omega) w1 hM
          rw [Nat.sub_zero, HF.out] at hfind
          clear hcall hM hb
          go_wp2_with fail
          refine hfind.mono ?_
          rintro e w4 ⟨rfl, hM4, hG4⟩
          dsimp only
          have HM4 := Aside0.mk hM4
          clear hfind hM4 hG4
          go_wp2_with fail
          go_ret2
          exact ⟨rfl, HM4.out.below⟩
        · exact absurd HOk.out hn
      · subst e
        rw [if_neg (by dsimp only; omega)] at h
        cases h
        have hj0 : ((j : Int) < 0) = False := eq_false (by omega)
        have hw : (0 : Int) ≤ (x : Int) - (j : Int) ∧ (x : Int) - (j : Int) ≤ 500 := by have := HOk.out.2; omega
        obtain ⟨d, hd⟩ : ∃ d : Nat, (x : Int) - (j : Int) = (d : Int) := ⟨x - j, by omega⟩
        rw [hd] at hw
        have hd500 : (d : Int) ≤ 500 := hw.2
        clear hw e1 e2 e3
        go_enter Tryd.func14, Tryd.ntmps14
        go_wp2_with fail
        refine hcall.mono ?_
        rintro e w1 ⟨hb, (⟨_, Bm, Bf, rfl, hM⟩ | ⟨hn, _⟩)⟩
        · dsimp only
          have hfind := find_calls HBase.out 0 (by omega) w1 hM
          rw [Nat.sub_zero, HF.out] at hfind
          clear hcall hM hb
          go_wp2_with fail
          refine hfind.mono ?_
          rintro e w4 ⟨rfl, hM4, hG4⟩
          dsimp only
          have HM4 := Aside0.mk hM4
          clear hfind hM4 hG4
          go_wp2_with fail
          go_ret2
          exact ⟨by first | rfl | (rw [hd]; rfl), HM4.out.below⟩
        · exact absurd HOk.out hn
    · rw [if_neg hok] at h
      cases h
      have HOk := Aside0.mk hok
      clear hok hS hT hr0 hc0
      go_enter Tryd.func14, Tryd.ntmps14
      go_wp2_with fail
      refine hcall.mono ?_
      rintro e w1 ⟨hb, (⟨hn, _⟩ | ⟨_, rfl⟩)⟩
      · exact absurd hn HOk.out
      · dsimp only
        have HB := Aside0.mk hb
        clear hcall hb
        go_wp2_with fail
        go_ret2
        exact ⟨rfl, HB.out⟩
  · rw [if_neg hS] at h; cases h
set_option maxRecDepth 100000 in
theorem impl_ReTest.calls (A0 : Option Addr) (c0 : Nat) (l0 : List S49) (a1 : ByteArray) (r : Bool) (w : World) (hr0 : Kd.C k49 w A0 l0.length l0) (hc0 : l0.length ≤ c0) (h : impl_ReTest.f l0 a1 = some r) (hT : Tabs w := by first | assumption | (refine Aside0.out (p := Tabs _) ?_; assumption) | (refine Tabs.below (w := ?ww) (Aside0.out ?ha) ?hb; (case ha => assumption); (case hb => repeat (first | (with_reducible first | exact Below.refl _ _ | (refine Aside0.out ?_; assumption) | apply below_alloc | apply pw_below_drewN | apply below_drew1 | (refine below_set ?_ (Aside0.out ?_); (rotate_left; assumption))) | (refine Aside0.out ?_; assumption)))) | (refine Tabs.drewN (w := ?ww) (Aside0.out ?ha) _; (case ha => assumption))) :
    Calls Tryd.prog 17 #[.slice A0 l0.length c0, .string a1] w fun e w' => e = .returned (.bool r) ∧ Below w.heap.size w w' := by
  unfold impl_ReTest.f at h
  obtain ⟨⟨r1, r2⟩, hf, rfl⟩ := Option.map_eq_some_iff.mp h
  have hcall := impl_ReFind.calls A0 c0 l0 a1 r1 r2 w hr0 hc0 hf hT
  clear h hf hT hr0 hc0
  go_enter Tryd.func17, Tryd.ntmps17
  go_wp2_with fail
  refine hcall.mono ?_
  rintro e w1 ⟨rfl, hb⟩
  dsimp only
  have HB := Aside0.mk hb
  clear hcall hb
  go_wp2_with fail
  go_ret
  exact ⟨rfl, HB.out⟩
def InOrder (n : Nat) : Nat → List (Int × Int) → Prop
  | _, [] => True
  | i, x :: r => ∃ j y : Nat, x = ((j : Int), (y : Int)) ∧ i ≤ j ∧ j ≤ y ∧ y ≤ n ∧ InOrder n y r
theorem InOrder.mono {n : Nat} {i k : Nat} (hk : k ≤ i) : ∀ {L : List (Int × Int)}, InOrder n i L → InOrder n k L
  | [], _ => trivial
  | _ :: _, ⟨j, y, e, h1, h2⟩ => ⟨j, y, e, by omega, h2⟩
end Go.Proofs.YtlakdfbfkbndiaaDoor.Q
namespace Go.Proofs.YtlakdfbfkbndiaaDoor.Q
open Go.RowKit Go.Proofs.YtlakdfbfkbndiaaDoorW.PrintWords Go.Proofs.YtlakdfbfkbndiaaDoorW.PrintLast Go.Proofs.YtlakdfbfkbndiaaDoorW.PrintMore
attribute [local go_sem] max2_int min2_int max_two min_two max_three min_three max_four min_four   -- for this text's walks alone
set_option linter.unusedVariables false
set_option linter.unusedSimpArgs false
def laws_eqReNodeS.l0 : Nat → List (S49) → List (S49) → Int → Option (Bool)
 | 0,_,_,_=>none
 | k + 1,x0,x1,x5=>if x5 < (x0.length : Int) then (if 0 ≤ x5 then (if x5 < (x1.length : Int) then ((laws_eqReNode.f k ((rd_T49 x0 x5).f0) ((rd_T49 x0 x5).f1) ((rd_T49 x0 x5).f2) ((rd_T49 x0 x5).f3) ((rd_T49 x1 x5).f0) ((rd_T49 x1 x5).f1) ((rd_T49 x1 x5).f2) ((rd_T49 x1 x5).f3)).bind fun t210=>(if t210 = true then (laws_eqReNodeS.l0 k x0 x1 (wrap64 (x5 + 1))) else (some false))) else (none)) else (none)) else (some true)
def laws_eqReNodeS.f (k : Nat) (l0 : List (S49)) (l1 : List (S49)) : Option (Bool):=if (l0.length : Int) = (l1.length : Int) then (laws_eqReNodeS.l0 k l0 l1 0) else (some false)
def laws_eqReNodeS.T6 : Bool × List (List Nat × List Nat):=(true,[([],[]),([],[]),([0,1],[0,1]),([2],[2]),([],[]),([],[]),([4,5],[4,5]),([6],[6]),([3,7],[3,7]),([8],[8])])
def laws_eqReNodeS.B6 : List Nat:=[0,0,3,7,0,0,48,112,255,511]
theorem laws_eqReNodeS.tab6 : rtab .any (opsOf Tryd.f15 6) = laws_eqReNodeS.T6:=by kernel_rfl
theorem laws_eqReNodeS.bits6 : waitsOk laws_eqReNodeS.T6.2 laws_eqReNodeS.B6 = true:=by kernel_rfl
set_option maxHeartbeats 8000000 in
set_option maxRecDepth 100000 in
theorem laws_eqReNodeS.calls (k : Nat) (A0 : Option Addr) (c0 : Nat) (l0 : List (S49)) (A1 : Option Addr) (c1 : Nat) (l1 : List (S49)) (r : Bool) (w : World) (hr0 : Kd.C k49 w A0 l0.length l0) (hc0 : l0.length ≤ c0) (hr1 : Kd.C k49 w A1 l1.length l1) (hc1 : l1.length ≤ c1) (h : laws_eqReNodeS.f k l0 l1 = some r) :
  Calls Tryd.prog 15 #[.slice A0 l0.length c0,.slice A1 l1.length c1] w fun e w'=>e = .returned (.bool r) ∧ Below w.heap.size w w':=by
 have hu49:=Tryd.underlying49
 have HR0:=Aside0.mk hr0
 have HC0:=Aside0.mk hc0
 clear hr0 hc0
 have HR1:=Aside0.mk hr1
 have HC1:=Aside0.mk hc1
 clear hr1 hc1
 have HB:=Aside0.mk (Below.refl w.heap.size w)
 have H : (if (l0.length : Int) = (l1.length : Int) then (laws_eqReNodeS.l0 k l0 l1 0) else (some false)) = some r:=h
 clear h
 by_cases c3 : (l0.length : Int) = (l1.length : Int)
 ·rw [if_pos c3] at H
  have c3b0 : ((l0.length : Int) == (l1.length : Int)) = true:=beq_iff_eq.mpr c3
  have c3b1 : ((l0.length : Int) != (l1.length : Int)) = false:=bne_eq_false_iff_eq.mpr c3
  have c3b2 : (l0.length == l1.length) = true:=by first|simpa using c3|(simp at c3 ⊢;omega)
  clear c3
  have H':=Aside0.mk H
  clear H
  go_enter Tryd.func15,Tryd.ntmps15
  go_wp2
  go_loopg [5] k (fun kq v5 w'=>∃ (x5_1 : Int),v5 = .int .i64 x5_1 ∧ Aside0 (laws_eqReNodeS.l0 kq l0 l1 x5_1 = some r) ∧ Aside0 (kq ≤ k) ∧ Aside0 (Below w.heap.size w w'))
  case atStart=>exact ⟨(0),(by first|rfl|(simp;done)|(simp [*];done)),H',⟨Nat.le_refl _⟩,⟨by repeat (first|(with_reducible first|exact HB.out|apply below_alloc|apply pw_below_drewN|apply below_drew1)|exact HB.out)⟩⟩
  case round =>
   clear H'
   try clear c1
   try clear p2
   try clear c3
   try clear c3b0
   try clear c3b1
   try clear c3b2
   obtain ⟨x5_1,rfl,HA,HK1,HB⟩:=hrel
   cases gk with
   | zero=>exact absurd HA.out (by simp [laws_eqReNodeS.l0])
   | succ k1 =>
    have H:=HA.out
    clear HA
    simp only [laws_eqReNodeS.l0] at H
    by_cases c4 : x5_1 < (l0.length : Int)
    ·rw [if_pos c4] at H
     have c4b0 : decide (x5_1 < (l0.length : Int)) = true:=decide_eq_true c4
     clear c4
     by_cases c5 : 0 ≤ x5_1
     ·rw [if_pos c5] at H
      have c5b0 : decide (0 ≤ x5_1) = true:=decide_eq_true c5
      clear c5
      by_cases c6 : x5_1 < (l1.length : Int)
      ·rw [if_pos c6] at H
       have c6b0 : decide (x5_1 < (l1.length : Int)) = true:=decide_eq_true c6
       clear c6
       replace H:=Option.bind_eq_some_iff.mp H
       obtain ⟨t210,A70,H⟩:=H
       replace H : (if t210 = true then (laws_eqReNodeS.l0 k1 l0 l1 (wrap64 (x5_1 + 1))) else (some false)) = some r:=H
       have A7:=Aside0.mk A70
       clear A70
       by_cases c8 : t210 = true
       ·subst c8
        have H1 : (laws_eqReNodeS.l0 k1 l0 l1 (wrap64 (x5_1 + 1))) = some r:=by rw [if_pos rfl] at H;exact H
        clear H
        have H:=H1
        clear H1
        have H':=Aside0.mk H
        clear H
        try go_wp2
        have n0_:=Aside0.mk (below_drew1 HB.out)
        clear HB
        have HB:=n0_
        clear n0_
        have p208 : 0 ≤ (x5_1 : Int):=of_decide_eq_true (by first|(with_reducible assumption)|assumption)
        have q208 : x5_1 < (l0.length : Int):=of_decide_eq_true (by first|(with_reducible assumption)|assumption)
        obtain ⟨ad208,A208_3,c208_3,e208,hx208_0,hx208_1,hx208_2,hx208_3,hl208_3,hi208_3⟩:=at_T49 HR0.out x5_1 p208 q208
        have hw208_3:=hx208_3
        have hw208_2:=hx208_2
        have hw208_1:=hx208_1
        have hw208_0:=hx208_0
        cases e208
        replace hx208_0:=(HB.out.cell (World.block_lt_of_cell? w _ hx208_0)).trans hx208_0
        replace hx208_1:=(HB.out.cell (World.block_lt_of_cell? w _ hx208_1)).trans hx208_1
        replace hx208_2:=(HB.out.cell (World.block_lt_of_cell? w _ hx208_2)).trans hx208_2
        replace hx208_3:=(HB.out.cell (World.block_lt_of_cell? w _ hx208_3)).trans hx208_3
        have HR208_3:=Aside0.mk hi208_3
        have HC208_3:=Aside0.mk hl208_3
        clear hi208_3 hl208_3
        replace p208:=eq_true p208
        replace q208:=eq_true q208
        have p209 : 0 ≤ (x5_1 : Int):=of_decide_eq_true (by first|(with_reducible assumption)|assumption)
        have q209 : x5_1 < (l1.length : Int):=of_decide_eq_true (by first|(with_reducible assumption)|assumption)
        obtain ⟨ad209,A209_3,c209_3,e209,hx209_0,hx209_1,hx209_2,hx209_3,hl209_3,hi209_3⟩:=at_T49 HR1.out x5_1 p209 q209
        have hw209_3:=hx209_3
        have hw209_2:=hx209_2
        have hw209_1:=hx209_1
        have hw209_0:=hx209_0
        cases e209
        replace hx209_0:=(HB.out.cell (World.block_lt_of_cell? w _ hx209_0)).trans hx209_0
        replace hx209_1:=(HB.out.cell (World.block_lt_of_cell? w _ hx209_1)).trans hx209_1
        replace hx209_2:=(HB.out.cell (World.block_lt_of_cell? w _ hx209_2)).trans hx209_2
        replace hx209_3:=(HB.out.cell (World.block_lt_of_cell? w _ hx209_3)).trans hx209_3
        have HR209_3:=Aside0.mk hi209_3
        have HC209_3:=Aside0.mk hl209_3
        clear hi209_3 hl209_3
        replace p209:=eq_true p209
        replace q209:=eq_true q209
        refine start_ (n:=10) (S:=fun w'=>w'.cell? (ad208.add ((x5_1).toNat * 4)) = some (.int .i64 ((rd_T49 l0 x5_1).f0)) ∧ w'.cell? ⟨(ad208.add ((x5_1).toNat * 4)).block,(ad208.add ((x5_1).toNat * 4)).off + 1,none⟩ = some (.bool ((rd_T49 l0 x5_1).f1)) ∧ w'.cell? ⟨(ad208.add ((x5_1).toNat * 4)).block,(ad208.add ((x5_1).toNat * 4)).off + 2,none⟩ = some (.string ((rd_T49 l0 x5_1).f2)) ∧ w'.cell? ⟨(ad208.add ((x5_1).toNat * 4)).block,(ad208.add ((x5_1).toNat * 4)).off + 3,none⟩ = some (.slice A208_3 ((rd_T49 l0 x5_1).f3).length c208_3) ∧ w'.cell? (ad209.add ((x5_1).toNat * 4)) = some (.int .i64 ((rd_T49 l1 x5_1).f0)) ∧ w'.cell? ⟨(ad209.add ((x5_1).toNat * 4)).block,(ad209.add ((x5_1).toNat * 4)).off + 1,none⟩ = some (.bool ((rd_T49 l1 x5_1).f1)) ∧ w'.cell? ⟨(ad209.add ((x5_1).toNat * 4)).block,(ad209.add ((x5_1).toNat * 4)).off + 2,none⟩ = some (.string ((rd_T49 l1 x5_1).f2)) ∧ w'.cell? ⟨(ad209.add ((x5_1).toNat * 4)).block,(ad209.add ((x5_1).toNat * 4)).off + 3,none⟩ = some (.slice A209_3 ((rd_T49 l1 x5_1).f3).length c209_3)) (ds:=[]) #[false,false,false,false,false,false,false,false,false,false] (by kernel_rfl) rfl rfl ⟨((HB.out.cell (World.block_lt_of_cell? w _ hw208_0)).trans hw208_0),((HB.out.cell (World.block_lt_of_cell? w _ hw208_1)).trans hw208_1),((HB.out.cell (World.block_lt_of_cell? w _ hw208_2)).trans hw208_2),((HB.out.cell (World.block_lt_of_cell? w _ hw208_3)).trans hw208_3),((HB.out.cell (World.block_lt_of_cell? w _ hw209_0)).trans hw209_0),((HB.out.cell (World.block_lt_of_cell? w _ hw209_1)).trans hw209_1),((HB.out.cell (World.block_lt_of_cell? w _ hw209_2)).trans hw209_2),((HB.out.cell (World.block_lt_of_cell? w _ hw209_3)).trans hw209_3)⟩ (fun hHeld=>?_);refine with_tabW laws_eqReNodeS.tab6 laws_eqReNodeS.bits6 (fun HT_ HW_=>?_)
        generalize wr.drew = w9 at HB HR208_3 HR209_3 hx208_0 hx208_1 hx208_2 hx208_3 hx209_0 hx209_1 hx209_2 hx209_3 hHeld ⊢
        refine pure_ (i:=0) (N:=some 17) (v:=?_) (a':=?_) #[true,false,false,false,false,false,false,false,false,false] rfl rfl (any_of HT_.out (by kernel_rfl)) (fun _ _ _ h=>h) (Or.inl ⟨by rfl,?_⟩) ?_ ?_
        rotate_left
        ·intro w'
         go_simp
         first|with_reducible rfl|(rw [if_neg (by simp only [ByteArray.size_append,ByteArray.size_extract,eq_iff_iff,iff_true,iff_false] at *;omega)];try with_reducible rfl)
        rotate_left
        ·simp only [Act.put,List.setIfInBounds_toArray,List.set_cons_zero,List.set_cons_succ,i64_w,i32_w]
         rfl
        refine pure_ (i:=1) (N:=some 18) (v:=?_) (a':=?_) #[true,true,false,false,false,false,false,false,false,false] rfl rfl (any_of HT_.out (by kernel_rfl)) (fun _ _ _ h=>h) (Or.inl ⟨by rfl,?_⟩) ?_ ?_
        rotate_left
        ·intro w'
         go_simp
         first|with_reducible rfl|(rw [if_neg (by simp only [ByteArray.size_append,ByteArray.size_extract,eq_iff_iff,iff_true,iff_false] at *;omega)];try with_reducible rfl)
        rotate_left
        ·simp only [Act.put,List.setIfInBounds_toArray,List.set_cons_zero,List.set_cons_succ,i64_w,i32_w]
         rfl
        refine pure_ (i:=2) (N:=some 19) (v:=?_) (a':=?_) #[true,true,true,false,false,false,false,false,false,false] rfl rfl (any_of HT_.out (by kernel_rfl)) (fun _ _ _ h=>h) (Or.inl ⟨by rfl,?_⟩) ?_ ?_
        rotate_left
        ·intro w'
         go_simp
         first|with_reducible rfl|(rw [if_neg (by simp only [ByteArray.size_append,ByteArray.size_extract,eq_iff_iff,iff_true,iff_false] at *;omega)];try with_reducible rfl)
        rotate_left
        ·simp only [Act.put,List.setIfInBounds_toArray,List.set_cons_zero,List.set_cons_succ,i64_w,i32_w]
         rfl
        refine pure_ (i:=4) (N:=some 21) (v:=?_) (a':=?_) #[true,true,true,false,true,false,false,false,false,false] rfl rfl (any_of HT_.out (by kernel_rfl)) (fun _ _ _ h=>h) (Or.inl ⟨by rfl,?_⟩) ?_ ?_
        rotate_left
        ·intro w'
         go_simp
         first|with_reducible rfl|(rw [if_neg (by simp only [ByteArray.size_append,ByteArray.size_extract,eq_iff_iff,iff_true,iff_false] at *;omega)];try with_reducible rfl)
        rotate_left
        ·simp only [Act.put,List.setIfInBounds_toArray,List.set_cons_zero,List.set_cons_succ,i64_w,i32_w]
         rfl
        refine pure_ (i:=5) (N:=some 22) (v:=?_) (a':=?_) #[true,true,true,false,true,true,false,false,false,false] rfl rfl (any_of HT_.out (by kernel_rfl)) (fun _ _ _ h=>h) (Or.inl ⟨by rfl,?_⟩) ?_ ?_
        rotate_left
        ·intro w'
         go_simp
         first|with_reducible rfl|(rw [if_neg (by simp only [ByteArray.size_append,ByteArray.size_extract,eq_iff_iff,iff_true,iff_false] at *;omega)];try with_reducible rfl)
        rotate_left
        ·simp only [Act.put,List.setIfInBounds_toArray,List.set_cons_zero,List.set_cons_succ,i64_w,i32_w]
         rfl
        refine pure_ (i:=6) (N:=some 23) (v:=?_) (a':=?_) #[true,true,true,false,true,true,true,false,false,false] rfl rfl (any_of HT_.out (by kernel_rfl)) (fun _ _ _ h=>h) (Or.inl ⟨by rfl,?_⟩) ?_ ?_
        rotate_left
        ·intro w'
         go_simp
         first|with_reducible rfl|(rw [if_neg (by simp only [ByteArray.size_append,ByteArray.size_extract,eq_iff_iff,iff_true,iff_false] at *;omega)];try with_reducible rfl)
        rotate_left
        ·simp only [Act.put,List.setIfInBounds_toArray,List.set_cons_zero,List.set_cons_succ,i64_w,i32_w]
         rfl
        refine take_ (i:=3) (N:=some 20) (v:=?_) (a':=?_) #[true,true,true,true,true,true,true,false,false,false] rfl rfl (take_ofW HT_.out HW_.out (by kernel_rfl)) (fun _ _ _ h=>h) (Or.inl ⟨by rfl,?_⟩) hHeld ?_ ?_
        rotate_left
        ·rintro w' ⟨s0,s1,s2,s3,s4,s5,s6,s7⟩
         go_simp
         first|with_reducible rfl|(rw [if_neg (by simp only [ByteArray.size_append,ByteArray.size_extract,eq_iff_iff,iff_true,iff_false] at *;omega)];try with_reducible rfl)
        rotate_left
        ·simp only [Act.put,List.setIfInBounds_toArray,List.set_cons_zero,List.set_cons_succ,i64_w,i32_w]
         rfl
        refine take_ (i:=7) (N:=some 24) (v:=?_) (a':=?_) #[true,true,true,true,true,true,true,true,false,false] rfl rfl (take_ofW HT_.out HW_.out (by kernel_rfl)) (fun _ _ _ h=>h) (Or.inl ⟨by rfl,?_⟩) hHeld ?_ ?_
        rotate_left
        ·rintro w' ⟨s0,s1,s2,s3,s4,s5,s6,s7⟩
         go_simp
         first|with_reducible rfl|(rw [if_neg (by simp only [ByteArray.size_append,ByteArray.size_extract,eq_iff_iff,iff_true,iff_false] at *;omega)];try with_reducible rfl)
        rotate_left
        ·simp only [Act.put,List.setIfInBounds_toArray,List.set_cons_zero,List.set_cons_succ,i64_w,i32_w]
         rfl
        refine one_ (i:=8) (N:=some 25) #[true,true,true,true,true,true,true,true,true,false] rfl rfl (one_of HT_.out (by kernel_rfl)) (by decide) (fun K hK=>?_)
        refine goes_ Tryd.func43 (by kernel_rfl) rfl #[.agg #[.int .i64 ((rd_T49 l0 x5_1).f0),.bool ((rd_T49 l0 x5_1).f1),.string ((rd_T49 l0 x5_1).f2),.slice A208_3 ((rd_T49 l0 x5_1).f3).length c208_3],.agg #[.int .i64 ((rd_T49 l1 x5_1).f0),.bool ((rd_T49 l1 x5_1).f1),.string ((rd_T49 l1 x5_1).f2),.slice A209_3 ((rd_T49 l1 x5_1).f3).length c209_3]] (by rfl) rfl rfl (by (try simp only [List.map_toArray,List.map_cons,List.map_nil]);first|done|rfl|(simp only [List.length_drop,List.length_take];rfl)) ?_
        with_reducible refine (laws_eqReNode.calls k1 ((rd_T49 l0 x5_1).f0) ((rd_T49 l0 x5_1).f1) ((rd_T49 l0 x5_1).f2) _ _ ((rd_T49 l0 x5_1).f3) ((rd_T49 l1 x5_1).f0) ((rd_T49 l1 x5_1).f1) ((rd_T49 l1 x5_1).f2) _ _ ((rd_T49 l1 x5_1).f3) true _ ?side1 ?side2 ?side3 ?side4 A7.out).mono ?_
        (case side1=>repeat (first|exact (Kd.C_below HR208_3.out HB.out)|(with_reducible refine Kd.C_alloc ?_ _)|(with_reducible refine Kd.C_drewN ?_ _)|(with_reducible refine Kd.C_drew ?_)))
        (case side2=>exact HC208_3.out)
        (case side3=>repeat (first|exact (Kd.C_below HR209_3.out HB.out)|(with_reducible refine Kd.C_alloc ?_ _)|(with_reducible refine Kd.C_drewN ?_ _)|(with_reducible refine Kd.C_drew ?_)))
        (case side4=>exact HC209_3.out)
        rintro e w10 ⟨rfl,hb⟩
        refine ⟨_,rfl,?_⟩
        have n0_:=Aside0.mk (below_step (by repeat (first|(with_reducible first|exact HB.out|apply below_alloc|apply pw_below_drewN|apply below_drew1)|exact HB.out)) hb)
        clear HB
        have HB:=n0_
        clear n0_
        (try clear hb)
        (try clear hb2)
        (try clear hk)
        (try clear hi)
        refine hK.out _ _ ⟨((HB.out.cell (World.block_lt_of_cell? w _ hw208_0)).trans hw208_0),((HB.out.cell (World.block_lt_of_cell? w _ hw208_1)).trans hw208_1),((HB.out.cell (World.block_lt_of_cell? w _ hw208_2)).trans hw208_2),((HB.out.cell (World.block_lt_of_cell? w _ hw208_3)).trans hw208_3),((HB.out.cell (World.block_lt_of_cell? w _ hw209_0)).trans hw209_0),((HB.out.cell (World.block_lt_of_cell? w _ hw209_1)).trans hw209_1),((HB.out.cell (World.block_lt_of_cell? w _ hw209_2)).trans hw209_2),((HB.out.cell (World.block_lt_of_cell? w _ hw209_3)).trans hw209_3)⟩ (fun hHeld=>?_)
        clear hK K
        refine norm_ (a':=?_) ?_ ?_
        rotate_left
        ·show Act.put _ (some 25) _ = _
         simp only [Act.put,List.setIfInBounds_toArray,List.set_cons_zero,List.set_cons_succ,i64_w,i32_w]
         rfl
        refine pure_ (i:=9) (N:=some 26) (v:=?_) (a':=?_) #[true,true,true,true,true,true,true,true,true,true] rfl rfl (any_of HT_.out (by kernel_rfl)) (fun _ _ _ h=>h) (Or.inl ⟨by rfl,?_⟩) ?_ ?_
        rotate_left
        ·intro w'
         go_simp
         first|with_reducible rfl|(rw [if_neg (by simp only [ByteArray.size_append,ByteArray.size_extract,eq_iff_iff,iff_true,iff_false] at *;omega)];try with_reducible rfl)
        rotate_left
        ·simp only [Act.put,List.setIfInBounds_toArray,List.set_cons_zero,List.set_cons_succ,i64_w,i32_w]
         rfl
        refine done_ (done_of HT_.out (by kernel_rfl)) ?_
        try go_wp2
        go_roundg k1
        case measure=>have:=HK1.out;omega
        case rel=>exact ⟨(wrap64 (x5_1 + 1)),(by first|rfl|(simp;done)|(simp [*];done)),H',⟨by have:=HK1.out;omega⟩,⟨by repeat (first|(with_reducible first|exact HB.out|apply below_alloc|apply pw_below_drewN|apply below_drew1)|exact HB.out)⟩⟩
       ·replace c8:=Bool.eq_false_iff.mpr c8
        subst c8
        have H1 : (some false) = some r:=by rw [if_neg (show ¬ (false = true) by decide)] at H;exact H
        clear H
        have H:=H1
        clear H1
        obtain rfl:=Option.some.inj H
        try go_wp2
        have n0_:=Aside0.mk (below_drew1 HB.out)
        clear HB
        have HB:=n0_
        clear n0_
        have p208 : 0 ≤ (x5_1 : Int):=of_decide_eq_true (by first|(with_reducible assumption)|assumption)
        have q208 : x5_1 < (l0.length : Int):=of_decide_eq_true (by first|(with_reducible assumption)|assumption)
        obtain ⟨ad208,A208_3,c208_3,e208,hx208_0,hx208_1,hx208_2,hx208_3,hl208_3,hi208_3⟩:=at_T49 HR0.out x5_1 p208 q208
        have hw208_3:=hx208_3
        have hw208_2:=hx208_2
        have hw208_1:=hx208_1
        have hw208_0:=hx208_0
        cases e208
        replace hx208_0:=(HB.out.cell (World.block_lt_of_cell? w _ hx208_0)).trans hx208_0
        replace hx208_1:=(HB.out.cell (World.block_lt_of_cell? w _ hx208_1)).trans hx208_1
        replace hx208_2:=(HB.out.cell (World.block_lt_of_cell? w _ hx208_2)).trans hx208_2
        replace hx208_3:=(HB.out.cell (World.block_lt_of_cell? w _ hx208_3)).trans hx208_3
        have HR208_3:=Aside0.mk hi208_3
        have HC208_3:=Aside0.mk hl208_3
        clear hi208_3 hl208_3
        replace p208:=eq_true p208
        replace q208:=eq_true q208
        have p209 : 0 ≤ (x5_1 : Int):=of_decide_eq_true (by first|(with_reducible assumption)|assumption)
        have q209 : x5_1 < (l1.length : Int):=of_decide_eq_true (by first|(with_reducible assumption)|assumption)
        obtain ⟨ad209,A209_3,c209_3,e209,hx209_0,hx209_1,hx209_2,hx209_3,hl209_3,hi209_3⟩:=at_T49 HR1.out x5_1 p209 q209
        have hw209_3:=hx209_3
        have hw209_2:=hx209_2
        have hw209_1:=hx209_1
        have hw209_0:=hx209_0
        cases e209
        replace hx209_0:=(HB.out.cell (World.block_lt_of_cell? w _ hx209_0)).trans hx209_0
        replace hx209_1:=(HB.out.cell (World.block_lt_of_cell? w _ hx209_1)).trans hx209_1
        replace hx209_2:=(HB.out.cell (World.block_lt_of_cell? w _ hx209_2)).trans hx209_2
        replace hx209_3:=(HB.out.cell (World.block_lt_of_cell? w _ hx209_3)).trans hx209_3
        have HR209_3:=Aside0.mk hi209_3
        have HC209_3:=Aside0.mk hl209_3
        clear hi209_3 hl209_3
        replace p209:=eq_true p209
        replace q209:=eq_true q209
        refine start_ (n:=10) (S:=fun w'=>w'.cell? (ad208.add ((x5_1).toNat * 4)) = some (.int .i64 ((rd_T49 l0 x5_1).f0)) ∧ w'.cell? ⟨(ad208.add ((x5_1).toNat * 4)).block,(ad208.add ((x5_1).toNat * 4)).off + 1,none⟩ = some (.bool ((rd_T49 l0 x5_1).f1)) ∧ w'.cell? ⟨(ad208.add ((x5_1).toNat * 4)).block,(ad208.add ((x5_1).toNat * 4)).off + 2,none⟩ = some (.string ((rd_T49 l0 x5_1).f2)) ∧ w'.cell? ⟨(ad208.add ((x5_1).toNat * 4)).block,(ad208.add ((x5_1).toNat * 4)).off + 3,none⟩ = some (.slice A208_3 ((rd_T49 l0 x5_1).f3).length c208_3) ∧ w'.cell? (ad209.add ((x5_1).toNat * 4)) = some (.int .i64 ((rd_T49 l1 x5_1).f0)) ∧ w'.cell? ⟨(ad209.add ((x5_1).toNat * 4)).block,(ad209.add ((x5_1).toNat * 4)).off + 1,none⟩ = some (.bool ((rd_T49 l1 x5_1).f1)) ∧ w'.cell? ⟨(ad209.add ((x5_1).toNat * 4)).block,(ad209.add ((x5_1).toNat * 4)).off + 2,none⟩ = some (.string ((rd_T49 l1 x5_1).f2)) ∧ w'.cell? ⟨(ad209.add ((x5_1).toNat * 4)).block,(ad209.add ((x5_1).toNat * 4)).off + 3,none⟩ = some (.slice A209_3 ((rd_T49 l1 x5_1).f3).length c209_3)) (ds:=[]) #[false,false,false,false,false,false,false,false,false,false] (by kernel_rfl) rfl rfl ⟨((HB.out.cell (World.block_lt_of_cell? w _ hw208_0)).trans hw208_0),((HB.out.cell (World.block_lt_of_cell? w _ hw208_1)).trans hw208_1),((HB.out.cell (World.block_lt_of_cell? w _ hw208_2)).trans hw208_2),((HB.out.cell (World.block_lt_of_cell? w _ hw208_3)).trans hw208_3),((HB.out.cell (World.block_lt_of_cell? w _ hw209_0)).trans hw209_0),((HB.out.cell (World.block_lt_of_cell? w _ hw209_1)).trans hw209_1),((HB.out.cell (World.block_lt_of_cell? w _ hw209_2)).trans hw209_2),((HB.out.cell (World.block_lt_of_cell? w _ hw209_3)).trans hw209_3)⟩ (fun hHeld=>?_);refine with_tabW laws_eqReNodeS.tab6 laws_eqReNodeS.bits6 (fun HT_ HW_=>?_)
        generalize wr.drew = w11 at HB HR208_3 HR209_3 hx208_0 hx208_1 hx208_2 hx208_3 hx209_0 hx209_1 hx209_2 hx209_3 hHeld ⊢
        refine pure_ (i:=0) (N:=some 17) (v:=?_) (a':=?_) #[true,false,false,false,false,false,false,false,false,false] rfl rfl (any_of HT_.out (by kernel_rfl)) (fun _ _ _ h=>h) (Or.inl ⟨by rfl,?_⟩) ?_ ?_
        rotate_left
        ·intro w'
         go_simp
         first|with_reducible rfl|(rw [if_neg (by simp only [ByteArray.size_append,ByteArray.size_extract,eq_iff_iff,iff_true,iff_false] at *;omega)];try with_reducible rfl)
        rotate_left
        ·simp only [Act.put,List.setIfInBounds_toArray,List.set_cons_zero,List.set_cons_succ,i64_w,i32_w]
         rfl
        refine pure_ (i:=1) (N:=some 18) (v:=?_) (a':=?_) #[true,true,false,false,false,false,false,false,false,false] rfl rfl (any_of HT_.out (by kernel_rfl)) (fun _ _ _ h=>h) (Or.inl ⟨by rfl,?_⟩) ?_ ?_
        rotate_left
        ·intro w'
         go_simp
         first|with_reducible rfl|(rw [if_neg (by simp only [ByteArray.size_append,ByteArray.size_extract,eq_iff_iff,iff_true,iff_false] at *;omega)];try with_reducible rfl)
        rotate_left
        ·simp only [Act.put,List.setIfInBounds_toArray,List.set_cons_zero,List.set_cons_succ,i64_w,i32_w]
         rfl
        refine pure_ (i:=2) (N:=some 19) (v:=?_) (a':=?_) #[true,true,true,false,false,false,false,false,false,false] rfl rfl (any_of HT_.out (by kernel_rfl)) (fun _ _ _ h=>h) (Or.inl ⟨by rfl,?_⟩) ?_ ?_
        rotate_left
        ·intro w'
         go_simp
         first|with_reducible rfl|(rw [if_neg (by simp only [ByteArray.size_append,ByteArray.size_extract,eq_iff_iff,iff_true,iff_false] at *;omega)];try with_reducible rfl)
        rotate_left
        ·simp only [Act.put,List.setIfInBounds_toArray,List.set_cons_zero,List.set_cons_succ,i64_w,i32_w]
         rfl
        refine pure_ (i:=4) (N:=some 21) (v:=?_) (a':=?_) #[true,true,true,false,true,false,false,false,false,false] rfl rfl (any_of HT_.out (by kernel_rfl)) (fun _ _ _ h=>h) (Or.inl ⟨by rfl,?_⟩) ?_ ?_
        rotate_left
        ·intro w'
         go_simp
         first|with_reducible rfl|(rw [if_neg (by simp only [ByteArray.size_append,ByteArray.size_extract,eq_iff_iff,iff_true,iff_false] at *;omega)];try with_reducible rfl)
        rotate_left
        ·simp only [Act.put,List.setIfInBounds_toArray,List.set_cons_zero,List.set_cons_succ,i64_w,i32_w]
         rfl
        refine pure_ (i:=5) (N:=some 22) (v:=?_) (a':=?_) #[true,true,true,false,true,true,false,false,false,false] rfl rfl (any_of HT_.out (by kernel_rfl)) (fun _ _ _ h=>h) (Or.inl ⟨by rfl,?_⟩) ?_ ?_
        rotate_left
        ·intro w'
         go_simp
         first|with_reducible rfl|(rw [if_neg (by simp only [ByteArray.size_append,ByteArray.size_extract,eq_iff_iff,iff_true,iff_false] at *;omega)];try with_reducible rfl)
        rotate_left
        ·simp only [Act.put,List.setIfInBounds_toArray,List.set_cons_zero,List.set_cons_succ,i64_w,i32_w]
         rfl
        refine pure_ (i:=6) (N:=some 23) (v:=?_) (a':=?_) #[true,true,true,false,true,true,true,false,false,false] rfl rfl (any_of HT_.out (by kernel_rfl)) (fun _ _ _ h=>h) (Or.inl ⟨by rfl,?_⟩) ?_ ?_
        rotate_left
        ·intro w'
         go_simp
         first|with_reducible rfl|(rw [if_neg (by simp only [ByteArray.size_append,ByteArray.size_extract,eq_iff_iff,iff_true,iff_false] at *;omega)];try with_reducible rfl)
        rotate_left
        ·simp only [Act.put,List.setIfInBounds_toArray,List.set_cons_zero,List.set_cons_succ,i64_w,i32_w]
         rfl
        refine take_ (i:=3) (N:=some 20) (v:=?_) (a':=?_) #[true,true,true,true,true,true,true,false,false,false] rfl rfl (take_ofW HT_.out HW_.out (by kernel_rfl)) (fun _ _ _ h=>h) (Or.inl ⟨by rfl,?_⟩) hHeld ?_ ?_
        rotate_left
        ·rintro w' ⟨s0,s1,s2,s3,s4,s5,s6,s7⟩
         go_simp
         first|with_reducible rfl|(rw [if_neg (by simp only [ByteArray.size_append,ByteArray.size_extract,eq_iff_iff,iff_true,iff_false] at *;omega)];try with_reducible rfl)
        rotate_left
        ·simp only [Act.put,List.setIfInBounds_toArray,List.set_cons_zero,List.set_cons_succ,i64_w,i32_w]
         rfl
        refine take_ (i:=7) (N:=some 24) (v:=?_) (a':=?_) #[true,true,true,true,true,true,true,true,false,false] rfl rfl (take_ofW HT_.out HW_.out (by kernel_rfl)) (fun _ _ _ h=>h) (Or.inl ⟨by rfl,?_⟩) hHeld ?_ ?_
        rotate_left
        ·rintro w' ⟨s0,s1,s2,s3,s4,s5,s6,s7⟩
         go_simp
         first|with_reducible rfl|(rw [if_neg (by simp only [ByteArray.size_append,ByteArray.size_extract,eq_iff_iff,iff_true,iff_false] at *;omega)];try with_reducible rfl)
        rotate_left
        ·simp only [Act.put,List.setIfInBounds_toArray,List.set_cons_zero,List.set_cons_succ,i64_w,i32_w]
         rfl
        refine one_ (i:=8) (N:=some 25) #[true,true,true,true,true,true,true,true,true,false] rfl rfl (one_of HT_.out (by kernel_rfl)) (by decide) (fun K hK=>?_)
        refine goes_ Tryd.func43 (by kernel_rfl) rfl #[.agg #[.int .i64 ((rd_T49 l0 x5_1).f0),.bool ((rd_T49 l0 x5_1).f1),.string ((rd_T49 l0 x5_1).f2),.slice A208_3 ((rd_T49 l0 x5_1).f3).length c208_3],.agg #[.int .i64 ((rd_T49 l1 x5_1).f0),.bool ((rd_T49 l1 x5_1).f1),.string ((rd_T49 l1 x5_1).f2),.slice A209_3 ((rd_T49 l1 x5_1).f3).length c209_3]] (by rfl) rfl rfl (by (try simp only [List.map_toArray,List.map_cons,List.map_nil]);first|done|rfl|(simp only [List.length_drop,List.length_take];rfl)) ?_
        with_reducible refine (laws_eqReNode.calls k1 ((rd_T49 l0 x5_1).f0) ((rd_T49 l0 x5_1).f1) ((rd_T49 l0 x5_1).f2) _ _ ((rd_T49 l0 x5_1).f3) ((rd_T49 l1 x5_1).f0) ((rd_T49 l1 x5_1).f1) ((rd_T49 l1 x5_1).f2) _ _ ((rd_T49 l1 x5_1).f3) false _ ?side1 ?side2 ?side3 ?side4 A7.out).mono ?_
        (case side1=>repeat (first|exact (Kd.C_below HR208_3.out HB.out)|(with_reducible refine Kd.C_alloc ?_ _)|(with_reducible refine Kd.C_drewN ?_ _)|(with_reducible refine Kd.C_drew ?_)))
        (case side2=>exact HC208_3.out)
        (case side3=>repeat (first|exact (Kd.C_below HR209_3.out HB.out)|(with_reducible refine Kd.C_alloc ?_ _)|(with_reducible refine Kd.C_drewN ?_ _)|(with_reducible refine Kd.C_drew ?_)))
        (case side4=>exact HC209_3.out)
        rintro e w12 ⟨rfl,hb⟩
        refine ⟨_,rfl,?_⟩
        have n0_:=Aside0.mk (below_step (by repeat (first|(with_reducible first|exact HB.out|apply below_alloc|apply pw_below_drewN|apply below_drew1)|exact HB.out)) hb)
        clear HB
        have HB:=n0_
        clear n0_
        (try clear hb)
        (try clear hb2)
        (try clear hk)
        (try clear hi)
        refine hK.out _ _ ⟨((HB.out.cell (World.block_lt_of_cell? w _ hw208_0)).trans hw208_0),((HB.out.cell (World.block_lt_of_cell? w _ hw208_1)).trans hw208_1),((HB.out.cell (World.block_lt_of_cell? w _ hw208_2)).trans hw208_2),((HB.out.cell (World.block_lt_of_cell? w _ hw208_3)).trans hw208_3),((HB.out.cell (World.block_lt_of_cell? w _ hw209_0)).trans hw209_0),((HB.out.cell (World.block_lt_of_cell? w _ hw209_1)).trans hw209_1),((HB.out.cell (World.block_lt_of_cell? w _ hw209_2)).trans hw209_2),((HB.out.cell (World.block_lt_of_cell? w _ hw209_3)).trans hw209_3)⟩ (fun hHeld=>?_)
        clear hK K
        refine norm_ (a':=?_) ?_ ?_
        rotate_left
        ·show Act.put _ (some 25) _ = _
         simp only [Act.put,List.setIfInBounds_toArray,List.set_cons_zero,List.set_cons_succ,i64_w,i32_w]
         rfl
        refine pure_ (i:=9) (N:=some 26) (v:=?_) (a':=?_) #[true,true,true,true,true,true,true,true,true,true] rfl rfl (any_of HT_.out (by kernel_rfl)) (fun _ _ _ h=>h) (Or.inl ⟨by rfl,?_⟩) ?_ ?_
        rotate_left
        ·intro w'
         go_simp
         first|with_reducible rfl|(rw [if_neg (by simp only [ByteArray.size_append,ByteArray.size_extract,eq_iff_iff,iff_true,iff_false] at *;omega)];try with_reducible rfl)
        rotate_left
        ·simp only [Act.put,List.setIfInBounds_toArray,List.set_cons_zero,List.set_cons_succ,i64_w,i32_w]
         rfl
        refine done_ (done_of HT_.out (by kernel_rfl)) ?_
        try go_wp2
        go_ret
        exact ⟨by first|rfl|(simp [errW_none,errW_some] <;> rfl)|(simp [*,errW_none,errW_some] <;> rfl),by repeat (first|(with_reducible first|exact HB.out|apply below_alloc|apply pw_below_drewN|apply below_drew1)|exact HB.out)⟩
      ·rw [if_neg c6] at H
       exact absurd H (by simp)
     ·rw [if_neg c5] at H
      exact absurd H (by simp)
    ·rw [if_neg c4] at H
     have c4b0 : decide (x5_1 < (l0.length : Int)) = false:=decide_eq_false c4
     clear c4
     obtain rfl:=Option.some.inj H
     go_wp2
     go_ret
     exact ⟨by first|rfl|(simp [errW_none,errW_some] <;> rfl)|(simp [*,errW_none,errW_some] <;> rfl),by repeat (first|(with_reducible first|exact HB.out|apply below_alloc|apply pw_below_drewN|apply below_drew1)|exact HB.out)⟩
 ·rw [if_neg c3] at H
  have c3b0 : ((l0.length : Int) == (l1.length : Int)) = false:=beq_eq_false_iff_ne.mpr c3
  have c3b1 : ((l0.length : Int) != (l1.length : Int)) = true:=bne_iff_ne.mpr c3
  have c3b2 : (l0.length == l1.length) = false:=by first|simpa using c3|(simp at c3 ⊢;omega)
  obtain rfl:=Option.some.inj H
  go_enter Tryd.func15,Tryd.ntmps15
  go_wp2
  go_ret
  exact ⟨by first|rfl|(simp [errW_none,errW_some] <;> rfl)|(simp [*,errW_none,errW_some] <;> rfl),by repeat (first|(with_reducible first|exact HB.out|apply below_alloc|apply pw_below_drewN|apply below_drew1)|exact HB.out)⟩
def spec_ReTest.f (k : Nat) (l0 : List (S49)) (a1 : ByteArray) : Option (Bool):=(spec_ReFind.f k l0 a1).bind fun bt226=>(some (decide (bt226.1 ≥ 0)))
set_option maxHeartbeats 8000000 in
set_option maxRecDepth 100000 in
theorem spec_ReTest.calls (k : Nat) (A0 : Option Addr) (c0 : Nat) (l0 : List (S49)) (a1 : ByteArray) (r : Bool) (w : World) (hr0 : Kd.C k49 w A0 l0.length l0) (hc0 : l0.length ≤ c0) (h : spec_ReTest.f k l0 a1 = some r) :
  Calls Tryd.prog 16 #[.slice A0 l0.length c0,.string a1] w fun e w'=>e = .returned (.bool r) ∧ Below w.heap.size w w':=by
 have HR0:=Aside0.mk hr0
 have HC0:=Aside0.mk hc0
 clear hr0 hc0
 have HB:=Aside0.mk (Below.refl w.heap.size w)
 have H : ((spec_ReFind.f k l0 a1).bind fun bt226=>(some (decide (bt226.1 ≥ 0)))) = some r:=h
 clear h
 replace H:=Option.bind_eq_some_iff.mp H
 obtain ⟨⟨t226,t227⟩,A30,H⟩:=H
 replace H : (some (decide (t226 ≥ 0))) = some r:=H
 have A3:=Aside0.mk A30
 clear A30
 obtain rfl:=Option.some.inj H
 go_enter Tryd.func16,Tryd.ntmps16
 go_wp2_with (first|((with_reducible refine gate_callee (f:=12) rfl ?_);refine goesL_ (some 10) rfl rfl Tryd.func12 (by kernel_rfl) rfl #[.slice A0 l0.length c0,.string a1] rfl (by (try simp only [List.map_toArray,List.map_cons,List.map_nil]);first|done|rfl|(simp only [List.length_drop,List.length_take];rfl)) ?_;(with_reducible refine (spec_ReFind.calls k _ _ l0 a1 t226 t227 _ ?side1 ?side2 A3.out).mono ?_);(case side1=>repeat (first|exact HR0.out|(with_reducible refine Kd.C_alloc ?_ _)|(with_reducible refine Kd.C_drewN ?_ _)|(with_reducible refine Kd.C_drew ?_)));(case side2=>exact HC0.out);rintro e w4 ⟨rfl,hb⟩;refine ⟨_,rfl,?_⟩;have n0_:=Aside0.mk (below_step (by repeat (first|(with_reducible first|exact HB.out|apply below_alloc|apply pw_below_drewN|apply below_drew1)|exact HB.out)) hb);clear HB;have HB:=n0_;clear n0_;(try clear hb);(try clear hb2);(try clear hk);(try clear hi)))
 go_ret
 exact ⟨by first|rfl|(simp [errW_none,errW_some] <;> rfl)|(simp [*,errW_none,errW_some] <;> rfl),by repeat (first|(with_reducible first|exact HB.out|apply below_alloc|apply pw_below_drewN|apply below_drew1)|exact HB.out)⟩
noncomputable def laws_FnExactReTest.f (k : Nat) (l0 : List (S56)) (a1 : ByteArray) : Option (Bool):=if (a1.size : Int) > 1048576 then (some true) else ((laws_szReNodeS.f k l0 1048576).bind fun t228=>(if t228 < 0 then (some true) else ((laws_toReNodeS.f k l0).bind fun t229=>((spec_ReTest.f k t229 a1).bind fun t232=>((laws_toReNodeS.f k l0).bind fun t233=>((impl_ReTest.f t233 a1).bind fun t236=>(if (t236 != t232) = true then (some false) else ((laws_toReNodeS.f k l0).bind fun t237=>((laws_eqReNodeS.f k t233 t237).bind fun t240=>(if t240 = true then (some true) else (some false)))))))))))
set_option maxHeartbeats 8000000 in
set_option maxRecDepth 100000 in
theorem laws_FnExactReTest.calls (k : Nat) (A0 : Option Addr) (c0 : Nat) (l0 : List (S56)) (a1 : ByteArray) (r : Bool) (w : World) (hr0 : Kd.C k56 w A0 l0.length l0) (hc0 : l0.length ≤ c0) (h : laws_FnExactReTest.f k l0 a1 = some r) (hT : Tabs w:=by first|assumption|(refine Aside0.out (p:=Tabs _) ?_;assumption)|(refine Tabs.below (w:=?ww) (Aside0.out ?ha) ?hb;(case ha=>assumption);(case hb=>repeat (first|(with_reducible first|exact Below.refl _ _|(refine Aside0.out ?_;assumption)|apply below_alloc|apply pw_below_drewN|apply below_drew1|(refine below_set ?_ (Aside0.out ?_);(rotate_left;assumption)))|(refine Aside0.out ?_;assumption))))|(refine Tabs.drewN (w:=?ww) (Aside0.out ?ha) _;(case ha=>assumption))) (hr : r = true:=by first|assumption|rfl|(refine Aside0.out ?_;assumption)) :
  Calls Tryd.prog 4 #[.slice A0 l0.length c0,.string a1] w fun e w'=>e = .returned (.bool r) ∧ Below w.heap.size w w':=by
 have HT_:=Aside0.mk hT
 clear hT
 subst hr
 have HR0:=Aside0.mk hr0
 have HC0:=Aside0.mk hc0
 clear hr0 hc0
 have HB:=Aside0.mk (Below.refl w.heap.size w)
 have H : (if (a1.size : Int) > 1048576 then (some true) else ((laws_szReNodeS.f k l0 1048576).bind fun t228=>(if t228 < 0 then (some true) else ((laws_toReNodeS.f k l0).bind fun t229=>((spec_ReTest.f k t229 a1).bind fun t232=>((laws_toReNodeS.f k l0).bind fun t233=>((impl_ReTest.f t233 a1).bind fun t236=>(if (t236 != t232) = true then (some false) else ((laws_toReNodeS.f k l0).bind fun t237=>((laws_eqReNodeS.f k t233 t237).bind fun t240=>(if t240 = true then (some true) else (some false)))))))))))) = some true:=h
 clear h
 by_cases c3 : (a1.size : Int) > 1048576
 ·rw [if_pos c3] at H
  have c3b0 : decide (1048576 < (a1.size : Int)) = true:=decide_eq_true c3
  have c3b1 : decide (1048576 < a1.size) = true:=decide_eq_true (by omega)
  clear c3
  clear H
  go_enter Tryd.func4,Tryd.ntmps4
  go_wp2
  go_ret
  exact ⟨by first|rfl|(rw [HOR_.out];done)|(rw [HOR_.out];rfl)|(simp [HOR_.out];done)|(have h_:=HOR_.out;simp at h_;subst h_;first|rfl|(simp;done))|(have h_:=HOR_.out;simp at h_ ⊢;exact h_)|(simp [errW_none,errW_some] <;> rfl)|(simp [*,errW_none,errW_some] <;> rfl),by repeat (first|(with_reducible first|exact HB.out|apply below_alloc|apply pw_below_drewN|apply below_drew1)|exact HB.out)⟩
 ·rw [if_neg c3] at H
  have c3b0 : decide (1048576 < (a1.size : Int)) = false:=decide_eq_false c3
  have c3b1 : decide (1048576 < a1.size) = false:=decide_eq_false (by omega)
  clear c3
  replace H:=Option.bind_eq_some_iff.mp H
  obtain ⟨t228,A40,H⟩:=H
  replace H : (if t228 < 0 then (some true) else ((laws_toReNodeS.f k l0).bind fun t229=>((spec_ReTest.f k t229 a1).bind fun t232=>((laws_toReNodeS.f k l0).bind fun t233=>((impl_ReTest.f t233 a1).bind fun t236=>(if (t236 != t232) = true then (some false) else ((laws_toReNodeS.f k l0).bind fun t237=>((laws_eqReNodeS.f k t233 t237).bind fun t240=>(if t240 = true then (some true) else (some false)))))))))) = some true:=H
  have A4:=Aside0.mk A40
  clear A40
  by_cases c5 : t228 < 0
  ·rw [if_pos c5] at H
   have c5b0 : decide (t228 < 0) = true:=decide_eq_true c5
   clear c5
   clear H
   go_enter Tryd.func4,Tryd.ntmps4
   go_wp2_with (first|((with_reducible refine gate_callee (f:=11) rfl ?_);refine goesL_ (some 14) rfl rfl Tryd.func11 (by kernel_rfl) rfl #[.slice A0 l0.length c0,.int .i64 1048576] rfl (by (try simp only [List.map_toArray,List.map_cons,List.map_nil]);first|done|rfl|(simp only [List.length_drop,List.length_take];rfl)) ?_;(with_reducible refine (laws_szReNodeS.calls k _ _ l0 1048576 t228 _ ?side1 ?side2 A4.out).mono ?_);(case side1=>repeat (first|exact HR0.out|(with_reducible refine Kd.C_alloc ?_ _)|(with_reducible refine Kd.C_drewN ?_ _)|(with_reducible refine Kd.C_drew ?_)));(case side2=>exact HC0.out);rintro e w6 ⟨rfl,hb⟩;refine ⟨_,rfl,?_⟩;have n0_:=Aside0.mk (below_step (by repeat (first|(with_reducible first|exact HB.out|apply below_alloc|apply pw_below_drewN|apply below_drew1)|exact HB.out)) hb);clear HB;have HB:=n0_;clear n0_;(try clear hb);(try clear hb2);(try clear hk);(try clear hi)))
   go_ret
   exact ⟨by first|rfl|(rw [HOR_.out];done)|(rw [HOR_.out];rfl)|(simp [HOR_.out];done)|(have h_:=HOR_.out;simp at h_;subst h_;first|rfl|(simp;done))|(have h_:=HOR_.out;simp at h_ ⊢;exact h_)|(simp [errW_none,errW_some] <;> rfl)|(simp [*,errW_none,errW_some] <;> rfl),by repeat (first|(with_reducible first|exact HB.out|apply below_alloc|apply pw_below_drewN|apply below_drew1)|exact HB.out)⟩
  ·rw [if_neg c5] at H
   have c5b0 : decide (t228 < 0) = false:=decide_eq_false c5
   clear c5
   replace H:=Option.bind_eq_some_iff.mp H
   obtain ⟨t229,A70,H⟩:=H
   replace H : ((spec_ReTest.f k t229 a1).bind fun t232=>((laws_toReNodeS.f k l0).bind fun t233=>((impl_ReTest.f t233 a1).bind fun t236=>(if (t236 != t232) = true then (some false) else ((laws_toReNodeS.f k l0).bind fun t237=>((laws_eqReNodeS.f k t233 t237).bind fun t240=>(if t240 = true then (some true) else (some false)))))))) = some true:=H
   have A7:=Aside0.mk A70
   clear A70
   replace H:=Option.bind_eq_some_iff.mp H
   obtain ⟨t232,A80,H⟩:=H
   replace H : ((laws_toReNodeS.f k l0).bind fun t233=>((impl_ReTest.f t233 a1).bind fun t236=>(if (t236 != t232) = true then (some false) else ((laws_toReNodeS.f k l0).bind fun t237=>((laws_eqReNodeS.f k t233 t237).bind fun t240=>(if t240 = true then (some true) else (some false))))))) = some true:=H
   have A8:=Aside0.mk A80
   clear A80
   replace H:=Option.bind_eq_some_iff.mp H
   obtain ⟨t233,A90,H⟩:=H
   replace H : ((impl_ReTest.f t233 a1).bind fun t236=>(if (t236 != t232) = true then (some false) else ((laws_toReNodeS.f k l0).bind fun t237=>((laws_eqReNodeS.f k t233 t237).bind fun t240=>(if t240 = true then (some true) else (some false)))))) = some true:=H
   have A9:=Aside0.mk A90
   clear A90
   replace H:=Option.bind_eq_some_iff.mp H
   obtain ⟨t236,A100,H⟩:=H
   replace H : (if (t236 != t232) = true then (some false) else ((laws_toReNodeS.f k l0).bind fun t237=>((laws_eqReNodeS.f k t233 t237).bind fun t240=>(if t240 = true then (some true) else (some false))))) = some true:=H
   have A10:=Aside0.mk A100
   clear A100
   by_cases c11 : (t236 != t232) = true
   ·rw [if_pos c11] at H
    have c11b0 : (t236 != t232) = true:=c11
    (try (have c11b1 : decide (t236 = t232) = false:=by simpa using c11))
    (try (have c11b2 : (t236 == t232) = false:=by simpa using c11))
    (try (have c11b3 : ¬ (t236 = t232):=by simpa using c11))
    clear c11
    exact absurd H (by simp)
   ·rw [if_neg c11] at H
    have c11b0 : (t236 != t232) = false:=by simpa using c11
    (try (have c11b1 : decide (t236 = t232) = true:=by simpa using c11))
    (try (have c11b2 : (t236 == t232) = true:=by simpa using c11))
    clear c11
    replace H:=Option.bind_eq_some_iff.mp H
    obtain ⟨t237,A120,H⟩:=H
    replace H : ((laws_eqReNodeS.f k t233 t237).bind fun t240=>(if t240 = true then (some true) else (some false))) = some true:=H
    have A12:=Aside0.mk A120
    clear A120
    replace H:=Option.bind_eq_some_iff.mp H
    obtain ⟨t240,A130,H⟩:=H
    replace H : (if t240 = true then (some true) else (some false)) = some true:=H
    have A13:=Aside0.mk A130
    clear A130
    by_cases c14 : t240 = true
    ·subst c14
     have H1 : (some true) = some true:=by first|exact rfl|(rw [if_pos rfl] at H;exact H)
     clear H
     have H:=H1
     clear H1
     clear H
     go_enter Tryd.func4,Tryd.ntmps4
     go_wp2_with (first|((with_reducible refine gate_callee (f:=11) rfl ?_);refine goesL_ (some 14) rfl rfl Tryd.func11 (by kernel_rfl) rfl #[.slice A0 l0.length c0,.int .i64 1048576] rfl (by (try simp only [List.map_toArray,List.map_cons,List.map_nil]);first|done|rfl|(simp only [List.length_drop,List.length_take];rfl)) ?_;(with_reducible refine (laws_szReNodeS.calls k _ _ l0 1048576 t228 _ ?side1 ?side2 A4.out).mono ?_);(case side1=>repeat (first|exact HR0.out|(with_reducible refine Kd.C_alloc ?_ _)|(with_reducible refine Kd.C_drewN ?_ _)|(with_reducible refine Kd.C_drew ?_)));(case side2=>exact HC0.out);rintro e w15 ⟨rfl,hb⟩;refine ⟨_,rfl,?_⟩;have n0_:=Aside0.mk (below_step (by repeat (first|(with_reducible first|exact HB.out|apply below_alloc|apply pw_below_drewN|apply below_drew1)|exact HB.out)) hb);clear HB;have HB:=n0_;clear n0_;(try clear hb);(try clear hb2);(try clear hk);(try clear hi))|((with_reducible refine gate_callee (f:=13) rfl ?_);refine goesL_ (some 18) rfl rfl Tryd.func13 (by kernel_rfl) rfl #[.slice A0 l0.length c0] rfl (by (try simp only [List.map_toArray,List.map_cons,List.map_nil]);first|done|rfl|(simp only [List.length_drop,List.length_take];rfl)) ?_;(with_reducible refine (laws_toReNodeS.calls k _ _ l0 t229 _ ?side1 ?side2 A7.out).mono ?_);(case side1=>repeat (first|exact (Kd.C_below HR0.out HB.out)|(with_reducible refine Kd.C_alloc ?_ _)|(with_reducible refine Kd.C_drewN ?_ _)|(with_reducible refine Kd.C_drew ?_)));(case side2=>exact HC0.out);rintro e w16 ⟨v230,rfl,ho0,hb⟩;refine ⟨_,rfl,?_⟩;have n0_:=Aside0.mk (Kd.S_lower ho0 (below_size (by repeat (first|(with_reducible first|exact HB.out|apply below_alloc|apply pw_below_drewN|apply below_drew1)|exact HB.out))));have n1_:=Aside0.mk (below_step (by repeat (first|(with_reducible first|exact HB.out|apply below_alloc|apply pw_below_drewN|apply below_drew1)|exact HB.out)) hb);clear HB;have HO231:=n0_;have HB:=n1_;clear n0_ n1_;(try clear hb);(try clear hb2);(try clear hk);(try clear hi);(try clear ho0);obtain ⟨Ao17,co17,eo17⟩:=Kd.S_slice HO231.out;subst eo17)|((with_reducible refine gate_callee (f:=16) rfl ?_);refine goesL_ (some 20) rfl rfl Tryd.func16 (by kernel_rfl) rfl #[.slice Ao17 t229.length co17,.string a1] rfl (by (try simp only [List.map_toArray,List.map_cons,List.map_nil]);first|done|rfl|(simp only [List.length_drop,List.length_take];rfl)) ?_;(with_reducible refine (spec_ReTest.calls k _ _ t229 a1 t232 _ ?side1 ?side2 A8.out).mono ?_);(case side1=>repeat (first|exact (Kd.S_reads' HO231.out).2.2|(with_reducible refine Kd.C_alloc ?_ _)|(with_reducible refine Kd.C_drewN ?_ _)|(with_reducible refine Kd.C_drew ?_)));(case side2=>exact (Kd.S_reads' HO231.out).2.1);rintro e w18 ⟨rfl,hb⟩;refine ⟨_,rfl,?_⟩;have n0_:=Aside0.mk (Kd.S_below (by (with_reducible repeat (first|apply Kd.S_alloc|apply Kd.S_drewN|apply Kd.S_drew));exact HO231.out) hb);have n1_:=Aside0.mk (below_step (by repeat (first|(with_reducible first|exact HB.out|apply below_alloc|apply pw_below_drewN|apply below_drew1)|exact HB.out)) hb);clear HO231;clear HB;have HO231:=n0_;have HB:=n1_;clear n0_ n1_;(try clear hb);(try clear hb2);(try clear hk);(try clear hi))|((with_reducible refine gate_callee (f:=13) rfl ?_);refine goesL_ (some 22) rfl rfl Tryd.func13 (by kernel_rfl) rfl #[.slice A0 l0.length c0] rfl (by (try simp only [List.map_toArray,List.map_cons,List.map_nil]);first|done|rfl|(simp only [List.length_drop,List.length_take];rfl)) ?_;(with_reducible refine (laws_toReNodeS.calls k _ _ l0 t233 _ ?side1 ?side2 A9.out).mono ?_);(case side1=>repeat (first|exact (Kd.C_below HR0.out HB.out)|(with_reducible refine Kd.C_alloc ?_ _)|(with_reducible refine Kd.C_drewN ?_ _)|(with_reducible refine Kd.C_drew ?_)));(case side2=>exact HC0.out);rintro e w19 ⟨v234,rfl,ho0,hb⟩;refine ⟨_,rfl,?_⟩;have n0_:=Aside0.mk (Kd.S_elder' (by (with_reducible repeat (first|apply Kd.S_alloc|apply Kd.S_drewN|apply Kd.S_drew));exact HO231.out) (Kd.S_base ho0) hb);have n1_:=Aside0.mk (Kd.S_lower (Kd.S_new' ho0 (Kd.S_lt (by (with_reducible repeat (first|apply Kd.S_alloc|apply Kd.S_drewN|apply Kd.S_drew));exact HO231.out))) (below_size (by repeat (first|(with_reducible first|exact HB.out|apply below_alloc|apply pw_below_drewN|apply below_drew1)|exact HB.out))));have n2_:=Aside0.mk (below_step (by repeat (first|(with_reducible first|exact HB.out|apply below_alloc|apply pw_below_drewN|apply below_drew1)|exact HB.out)) hb);clear HO231;clear HB;have HO231:=n0_;have HO235:=n1_;have HB:=n2_;clear n0_ n1_ n2_;(try clear hb);(try clear hb2);(try clear hk);(try clear hi);(try clear ho0);obtain ⟨Ao20,co20,eo20⟩:=Kd.S_slice HO235.out;subst eo20)|((with_reducible refine gate_callee (f:=17) rfl ?_);refine goesL_ (some 25) rfl rfl Tryd.func17 (by kernel_rfl) rfl #[.slice Ao20 t233.length co20,.string a1] rfl (by (try simp only [List.map_toArray,List.map_cons,List.map_nil]);first|done|rfl|(simp only [List.length_drop,List.length_take];rfl)) ?_;(with_reducible refine (impl_ReTest.calls _ _ t233 a1 t236 _ ?side1 ?side2 A10.out).mono ?_);(case side1=>repeat (first|exact (Kd.S_reads' HO235.out).2.2|(with_reducible refine Kd.C_alloc ?_ _)|(with_reducible refine Kd.C_drewN ?_ _)|(with_reducible refine Kd.C_drew ?_)));(case side2=>exact (Kd.S_reads' HO235.out).2.1);rintro e w21 ⟨rfl,hb⟩;refine ⟨_,rfl,?_⟩;have n0_:=Aside0.mk (Kd.S_below (by (with_reducible repeat (first|apply Kd.S_alloc|apply Kd.S_drewN|apply Kd.S_drew));exact HO231.out) hb);have n1_:=Aside0.mk (Kd.S_below (by (with_reducible repeat (first|apply Kd.S_alloc|apply Kd.S_drewN|apply Kd.S_drew));exact HO235.out) hb);have n2_:=Aside0.mk (below_step (by repeat (first|(with_reducible first|exact HB.out|apply below_alloc|apply pw_below_drewN|apply below_drew1)|exact HB.out)) hb);clear HO231;clear HO235;clear HB;have HO231:=n0_;have HO235:=n1_;have HB:=n2_;clear n0_ n1_ n2_;(try clear hb);(try clear hb2);(try clear hk);(try clear hi))|((with_reducible refine gate_callee (f:=13) rfl ?_);refine goesL_ (some 31) rfl rfl Tryd.func13 (by kernel_rfl) rfl #[.slice A0 l0.length c0] rfl (by (try simp only [List.map_toArray,List.map_cons,List.map_nil]);first|done|rfl|(simp only [List.length_drop,List.length_take];rfl)) ?_;(with_reducible refine (laws_toReNodeS.calls k _ _ l0 t237 _ ?side1 ?side2 A12.out).mono ?_);(case side1=>repeat (first|exact (Kd.C_below HR0.out HB.out)|(with_reducible refine Kd.C_alloc ?_ _)|(with_reducible refine Kd.C_drewN ?_ _)|(with_reducible refine Kd.C_drew ?_)));(case side2=>exact HC0.out);rintro e w22 ⟨v238,rfl,ho0,hb⟩;refine ⟨_,rfl,?_⟩;have n0_:=Aside0.mk (Kd.S_elder' (by (with_reducible repeat (first|apply Kd.S_alloc|apply Kd.S_drewN|apply Kd.S_drew));exact HO231.out) (Kd.S_base ho0) hb);have n1_:=Aside0.mk (Kd.S_elder' (by (with_reducible repeat (first|apply Kd.S_alloc|apply Kd.S_drewN|apply Kd.S_drew));exact HO235.out) (Kd.S_base ho0) hb);have n2_:=Aside0.mk (Kd.S_lower (Kd.S_new' (Kd.S_new' ho0 (Kd.S_lt (by (with_reducible repeat (first|apply Kd.S_alloc|apply Kd.S_drewN|apply Kd.S_drew));exact HO231.out))) (Kd.S_lt (by (with_reducible repeat (first|apply Kd.S_alloc|apply Kd.S_drewN|apply Kd.S_drew));exact HO235.out))) (below_size (by repeat (first|(with_reducible first|exact HB.out|apply below_alloc|apply pw_below_drewN|apply below_drew1)|exact HB.out))));have n3_:=Aside0.mk (below_step (by repeat (first|(with_reducible first|exact HB.out|apply below_alloc|apply pw_below_drewN|apply below_drew1)|exact HB.out)) hb);clear HO231;clear HO235;clear HB;have HO231:=n0_;have HO235:=n1_;have HO239:=n2_;have HB:=n3_;clear n0_ n1_ n2_ n3_;(try clear hb);(try clear hb2);(try clear hk);(try clear hi);(try clear ho0);obtain ⟨Ao23,co23,eo23⟩:=Kd.S_slice HO239.out;subst eo23)|((with_reducible refine gate_callee (f:=15) rfl ?_);refine goesL_ (some 32) rfl rfl Tryd.func15 (by kernel_rfl) rfl #[.slice Ao20 t233.length co20,.slice Ao23 t237.length co23] rfl (by (try simp only [List.map_toArray,List.map_cons,List.map_nil]);first|done|rfl|(simp only [List.length_drop,List.length_take];rfl)) ?_;(with_reducible refine (laws_eqReNodeS.calls k _ _ t233 _ _ t237 true _ ?side1 ?side2 ?side3 ?side4 A13.out).mono ?_);(case side1=>repeat (first|exact (Kd.S_reads' HO235.out).2.2|(with_reducible refine Kd.C_alloc ?_ _)|(with_reducible refine Kd.C_drewN ?_ _)|(with_reducible refine Kd.C_drew ?_)));(case side2=>exact (Kd.S_reads' HO235.out).2.1);(case side3=>repeat (first|exact (Kd.S_reads' HO239.out).2.2|(with_reducible refine Kd.C_alloc ?_ _)|(with_reducible refine Kd.C_drewN ?_ _)|(with_reducible refine Kd.C_drew ?_)));(case side4=>exact (Kd.S_reads' HO239.out).2.1);rintro e w24 ⟨rfl,hb⟩;refine ⟨_,rfl,?_⟩;have n0_:=Aside0.mk (Kd.S_below (by (with_reducible repeat (first|apply Kd.S_alloc|apply Kd.S_drewN|apply Kd.S_drew));exact HO231.out) hb);have n1_:=Aside0.mk (Kd.S_below (by (with_reducible repeat (first|apply Kd.S_alloc|apply Kd.S_drewN|apply Kd.S_drew));exact HO235.out) hb);have n2_:=Aside0.mk (Kd.S_below (by (with_reducible repeat (first|apply Kd.S_alloc|apply Kd.S_drewN|apply Kd.S_drew));exact HO239.out) hb);have n3_:=Aside0.mk (below_step (by repeat (first|(with_reducible first|exact HB.out|apply below_alloc|apply pw_below_drewN|apply below_drew1)|exact HB.out)) hb);clear HO231;clear HO235;clear HO239;clear HB;have HO231:=n0_;have HO235:=n1_;have HO239:=n2_;have HB:=n3_;clear n0_ n1_ n2_ n3_;(try clear hb);(try clear hb2);(try clear hk);(try clear hi)))
     go_ret
     exact ⟨by first|rfl|(rw [HOR_.out];done)|(rw [HOR_.out];rfl)|(simp [HOR_.out];done)|(have h_:=HOR_.out;simp at h_;subst h_;first|rfl|(simp;done))|(have h_:=HOR_.out;simp at h_ ⊢;exact h_)|(simp [errW_none,errW_some] <;> rfl)|(simp [*,errW_none,errW_some] <;> rfl),by repeat (first|(with_reducible first|exact HB.out|apply below_alloc|apply pw_below_drewN|apply below_drew1)|exact HB.out)⟩
    ·replace c14:=Bool.eq_false_iff.mpr c14
     subst c14
     have H1 : (some false) = some true:=by rw [if_neg (show ¬ (false = true) by decide)] at H;exact H
     clear H
     have H:=H1
     clear H1
     exact absurd H (by simp)
end Go.Proofs.YtlakdfbfkbndiaaDoor.Q
namespace Go.Proofs.YtlakdfbfkbndiaaDoor.Q
open Go Go.ChangeShapes Go.WideShapes Go.Deep Go.Proofs.YtlakdfbfkbndiaaDoorW.PrintWords
structure Opens (P : Program) (t : TypeId) {α : Type} (d : Kd α) (good : α → Prop) : Prop where
  sz : P.cellsOf t = d.sz
  get : ∀ {H : Type} {enc : TypeId × Value → H} {w : World} {fuel : Nat} {cs : List Value} {x : DataW H × List MemPlace},
    DataW.trod enc P w 0 (fun _ => true) true fuel t cs = some x → ∃ a, d.K w a cs ∧ good a
theorem opens_int {P : Program} {t : TypeId} {k : IntKind} (ht : P.underlying t = some (.int k)) (hc : P.cellsOf t = 1) : Opens P t (Kd.int k) (fun n => (Lit.int k n).wf = true) :=
  ⟨hc, fun h => by obtain ⟨n, rfl, _, hw⟩ := DataW.trod_int ht h; exact ⟨n, rfl, hw⟩⟩
theorem opens_bool {P : Program} {t : TypeId} (ht : P.underlying t = some .bool) (hc : P.cellsOf t = 1) : Opens P t Kd.bool (fun _ => True) :=
  ⟨hc, fun h => by obtain ⟨n, rfl, _⟩ := DataW.trod_bool ht h; exact ⟨n, rfl, trivial⟩⟩
theorem opens_string {P : Program} {t : TypeId} (ht : P.underlying t = some .string) (hc : P.cellsOf t = 1) : Opens P t Kd.string (fun s => s.size ≤ maxLen) :=
  ⟨hc, fun h => by obtain ⟨s, rfl, _, hs⟩ := DataW.trod_string ht h; exact ⟨s, rfl, hs⟩⟩
def okInt (k : IntKind) (n : Int) : Prop := (Lit.int k n).wf = true
def okStr (s : ByteArray) : Prop := s.size ≤ maxLen
def okBool (_ : Bool) : Prop := True
theorem open_int_ok {P : Program} {t : TypeId} {k : IntKind} (ht : P.underlying t = some (.int k)) (hc : P.cellsOf t = 1) : Opens P t (Kd.int k) (okInt k) := opens_int ht hc
theorem open_bool_ok {P : Program} {t : TypeId} (ht : P.underlying t = some .bool) (hc : P.cellsOf t = 1) : Opens P t Kd.bool okBool := opens_bool ht hc
theorem open_str_ok {P : Program} {t : TypeId} (ht : P.underlying t = some .string) (hc : P.cellsOf t = 1) : Opens P t Kd.string okStr := opens_string ht hc
theorem list_of {α : Type} (Q : Nat → α → Prop) : ∀ (n : Nat), (∀ i, i < n → ∃ a, Q i a) → ∃ l : List α, l.length = n ∧ ∀ i a, l[i]? = some a → Q i a
  | 0, _ => ⟨[], rfl, fun i a h => by simp at h⟩
  | n + 1, h => by
    obtain ⟨l, hl, hq⟩ := list_of Q n (fun i hi => h i (by omega))
    obtain ⟨a, ha⟩ := h n (by omega)
    refine ⟨l ++ [a], by simp [hl], fun i b hb => ?_⟩
    by_cases hi : i < l.length
    · rw [List.getElem?_append_left hi] at hb; exact hq i b hb
    · rw [List.getElem?_append_right (by omega)] at hb
      have : i - l.length = 0 := by
        have := (List.getElem?_eq_some_iff.1 hb).1
        simp at this; omega
      rw [this] at hb
      simp at hb
      obtain rfl : i = n := by omega
      exact hb ▸ ha
theorem slice_reads {P : Program} {t e : TypeId} {α : Type} {d : Kd α} {good : α → Prop} (ht : P.underlying t = some (.slice e)) (hd : Opens P e d good) {H : Type} {enc : TypeId × Value → H} {w : World} {fuel : Nat} {cs : List Value} {x : DataW H × List MemPlace}
    (h : DataW.trod enc P w 0 (fun _ => true) true fuel t cs = some x) :
    ∃ (A : Option Addr) (c : Nat) (l : List α), cs = [.slice A l.length c] ∧ l.length ≤ c ∧ d.C w A l.length l ∧ l.length ≤ maxLen ∧ ∀ a ∈ l, good a := by
  rcases open_slice ht h with ⟨rfl, _⟩ | ⟨a, len, cap, m, n, D, Pl, rfl, _, hl, hm, hmm, _, hi⟩
  · exact ⟨none, 0, [], rfl, Nat.le_refl _, ⟨rfl, by simp, fun h => by simp at h⟩, by simp, fun a ha => by simp at ha⟩
  · simp only [if_true] at hmm
    obtain ⟨l, hll, hq⟩ := list_of (fun i b => good b ∧ ∃ cs', w.cells? 0 (a.add (i * P.cellsOf e)) (P.cellsOf e) = some cs' ∧ d.K w b cs') len (fun i hil => by
      obtain ⟨cs', hc, ht'⟩ := hi i (by omega)
      obtain ⟨b, hb, hg⟩ := hd.get ht'
      exact ⟨b, hg, cs', hc, hb⟩)
    subst hll
    refine ⟨some a, cap, l, rfl, hl, ⟨rfl, by unfold maxLen at hm; omega, fun _ => ⟨a, rfl, fun j p hj => ?_⟩⟩, by omega, fun b hb => ?_⟩
    · obtain ⟨_, cs', hc, hK⟩ := hq j p hj
      refine ⟨cs', d.K_len hK, hK, fun i u hu => ?_⟩
      rw [hd.sz] at hc
      obtain ⟨_, hcl, hat⟩ := World.cells?_some hc
      have hil : i < d.sz := by
        have := (List.getElem?_eq_some_iff.1 hu).1
        rw [d.K_len hK] at this; exact this
      have h1 := hat i hil
      rw [Go.Deep.add_add] at h1
      exact h1.trans hu
    · obtain ⟨i, hi', rfl⟩ := List.getElem_of_mem hb
      exact (hq i _ (List.getElem?_eq_getElem hi')).1
theorem opens_slice {P : Program} {t e : TypeId} {α : Type} {d : Kd α} {good : α → Prop} (ht : P.underlying t = some (.slice e)) (hc : P.cellsOf t = 1) (hd : Opens P e d good) :
    Opens P t (Kd.slice e d) (fun l => l.length ≤ maxLen ∧ ∀ a ∈ l, good a) :=
  ⟨hc, fun h => by
    obtain ⟨A, c, l, rfl, h1, h2, h3, h4⟩ := slice_reads ht hd h
    exact ⟨l, ⟨A, c, rfl, h1, h2⟩, h3, h4⟩⟩
def OpensF (P : Program) (fs : List Field) {α : Type} (d : Kd α) (good : α → Prop) : Prop :=
  ∀ {H : Type} {enc : TypeId × Value → H} {w : World} {n : Nat} {cs : List Value}, cs.length = fs.length →
    (∀ (i : Nat) (f : Field) (v : Value), fs[i]? = some f → cs[i]? = some v → ∃ y, DataW.trod enc P w 0 (fun _ => true) true n f.type [v] = some y) → ∃ a, d.K w a cs ∧ good a
theorem opensF_one {P : Program} {f : Field} {α : Type} {d : Kd α} {good : α → Prop} (h : Opens P f.type d good) : OpensF P [f] d good := fun {H enc w n cs} hl hf => by
  match cs, hl with
  | [v], _ =>
    obtain ⟨y, hy⟩ := hf 0 f v rfl rfl
    exact h.get hy
theorem opensF_cons {P : Program} {f : Field} {fs : List Field} {α β : Type} {d : Kd α} {d' : Kd β} {good : α → Prop} {good' : β → Prop} (h : Opens P f.type d good) (h' : OpensF P fs d' good') :
    OpensF P (f :: fs) (Kd.pair d d') (fun p => good p.1 ∧ good' p.2) := fun {H enc w n cs} hl hf => by
  match cs, hl with
  | v :: r, hl =>
    obtain ⟨y, hy⟩ := hf 0 f v rfl rfl
    obtain ⟨a, ha, hg⟩ := h.get hy
    obtain ⟨b, hb, hg'⟩ := h' (w := w) (n := n) (cs := r) (by simpa using hl) (fun i f' v' h1 h2 => hf (i + 1) f' v' (by simpa using h1) (by simpa using h2))
    exact ⟨(a, b), ⟨[v], r, rfl, ha, hb⟩, hg, hg'⟩
theorem opens_struct {P : Program} {t : TypeId} {fs : Array Field} {α β : Type} {d : Kd α} {good : α → Prop} (f : β → α) (g : α → β) (hfg : ∀ a, f (g a) = a) (ht : P.underlying t = some (.struct fs)) (hone : oneCellFields P fs = true) (hc : P.cellsOf t = fs.size) (hd : d.sz = fs.size)
    (h : OpensF P fs.toList d good) : Opens P t (Kd.iso d f) (fun b => good (f b)) :=
  ⟨hc.trans hd.symm, fun {H enc w fuel cs x} hx => by
    obtain ⟨ys, n, rfl, hy, hlen, hyl, hf⟩ := DataW.trod_struct ht hx
    obtain ⟨a, ha, hg⟩ := h (enc := enc) (w := w) (n := n) (cs := cs) (by rw [hlen, hc]; simp) (fun i fi v hi hv => by
      have hi' : fs[i]? = some fi := by simpa using hi
      obtain ⟨ho, hk⟩ := hone_of hone i fi hi'
      have hil : i < fs.size := (Array.getElem?_eq_some_iff.1 hi').1
      have h1 := hf i fi hi'
      rw [ho, hk] at h1
      have h2 : (cs.drop i).take 1 = [v] := by
        obtain ⟨hlt, rfl⟩ := List.getElem?_eq_some_iff.1 hv
        rw [List.drop_eq_getElem_cons hlt]; rfl
      rw [h2] at h1
      exact ⟨_, h1.trans (List.getElem?_eq_getElem (by omega))⟩)
    exact ⟨g a, by show d.K w (f (g a)) cs; rw [hfg]; exact ha, by rw [hfg]; exact hg⟩⟩
end Go.Proofs.YtlakdfbfkbndiaaDoor.Q
namespace Go.Proofs.YtlakdfbfkbndiaaDoor.Q
open Go.RowKit Go.Proofs.YtlakdfbfkbndiaaDoor.Re Go.Proofs.YtlakdfbfkbndiaaDoorW.PrintWords Go.Proofs.YtlakdfbfkbndiaaDoorW.PrintLast Go.Proofs.YtlakdfbfkbndiaaDoorW.PrintMore
theorem l2in_l0 (s : ByteArray) (neg : Bool) (c f0 : Int) (f3 : List Int) (hs : s.size ≤ 1099511627776) : ∀ (d i k : Nat), i + 2 * d = s.size → d < k → spec_l2in.l0 k c (i : Int) f0 neg s f3 = some (inFrom s neg c d i)
  | 0, i, 0, _, hk => absurd hk (by omega)
  | 0, i, k + 1, hi, _ => by
    have w1 : wrap64 ((i : Int) + 1) = ((i + 1 : Nat) : Int) := by unfold wrap64; omega
    simp only [spec_l2in.l0]
    rw [w1, if_neg (by omega)]; rfl
  | d + 1, i, 0, _, hk => absurd hk (by omega)
  | d + 1, i, k + 1, hi, hk => by
    have w1 : wrap64 ((i : Int) + 1) = ((i + 1 : Nat) : Int) := by unfold wrap64; omega
    have w2 : wrap64 ((i : Int) + 2) = ((i + 2 : Nat) : Int) := by unfold wrap64; omega
    simp only [spec_l2in.l0, inFrom]
    rw [w1, w2, if_pos (by omega), if_pos (by omega), if_pos (by omega), l2in_l0 s neg c f0 f3 hs d (i + 2) k (by omega) (by omega)]
    by_cases h1 : c ≥ bt s (i : Int)
    · rw [if_pos h1, if_pos (by omega)]
      by_cases h2 : c ≤ bt s ((i + 1 : Nat) : Int)
      · rw [if_pos h2, if_pos ⟨h1, h2⟩]
      · rw [if_neg h2, if_neg (fun h => h2 h.2)]
    · rw [if_neg h1, if_neg (fun h => h1 h.1)]
theorem l2in_eq (x : S49) (c : Int) (he : x.f2.size % 2 = 0) (hs : x.f2.size ≤ 1099511627776) (k : Nat) (hk : 1099511627777 ≤ k) : spec_l2in.f k x.f0 x.f1 x.f2 x.f3 c = some (inS x c) :=
  l2in_l0 x.f2 x.f1 c x.f0 x.f3 hs (x.f2.size / 2) 0 _ (by omega) (by omega)
def falses : List Bool → Nat
  | [] => 0
  | b :: r => (if b = true then 0 else 1) + falses r
theorem falses_set : ∀ (l : List Bool) (q : Nat), q < l.length → l.getD q false = false → falses (l.set q true) + 1 = falses l
  | [], q, h, _ => absurd h (by simp)
  | b :: r, 0, _, h => by
    have h : b = false := h
    subst h
    simp [falses]; omega
  | b :: r, q + 1, h, h2 => by
    have := falses_set r q (by simpa using h) (by simpa using h2)
    simp only [List.set_cons_succ, falses]
    omega
theorem getD_set (l : List Bool) (q p : Nat) (hq : q < l.length) : (l.set q true).getD p false = true ↔ l.getD p false = true ∨ p = q := by
  rw [List.getD_eq_getElem?_getD, List.getD_eq_getElem?_getD, List.getElem?_set]
  by_cases h : q = p
  · subst h; simp [hq]
  · rw [if_neg h]
    constructor
    · exact .inl
    · rintro (h1 | h1)
      · exact h1
      · exact absurd h1.symm h
end Go.Proofs.YtlakdfbfkbndiaaDoor.Q
namespace Go.Proofs.YtlakdfbfkbndiaaDoor.Q
open Go.RowKit Go.Proofs.YtlakdfbfkbndiaaDoor.Re Go.Proofs.YtlakdfbfkbndiaaDoorW.PrintWords Go.Proofs.YtlakdfbfkbndiaaDoorW.PrintLast Go.Proofs.YtlakdfbfkbndiaaDoorW.PrintMore
section
variable (l : List S49) (s : ByteArray)
def epsB (e : Re.Way) (t : Nat) : Bool := decide (e.2.2 < 0) || ((decide ((nodeAt l e.2.2.toNat).f0 = 1) && decide (t = 0)) || (decide ((nodeAt l e.2.2.toNat).f0 = 2) && decide (t = s.size)))
def passL (t : Nat) : List Re.Way → List Bool → Bool → List Bool × Bool
  | [], m, b => (m, b)
  | e :: r, m, b => if (m.getD e.1.toNat false && !m.getD e.2.1.toNat false && epsB l s e t) = true then passL t r (m.set e.2.1.toNat true) true else passL t r m b
structure WaysIn (E : List Re.Way) (N : Nat) : Prop where
  lo : ∀ e, e ∈ E → 0 ≤ e.1 ∧ e.1 < N ∧ 0 ≤ e.2.1 ∧ e.2.1 < N
  node : ∀ e, e ∈ E → e.2.2 < l.length ∧ (0 ≤ e.2.2 → (nodeAt l e.2.2.toNat).f0 < 3 ∧ 0 ≤ (nodeAt l e.2.2.toNat).f0)
  len : E.length ≤ 1000000
  cnt : N ≤ 1000000
  two : 2 ≤ N
end
end Go.Proofs.YtlakdfbfkbndiaaDoor.Q
namespace Go.Proofs.YtlakdfbfkbndiaaDoor.Q
open Go.RowKit Go.Proofs.YtlakdfbfkbndiaaDoor.Re Go.Proofs.YtlakdfbfkbndiaaDoorW.PrintWords Go.Proofs.YtlakdfbfkbndiaaDoorW.PrintLast Go.Proofs.YtlakdfbfkbndiaaDoorW.PrintMore
section
variable (l : List S49) (s : ByteArray)
variable {l s} {E : List Re.Way} {N : Nat}
theorem rd_toE (E : List Re.Way) (i : Nat) (hi : i < E.length) : rd_T85 (E.map toE) (i : Int) = toE (E.getD i (0, 0, 0)) := by
  unfold rd_T85
  rw [Int.toNat_natCast, List.getD_eq_getElem?_getD, List.getD_eq_getElem?_getD, List.getElem?_map, List.getElem?_eq_getElem hi]; rfl
theorem rdOf_get (m : List Bool) (q : Int) (h : 0 ≤ q) : rdOf false m q = m.getD q.toNat false := by
  unfold rdOf
  first | rfl | simp
theorem close_l1 (hW : WaysIn l E N) (hs : s.size ≤ 500) (t : Nat) : ∀ (d i : Nat), i + d = E.length → ∀ (k : Nat) (m : List Bool) (b : Bool), m.length = N →
    spec_l2close.l1 (k + 2 * d + 1) l s (t : Int) m b (i : Int) (E.map toE) (N : Int) = spec_l2close.l0 k l s (t : Int) (passL l s t (E.drop i) m b).1 (passL l s t (E.drop i) m b).2 (E.map toE) (N : Int)
  | 0, i, hi, k, m, b, hm => by
    simp only [spec_l2close.l1]
    rw [if_neg (by rw [List.length_map]; omega), List.drop_eq_nil_of_le (by omega)]
    rfl
  | d + 1, i, hi, k, m, b, hm => by
    have hlt : i < E.length := by omega
    have hd : E.drop i = E.getD i (0, 0, 0) :: E.drop (i + 1) := by
      rw [List.drop_eq_getElem_cons hlt, List.getD_eq_getElem?_getD, List.getElem?_eq_getElem hlt]; rfl
    have hmem : E.getD i (0, 0, 0) ∈ E := by
      rw [List.getD_eq_getElem?_getD, List.getElem?_eq_getElem hlt]; exact List.getElem_mem hlt
    have hr := rd_toE E i hlt
    generalize E.getD i (0, 0, 0) = e at hd hmem hr
    obtain ⟨a0, a1, b0, b1⟩ := hW.lo e hmem
    obtain ⟨n1, n2⟩ := hW.node e hmem
    have hlen := hW.len
    have wi : wrap64 ((i : Int) + 1) = ((i + 1 : Nat) : Int) := by clear n1 n2 hd hmem hr; unfold wrap64; omega
    have q1 : (i : Int) < ((E.map toE).length : Int) := by rw [List.length_map]; exact Int.ofNat_lt.mpr hlt
    have q2 : (0 : Int) ≤ (i : Int) := Int.natCast_nonneg i
    have q3 : e.1 < (m.length : Int) := by rw [hm]; exact a1
    have q4 : e.2.1 < (m.length : Int) := by rw [hm]; exact b1
    clear hlen
    have ih := fun (m : List Bool) (b : Bool) (hm : m.length = N) => close_l1 hW hs t d (i + 1) (by omega) k m b hm
    have e1 : k + 2 * (d + 1) + 1 = (k + 2 * d + 1) + 1 + 1 := by omega
    rw [e1]
    simp only [spec_l2close.l1]
    have hf : (rd_T85 (E.map toE) (i : Int)).f0 = e.1 ∧ (rd_T85 (E.map toE) (i : Int)).f1 = e.2.1 ∧ (rd_T85 (E.map toE) (i : Int)).f2 = e.2.2 := by rw [hr]; exact ⟨rfl, rfl, rfl⟩
    rw [hf.1, hf.2.1, hf.2.2, if_pos q1, if_pos q2, if_pos a0, if_pos q3, rdOf_get m e.1 a0, rdOf_get m e.2.1 b0, hd]
    have key : ∀ q : Bool, q = m.getD e.2.1.toNat false → (m.getD e.1.toNat false = true) → spec_l2close.j2 (k + 2 * d + 1 + 1) l s (t : Int) m b (i : Int) q (E.map toE) (N : Int) e.1 e.2.1 e.2.2 =
        spec_l2close.l0 k l s (t : Int) (passL l s t (e :: E.drop (i + 1)) m b).1 (passL l s t (e :: E.drop (i + 1)) m b).2 (E.map toE) (N : Int) := fun q hq hfrom => by
      simp only [spec_l2close.j2, passL]
      rw [wi, hfrom]
      cases q with
      | true =>
        rw [if_pos rfl, ← hq, if_neg (by simp)]
        exact ih m b hm
      | false =>
        rw [if_neg (by decide), ← hq]
        have hset : (m.set e.2.1.toNat true).length = N := by rw [List.length_set, hm]
        by_cases c1 : e.2.2 < 0
        · rw [if_pos c1, if_pos b0, if_pos q4, if_pos (by simp [epsB, c1])]
          exact ih _ true hset
        · rw [if_neg c1, if_pos (Int.not_lt.mp c1), if_pos n1]
          have hn : rd_T49 l e.2.2 = nodeAt l e.2.2.toNat := by unfold nodeAt rd_T49; rw [Int.toNat_natCast]
          rw [hn]
          by_cases c2 : (nodeAt l e.2.2.toNat).f0 = 1
          · rw [if_pos c2, if_neg (show ¬ (nodeAt l e.2.2.toNat).f0 = 2 by rw [c2]; decide)]
            by_cases c3 : t = 0
            · rw [if_pos (show (t : Int) = 0 by rw [c3]; rfl), if_pos b0, if_pos q4, if_pos (by simp [epsB, c2, c3])]
              exact ih _ true hset
            · rw [if_neg (show ¬ (t : Int) = 0 from fun h => c3 (Int.ofNat.inj h)), if_neg (by simp [epsB, c1, c2, c3])]
              exact ih m b hm
          · rw [if_neg c2]
            by_cases c4 : (nodeAt l e.2.2.toNat).f0 = 2
            · rw [if_pos c4]
              by_cases c3 : t = s.size
              · rw [if_pos (show (t : Int) = (s.size : Int) by rw [c3]), if_pos b0, if_pos q4, if_pos (by simp [epsB, c4, c3])]
                exact ih _ true hset
              · rw [if_neg (show ¬ (t : Int) = (s.size : Int) from fun h => c3 (Int.ofNat.inj h)), if_neg (by simp [epsB, c1, c2, c4, c3])]
                exact ih m b hm
            · rw [if_neg c4, if_neg (by simp [epsB, c1, c2, c4])]
              exact ih m b hm
    by_cases hfrom : m.getD e.1.toNat false = true
    · rw [if_pos hfrom, if_pos b0, if_pos q4]
      exact key _ rfl hfrom
    · rw [if_neg hfrom]
      have hfrom : m.getD e.1.toNat false = false := by simpa using hfrom
      simp only [spec_l2close.j2, passL]
      rw [if_pos trivial, wi, hfrom, if_neg (by simp)]
      exact ih m b hm
end
end Go.Proofs.YtlakdfbfkbndiaaDoor.Q
namespace Go.Proofs.YtlakdfbfkbndiaaDoor.Q
open Go.RowKit Go.Proofs.YtlakdfbfkbndiaaDoor.Re Go.Proofs.YtlakdfbfkbndiaaDoorW.PrintWords Go.Proofs.YtlakdfbfkbndiaaDoorW.PrintLast Go.Proofs.YtlakdfbfkbndiaaDoorW.PrintMore
def Ev {α : Type} (g : Nat → Option α) (r : α) : Prop := ∃ K, ∀ k, K ≤ k → g k = some r
theorem Ev.mk {α : Type} {g : Nat → Option α} {r : α} (h : ∀ k, g k = some r) : Ev g r := ⟨0, fun k _ => h k⟩
theorem Ev.congr {α : Type} {f g : Nat → Option α} {r : α} (h : Ev f r) (e : ∀ k, g k = f k) : Ev g r := by
  obtain ⟨K, hK⟩ := h
  exact ⟨K, fun k hk => (e k).trans (hK k hk)⟩
theorem Ev.succ {α : Type} {g : Nat → Option α} {r : α} (h : Ev (fun k => g (k + 1)) r) : Ev g r := by
  obtain ⟨K, hK⟩ := h
  exact ⟨K + 1, fun k hk => by obtain ⟨j, rfl⟩ : ∃ j, k = j + 1 := ⟨k - 1, by omega⟩; exact hK j (by omega)⟩
theorem Ev.add {α : Type} {g : Nat → Option α} {r : α} (n : Nat) (h : Ev (fun k => g (k + n)) r) : Ev g r := by
  obtain ⟨K, hK⟩ := h
  exact ⟨K + n, fun k hk => by obtain ⟨j, rfl⟩ : ∃ j, k = j + n := ⟨k - n, by omega⟩; exact hK j (by omega)⟩
theorem Ev.up {α : Type} {g : Nat → Option α} {r : α} (n : Nat) (h : Ev g r) : Ev (fun k => g (k + n)) r := by
  obtain ⟨K, hK⟩ := h
  exact ⟨K, fun k hk => hK (k + n) (by omega)⟩
theorem Ev.bind {α β : Type} {f : Nat → Option α} {g : Nat → α → Option β} {a : α} {r : β} (h : Ev f a) (h2 : Ev (fun k => g k a) r) : Ev (fun k => (f k).bind (g k)) r := by
  obtain ⟨K, hK⟩ := h
  obtain ⟨M, hM⟩ := h2
  exact ⟨K + M, fun k hk => by show (f k).bind (g k) = some r; rw [hK k (by omega)]; exact hM k (by omega)⟩
inductive Eps (l : List S49) (s : ByteArray) (E : List Re.Way) (t : Nat) (m : List Bool) : Nat → Prop
  | base {q : Nat} : m.getD q false = true → Eps l s E t m q
  | step {e : Re.Way} : e ∈ E → epsB l s e t = true → Eps l s E t m e.1.toNat → Eps l s E t m e.2.1.toNat
end Go.Proofs.YtlakdfbfkbndiaaDoor.Q
namespace Go.Proofs.YtlakdfbfkbndiaaDoor.Q
open Go.RowKit Go.Proofs.YtlakdfbfkbndiaaDoor.Re Go.Proofs.YtlakdfbfkbndiaaDoorW.PrintWords Go.Proofs.YtlakdfbfkbndiaaDoorW.PrintLast Go.Proofs.YtlakdfbfkbndiaaDoorW.PrintMore
section
variable {l : List S49} {s : ByteArray} {E : List Re.Way} {N : Nat} {t : Nat}
theorem Eps.trans {m m1 : List Bool} (h : ∀ q, m1.getD q false = true → Eps l s E t m q) {q : Nat} (g : Eps l s E t m1 q) : Eps l s E t m q := by
  induction g with
  | base h1 => exact h _ h1
  | step he hb _ ih => exact .step he hb ih
theorem passL_spec (m0 : List Bool) : ∀ (r : List Re.Way) (m : List Bool) (b : Bool), (∀ e, e ∈ r → e ∈ E ∧ e.2.1.toNat < m.length) → (∀ q, m.getD q false = true → Eps l s E t m0 q) →
    (passL l s t r m b).1.length = m.length ∧ (∀ q, m.getD q false = true → (passL l s t r m b).1.getD q false = true) ∧ (∀ q, (passL l s t r m b).1.getD q false = true → Eps l s E t m0 q) ∧
    falses (passL l s t r m b).1 ≤ falses m ∧ ((passL l s t r m b).2 = true → b = true ∨ falses (passL l s t r m b).1 < falses m) ∧
    ((passL l s t r m b).2 = false → b = false ∧ (passL l s t r m b).1 = m ∧ ∀ e, e ∈ r → m.getD e.1.toNat false = true → epsB l s e t = true → m.getD e.2.1.toNat false = true)
  | [], m, b, _, h => ⟨rfl, fun _ h => h, h, Nat.le_refl _, fun h => .inl h, fun h => ⟨h, rfl, fun e he => absurd he List.not_mem_nil⟩⟩
  | e :: r, m, b, hr, h => by
    simp only [passL]
    by_cases c : (m.getD e.1.toNat false && !m.getD e.2.1.toNat false && epsB l s e t) = true
    · rw [if_pos c]
      simp only [Bool.and_eq_true, Bool.not_eq_true'] at c
      obtain ⟨⟨c1, c2⟩, c3⟩ := c
      obtain ⟨hE, hlt⟩ := hr e List.mem_cons_self
      have hm : ∀ q, (m.set e.2.1.toNat true).getD q false = true → Eps l s E t m0 q := fun q hq => by
        rcases (getD_set m _ q hlt).mp hq with h1 | h1
        · exact h q h1
        · rw [h1]; exact .step hE c3 (h _ c1)
      obtain ⟨p1, p2, p3, p4, p5, p6⟩ := passL_spec m0 r (m.set e.2.1.toNat true) true (fun e' he' => by rw [List.length_set]; exact hr e' (List.mem_cons_of_mem _ he')) hm
      have hf := falses_set m _ hlt c2
      refine ⟨by rw [p1, List.length_set], fun q hq => p2 q ((getD_set m _ q hlt).mpr (.inl hq)), p3, by omega, fun _ => .inr (by omega), fun h0 => ?_⟩
      exact absurd (p6 h0).1 (by decide)
    · rw [if_neg c]
      obtain ⟨p1, p2, p3, p4, p5, p6⟩ := passL_spec m0 r m b (fun e' he' => hr e' (List.mem_cons_of_mem _ he')) h
      refine ⟨p1, p2, p3, p4, p5, fun h0 => ?_⟩
      obtain ⟨q1, q2, q3⟩ := p6 h0
      refine ⟨q1, q2, fun e' he' h1 h2 => ?_⟩
      rcases List.mem_cons.mp he' with rfl | h3
      · rw [h1, h2] at c
        cases h4 : m.getD e'.2.1.toNat false with
        | true => rfl
        | false => rw [h4] at c; exact absurd rfl c
      · exact q3 e' h3 h1 h2
theorem close_ev (hW : WaysIn l E N) (hs : s.size ≤ 500) (t : Nat) : ∀ (n : Nat) (m : List Bool), falses m ≤ n → m.length = N →
    ∃ m', m'.length = N ∧ (∀ q, m'.getD q false = true ↔ Eps l s E t m q) ∧ Ev (fun k => spec_l2close.l0 k l s (t : Int) m true (E.map toE) (N : Int)) m' := by
  intro n
  induction n using Nat.strongRecOn with
  | _ n ih =>
    intro m hn hm
    have hr : ∀ e, e ∈ E → e ∈ E ∧ e.2.1.toNat < m.length := fun e he => ⟨he, by have := hW.lo e he; omega⟩
    obtain ⟨p1, p2, p3, p4, p5, p6⟩ := passL_spec (l := l) (s := s) (E := E) (t := t) m E m false hr (fun q hq => .base hq)
    have hstep : ∀ k, spec_l2close.l0 (k + 2 * E.length + 2) l s (t : Int) m true (E.map toE) (N : Int) = spec_l2close.l0 k l s (t : Int) (passL l s t E m false).1 (passL l s t E m false).2 (E.map toE) (N : Int) := fun k => by
      have h1 := close_l1 hW hs t E.length 0 (by omega) k m false hm
      rw [List.drop_zero] at h1
      rw [← h1]
      rw [show k + 2 * E.length + 2 = (k + 2 * E.length + 1) + 1 by omega]
      simp only [spec_l2close.l0, if_true]
      rfl
    generalize passL l s t E m false = r at p1 p2 p3 p4 p5 p6 hstep
    obtain ⟨m1, b1⟩ := r
    dsimp only at p1 p2 p3 p4 p5 p6 hstep
    cases b1 with
    | false =>
      obtain ⟨_, rfl, q3⟩ := p6 rfl
      refine ⟨m1, hm, fun q => ⟨.base, fun h => ?_⟩, ?_⟩
      · induction h with
        | base h => exact h
        | step he hb _ ih => exact q3 _ he ih hb
      · refine Ev.add (2 * E.length + 2) (Ev.succ (Ev.mk fun k => ?_))
        show spec_l2close.l0 (k + 1 + (2 * E.length + 2)) l s (t : Int) m1 true (E.map toE) (N : Int) = some m1
        rw [← Nat.add_assoc, hstep (k + 1)]
        simp [spec_l2close.l0]
    | true =>
      have hlt : falses m1 < falses m := (p5 rfl).resolve_left (by decide)
      obtain ⟨m', g1, g2, g3⟩ := ih (falses m1) (by omega) m1 (Nat.le_refl _) (by omega)
      refine ⟨m', g1, fun q => (g2 q).trans ⟨Eps.trans p3, Eps.trans fun q hq => .base (p2 q hq)⟩, ?_⟩
      refine Ev.add (2 * E.length + 2) (Ev.congr g3 fun k => ?_)
      show spec_l2close.l0 (k + (2 * E.length + 2)) l s (t : Int) m true (E.map toE) (N : Int) = _
      rw [← Nat.add_assoc, hstep k]
def setB (l : List S49) (s : ByteArray) (e : Re.Way) (t : Nat) : Bool := decide (0 ≤ e.2.2) && (decide ((nodeAt l e.2.2.toNat).f0 = 0) && inS (nodeAt l e.2.2.toNat) (bt s t))
def nextL (l : List S49) (s : ByteArray) (t : Nat) (m : List Bool) : List Re.Way → List Bool → List Bool
  | [], x => x
  | e :: r, x => if (m.getD e.1.toNat false && setB l s e t) = true then nextL l s t m r (x.set e.2.1.toNat true) else nextL l s t m r x
theorem nextL_spec (m : List Bool) : ∀ (r : List Re.Way) (x : List Bool), (∀ e, e ∈ r → e.2.1.toNat < x.length) →
    (nextL l s t m r x).length = x.length ∧ ∀ q, (nextL l s t m r x).getD q false = true ↔ x.getD q false = true ∨ ∃ e, e ∈ r ∧ m.getD e.1.toNat false = true ∧ setB l s e t = true ∧ q = e.2.1.toNat
  | [], x, _ => ⟨rfl, fun q => by simp [nextL]⟩
  | e :: r, x, h => by
    simp only [nextL]
    have hlt := h e List.mem_cons_self
    by_cases c : (m.getD e.1.toNat false && setB l s e t) = true
    · rw [if_pos c]
      rw [Bool.and_eq_true] at c
      obtain ⟨p1, p2⟩ := nextL_spec m r (x.set e.2.1.toNat true) (fun e' he' => by rw [List.length_set]; exact h e' (List.mem_cons_of_mem _ he'))
      refine ⟨by rw [p1, List.length_set], fun q => ?_⟩
      rw [p2 q, getD_set x _ q hlt]
      constructor
      · rintro ((h1 | h1) | ⟨e', he', h2⟩)
        · exact .inl h1
        · exact .inr ⟨e, List.mem_cons_self, c.1, c.2, h1⟩
        · exact .inr ⟨e', List.mem_cons_of_mem _ he', h2⟩
      · rintro (h1 | ⟨e', he', h2, h3, h4⟩)
        · exact .inl (.inl h1)
        · rcases List.mem_cons.mp he' with rfl | h5
          · exact .inl (.inr h4)
          · exact .inr ⟨e', h5, h2, h3, h4⟩
    · rw [if_neg c]
      obtain ⟨p1, p2⟩ := nextL_spec m r x (fun e' he' => h e' (List.mem_cons_of_mem _ he'))
      refine ⟨p1, fun q => ?_⟩
      rw [p2 q]
      constructor
      · rintro (h1 | ⟨e', he', h2⟩)
        · exact .inl h1
        · exact .inr ⟨e', List.mem_cons_of_mem _ he', h2⟩
      · rintro (h1 | ⟨e', he', h2, h3, h4⟩)
        · exact .inl h1
        · rcases List.mem_cons.mp he' with rfl | h5
          · exact absurd (by rw [h2, h3]; rfl) c
          · exact .inr ⟨e', h5, h2, h3, h4⟩
end
end Go.Proofs.YtlakdfbfkbndiaaDoor.Q
namespace Go.Proofs.YtlakdfbfkbndiaaDoor.Q
open Go.RowKit Go.Proofs.YtlakdfbfkbndiaaDoor.Re Go.Proofs.YtlakdfbfkbndiaaDoorW.PrintWords Go.Proofs.YtlakdfbfkbndiaaDoorW.PrintLast Go.Proofs.YtlakdfbfkbndiaaDoorW.PrintMore
theorem toList_nil (s : ByteArray) : s.toList = ([] : List UInt8) ↔ s.size = 0 := by
  have h : s.toList.length = s.size := by simp [ByteArray.toList_eq, Array.length_toList]
  constructor
  · intro e; rw [e] at h; exact h.symm
  · intro e; rw [e] at h; exact List.eq_nil_of_length_eq_zero h
def pairsB (s : ByteArray) : Nat → Nat → Bool
  | 0, _ => true
  | d + 1, i => if bt s ((i + 1 : Nat) : Int) < bt s (i : Int) then false else pairsB s d (i + 2)
def nodeB (x : S49) : Bool :=
  if x.f0 = 0 then (if x.f2.size % 2 = 0 ∧ x.f3.length = 0 ∧ ¬ (x.f2.size = 0 ∧ x.f1 = false) then pairsB x.f2 (x.f2.size / 2) 0 else false)
  else if x.f1 = true ∨ x.f2.size ≠ 0 then false
  else if x.f0 = 1 ∨ x.f0 = 2 then decide (x.f3.length = 0)
  else if x.f0 = 3 ∨ x.f0 = 4 then decide (2 ≤ x.f3.length)
  else if x.f0 = 5 ∨ x.f0 = 6 ∨ x.f0 = 7 then decide (x.f3.length = 1)
  else false
theorem implPairs (f0 : Int) (neg : Bool) (s : ByteArray) (f3 : List Int) (hs : s.size ≤ 1099511627776) : ∀ (d i k : Nat), i + 2 * d = s.size → d < k → impl_isReNode.l0 k (i : Int) f0 neg s f3 = some (pairsB s d i)
  | 0, i, 0, _, hk => absurd hk (by omega)
  | 0, i, k + 1, hi, _ => by
    simp only [impl_isReNode.l0]
    rw [if_neg (by omega)]; rfl
  | d + 1, i, 0, _, hk => absurd hk (by omega)
  | d + 1, i, k + 1, hi, hk => by
    have w1 : wrap64 ((i : Int) + 1) = ((i + 1 : Nat) : Int) := by unfold wrap64; omega
    have w2 : wrap64 ((i : Int) + 2) = ((i + 2 : Nat) : Int) := by unfold wrap64; omega
    simp only [impl_isReNode.l0, pairsB]
    rw [w1, w2, if_pos (by omega), if_pos (by omega), if_pos (by omega), if_pos (by omega), implPairs f0 neg s f3 hs d (i + 2) k (by omega) (by omega)]
    split <;> rfl
theorem specPairs (f0 : Int) (neg : Bool) (s : ByteArray) (f3 : List Int) (hs : s.size ≤ 1099511627776) : ∀ (d i k : Nat), i + 2 * d = s.size → d < k → spec_l2pairs.l0 k (i : Int) f0 neg s f3 = some (pairsB s d i)
  | 0, i, 0, _, hk => absurd hk (by omega)
  | 0, i, k + 1, hi, _ => by
    have w1 : wrap64 ((i : Int) + 1) = ((i + 1 : Nat) : Int) := by unfold wrap64; omega
    simp only [spec_l2pairs.l0]
    rw [w1, if_neg (by omega)]; rfl
  | d + 1, i, 0, _, hk => absurd hk (by omega)
  | d + 1, i, k + 1, hi, hk => by
    have w1 : wrap64 ((i : Int) + 1) = ((i + 1 : Nat) : Int) := by unfold wrap64; omega
    have w2 : wrap64 ((i : Int) + 2) = ((i + 2 : Nat) : Int) := by unfold wrap64; omega
    simp only [spec_l2pairs.l0, pairsB]
    rw [w1, w2, if_pos (by omega), if_pos (by omega), if_pos (by omega), if_pos (by omega), specPairs f0 neg s f3 hs d (i + 2) k (by omega) (by omega)]
    split <;> rfl
theorem implNode_ev (x : S49) (hs : x.f2.size ≤ 1099511627776) : Ev (fun k => impl_isReNode.f k x.f0 x.f1 x.f2 x.f3) (nodeB x) := by
  obtain ⟨f0, neg, s, f3⟩ := x
  dsimp only at hs ⊢
  refine ⟨s.size + 10, fun k hk => ?_⟩
  obtain ⟨k, rfl⟩ : ∃ j, k = j + 5 := ⟨k - 5, by omega⟩
  have hj3 : ∀ b, impl_isReNode.j3 (k + 5) b f0 neg s f3 = if b = true then some false else impl_isReNode.l0 (k + 4) 0 f0 neg s f3 := fun b => by simp only [impl_isReNode.j3]
  have e0 : (s.toList != ([] : List UInt8)) = decide (s.size ≠ 0) := by
    by_cases c : s.size = 0
    · rw [(toList_nil s).mpr c]; simp [c]
    · rw [decide_eq_true c]; exact bne_iff_ne.mpr fun h => c ((toList_nil s).mp h)
  show impl_isReNode.f (k + 5) f0 neg s f3 = _
  unfold impl_isReNode.f nodeB
  dsimp only
  by_cases h0 : f0 = 0
  · rw [if_pos h0, if_pos h0]
    by_cases h2 : s.size % 2 = 0
    · rw [if_pos (by omega)]
      by_cases h3 : f3.length = 0
      · rw [if_neg (by omega)]
        by_cases h4 : s.size = 0
        · rw [if_pos ((toList_nil s).mpr h4), hj3]
          cases neg with
          | false => rw [Bool.not_false, if_pos rfl, if_neg (fun h => h.2.2 ⟨h4, rfl⟩)]
          | true =>
            rw [Bool.not_true, if_neg (by decide), if_pos ⟨h2, h3, fun h => absurd h.2 (by decide)⟩]
            exact implPairs f0 true s f3 hs (s.size / 2) 0 (k + 4) (by omega) (by omega)
        · rw [if_neg (fun h => h4 ((toList_nil s).mp h)), hj3, if_neg (by decide), if_pos ⟨h2, h3, fun h => h4 h.1⟩]
          exact implPairs f0 neg s f3 hs (s.size / 2) 0 (k + 4) (by omega) (by omega)
      · rw [if_pos (by omega), hj3, if_pos rfl, if_neg (fun h => h3 h.2.1)]
    · rw [if_neg (by omega), hj3, if_pos rfl, if_neg (fun h => h2 h.1)]
  · rw [if_neg h0, if_neg h0, e0]
    have hj0 : ∀ b, impl_isReNode.j0 (k + 5) b f0 neg s f3 = if b = true then some false else if f0 = 1 ∨ f0 = 2 then some (decide (f3.length = 0)) else if f0 = 3 ∨ f0 = 4 then some (decide (2 ≤ f3.length)) else if f0 = 5 ∨ f0 = 6 ∨ f0 = 7 then some (decide (f3.length = 1)) else some false := fun b => by
      have l0 : ((f3.length : Int) == 0) = decide (f3.length = 0) := by
        by_cases c : f3.length = 0 <;> simp [c]
      have l1 : ((f3.length : Int) == 1) = decide (f3.length = 1) := by
        by_cases c : f3.length = 1
        · simp [c]
        · rw [decide_eq_false c]; exact beq_eq_false_iff_ne.mpr fun h => c (by omega)
      have l2 : decide ((f3.length : Int) ≥ 2) = decide (2 ≤ f3.length) := by
        by_cases c : 2 ≤ f3.length
        · rw [decide_eq_true c]; exact decide_eq_true (by omega)
        · rw [decide_eq_false c]; exact decide_eq_false (by omega)
      simp only [impl_isReNode.j0, impl_isReNode.j1, impl_isReNode.j2, l0, l1, l2]
      cases b with
      | true => rfl
      | false =>
        simp only [Bool.false_eq_true, if_false]
        by_cases c1 : f0 = 1
        · subst c1; rfl
        by_cases c2 : f0 = 2
        · subst c2; rfl
        by_cases c3 : f0 = 3
        · subst c3; rfl
        by_cases c4 : f0 = 4
        · subst c4; rfl
        by_cases c5 : f0 = 5
        · subst c5; rfl
        by_cases c6 : f0 = 6
        · subst c6; rfl
        by_cases c7 : f0 = 7
        · subst c7; rfl
        simp [c1, c2, c3, c4, c5, c6, c7]
    cases neg with
    | true => rw [if_pos rfl, hj0, if_pos rfl, if_pos (.inl rfl)]
    | false =>
      rw [if_neg (by decide), hj0]
      by_cases c : s.size = 0
      · rw [decide_eq_false (show ¬ s.size ≠ 0 from fun h => h c), if_neg (by decide), if_neg (show ¬ (false = true ∨ s.size ≠ 0) from fun h => h.elim (by decide) (fun h => h c))]
        split
        · rfl
        · split
          · rfl
          · split <;> rfl
      · rw [decide_eq_true c, if_pos rfl, if_pos (.inr c)]
theorem specNode_ev (x : S49) (hs : x.f2.size ≤ 1099511627776) : Ev (fun k => spec_l2kidsOk.f k x.f0 x.f1 x.f2 x.f3) (nodeB x) := by
  obtain ⟨f0, neg, s, f3⟩ := x
  dsimp only at hs ⊢
  refine ⟨s.size + 10, fun k hk => ?_⟩
  obtain ⟨k, rfl⟩ : ∃ j, k = j + 5 := ⟨k - 5, by omega⟩
  have hj0 : ∀ b, spec_l2pairs.j0 (k + 5) b f0 neg s f3 = if b = true then some false else spec_l2pairs.l0 (k + 4) 0 f0 neg s f3 := fun b => by simp only [spec_l2pairs.j0]
  have e0 : (s.toList == ([] : List UInt8)) = decide (s.size = 0) := by
    by_cases c : s.size = 0
    · rw [(toList_nil s).mpr c]; simp [c]
    · rw [decide_eq_false c]; exact beq_eq_false_iff_ne.mpr fun h => c ((toList_nil s).mp h)
  show spec_l2kidsOk.f (k + 5) f0 neg s f3 = _
  unfold spec_l2kidsOk.f nodeB
  dsimp only
  by_cases h0 : f0 = 0
  · rw [if_pos h0, if_pos h0]
    by_cases h3 : f3.length = 0
    · rw [if_pos (by omega)]
      unfold spec_l2pairs.f
      by_cases h2 : s.size % 2 = 0
      · rw [if_neg (by omega)]
        by_cases h4 : s.size = 0
        · rw [if_pos (by omega), hj0]
          cases neg with
          | false => rw [Bool.not_false, if_pos rfl, if_neg (fun h => h.2.2 ⟨h4, rfl⟩)]; rfl
          | true =>
            rw [Bool.not_true, if_neg (by decide), if_pos ⟨h2, h3, fun h => absurd h.2 (by decide)⟩, show (0 : Int) = ((0 : Nat) : Int) from rfl, specPairs f0 true s f3 hs (s.size / 2) 0 (k + 4) (by omega) (by omega)]; rfl
        · rw [if_neg (by omega), hj0, if_neg (by decide), if_pos ⟨h2, h3, fun h => h4 h.1⟩, show (0 : Int) = ((0 : Nat) : Int) from rfl, specPairs f0 neg s f3 hs (s.size / 2) 0 (k + 4) (by omega) (by omega)]; rfl
      · rw [if_pos (by omega), hj0, if_pos rfl, if_neg (fun h => h2 h.1)]; rfl
    · rw [if_neg (by omega), if_neg (fun h => h3 h.2.1)]
  · rw [if_neg h0, if_neg h0]
    have l0 : ((f3.length : Int) = 0) ↔ (f3.length = 0) := by omega
    have l1 : ((f3.length : Int) = 1) ↔ (f3.length = 1) := by omega
    have l2 : ((f3.length : Int) ≥ 2) ↔ (2 ≤ f3.length) := by omega
    have fin : ∀ (p : Prop) [Decidable p], (if p then (if neg = true then some false else some (s.toList == ([] : List UInt8))) else some false) = some (if neg = true ∨ s.size ≠ 0 then false else decide p) := fun p _ => by
      rw [e0]
      cases neg <;> by_cases c : s.size = 0 <;> by_cases d : p <;> simp [c, d]
    have res : ∀ b, b = decide (f0 = 1 ∨ f0 = 2) → spec_l2kidsOk.j0 (k + 5) f0 b f0 neg s f3 = some (if neg = true ∨ s.size ≠ 0 then false else if f0 = 1 ∨ f0 = 2 then decide (f3.length = 0) else if f0 = 3 ∨ f0 = 4 then decide (2 ≤ f3.length) else if f0 = 5 ∨ f0 = 6 ∨ f0 = 7 then decide (f3.length = 1) else false) := fun b hb => by
      simp only [spec_l2kidsOk.j0, spec_l2kidsOk.j1, fin, l0, l1, l2, hb]
      by_cases c1 : f0 = 1
      · subst c1; rfl
      by_cases c2 : f0 = 2
      · subst c2; rfl
      by_cases c3 : f0 = 3
      · subst c3; rfl
      by_cases c4 : f0 = 4
      · subst c4; rfl
      by_cases c5 : f0 = 5
      · subst c5; rfl
      by_cases c6 : f0 = 6
      · subst c6; rfl
      by_cases c7 : f0 = 7
      · subst c7; rfl
      simp [c1, c2, c3, c4, c5, c6, c7]
    by_cases c1 : f0 = 1
    · rw [if_pos c1, res _ (by rw [c1]; rfl)]
    · rw [if_neg c1, res _ (by by_cases c2 : f0 = 2 <;> simp [c1, c2])]
def cnts (n : Nat) (D : List Int) : List Int := (List.range n).map fun (j : Nat) => (D.count (j : Int) : Int)
theorem cnts_len (n : Nat) (D : List Int) : (cnts n D).length = n := by simp [cnts]
theorem cnts_nil (n : Nat) : cnts n [] = List.replicate n 0 := by
  apply List.ext_getElem
  · simp [cnts]
  · intro i h1 h2
    simp [cnts]
theorem cnts_rd (n : Nat) (D : List Int) (q : Int) (h0 : 0 ≤ q) (h1 : q < n) : rd (cnts n D) q = (D.count q : Int) := by
  unfold rd cnts
  obtain ⟨m, rfl⟩ := Int.eq_ofNat_of_zero_le h0
  have hm : m < n := by omega
  rw [List.getD_eq_getElem?_getD, Int.toNat_natCast, List.getElem?_map, List.getElem?_range hm]; rfl
theorem cnts_set (n : Nat) (D : List Int) (q : Int) (h0 : 0 ≤ q) (h1 : q < n) : (cnts n D).set q.toNat ((D.count q : Int) + 1) = cnts n (D ++ [q]) := by
  obtain ⟨m, rfl⟩ := Int.eq_ofNat_of_zero_le h0
  have hm : m < n := by omega
  apply List.ext_getElem
  · simp [cnts]
  · intro i h1 h2
    rw [List.getElem_set]
    have hi : i < n := by simpa [cnts] using h2
    by_cases c : ((m : Int)).toNat = i
    · have c' : m = i := by omega
      rw [if_pos c]
      subst c'
      simp [cnts, List.count_append]
    · have c' : ¬ (m : Int) = (i : Int) := by omega
      rw [if_neg c]
      simp [cnts, List.count_append, List.count_singleton, c']
def chkB (n : Nat) (D : List Int) : Bool := (List.range (n - 1)).all fun (j : Nat) => decide (D.count (j : Int) = 1)
def kidB (i : Nat) (q : Int) : Bool := decide (0 ≤ q) && decide (q < (i : Int))
def resB (l : List S49) : Nat → Nat → List Int → Bool
  | 0, _, D => chkB l.length D
  | d + 1, i, D => nodeB (nodeAt l i) && ((nodeAt l i).f3.all (kidB i) && resB l d (i + 1) (D ++ (nodeAt l i).f3))
def okB (l : List S49) : Bool := decide (1 ≤ l.length) && (decide (l.length ≤ 200) && resB l l.length 0 [])
theorem resB_twice (l : List S49) (j : Nat) (hj : j < l.length - 1) : ∀ (d i : Nat) (D : List Int), 2 ≤ D.count (j : Int) → resB l d i D = false
  | 0, _, D, h => by
    simp only [resB, chkB]
    rw [List.all_eq_false]
    exact ⟨j, List.mem_range.mpr hj, by simp; omega⟩
  | d + 1, i, D, h => by
    simp only [resB]
    rw [resB_twice l j hj d (i + 1) _ (by rw [List.count_append]; omega), Bool.and_false, Bool.and_false]
structure Fits (l : List S49) : Prop where
  kids : ∀ n, n < l.length → (nodeAt l n).f3.length ≤ 1048576
  set : ∀ n, n < l.length → (nodeAt l n).f2.size ≤ 1048576
end Go.Proofs.YtlakdfbfkbndiaaDoor.Q
namespace Go.Proofs.YtlakdfbfkbndiaaDoor.Q
open Go.RowKit Go.Proofs.YtlakdfbfkbndiaaDoor.Re Go.Proofs.YtlakdfbfkbndiaaDoorW.PrintWords Go.Proofs.YtlakdfbfkbndiaaDoorW.PrintLast Go.Proofs.YtlakdfbfkbndiaaDoorW.PrintMore
section
variable {l : List S49}
theorem between_eq (q a b : Int) : impl_between.f q a b = some (decide (a ≤ q) && decide (q ≤ b)) := by
  unfold impl_between.f
  by_cases h : q ≥ a
  · rw [if_pos h, decide_eq_true (show a ≤ q from h), Bool.true_and]
  · rw [if_neg h, decide_eq_false (show ¬ a ≤ q from h), Bool.false_and]
theorem drop_at (ks : List Int) (p : Nat) (hp : p < ks.length) : ks.drop p = rd ks (p : Int) :: ks.drop (p + 1) := by
  unfold rd
  rw [Int.toNat_natCast, List.drop_eq_getElem_cons hp, List.getD_eq_getElem?_getD, List.getElem?_eq_getElem hp]; rfl
theorem implOk_l1 (hl : l.length ≤ 200) (i : Nat) (hi : i < l.length) (ks : List Int) (hks : ks.length ≤ 1048576) : ∀ (e p : Nat), p + e = ks.length → ∀ (k : Nat) (D : List Int), D.length ≤ 1048576 * i + p →
    impl_ReOk.l1 (k + e + 1) l (cnts l.length D) (i : Int) l (l.length : Int) (i : Int) ks (ks.length : Int) (p : Int) =
      if (ks.drop p).all (kidB i) = true then impl_ReOk.l0 k l (cnts l.length (D ++ ks.drop p)) l (l.length : Int) ((i + 1 : Nat) : Int) else some false
  | 0, p, hp, k, D, hD => by
    have wi : wrap64 ((i : Int) + 1) = ((i + 1 : Nat) : Int) := by unfold wrap64; omega
    simp only [impl_ReOk.l1]
    rw [if_neg (by omega), wi, List.drop_eq_nil_of_le (by omega), List.append_nil]
    rfl
  | e + 1, p, hp, k, D, hD => by
    have hlt : p < ks.length := by omega
    have wp : wrap64 ((p : Int) + 1) = ((p + 1 : Nat) : Int) := by unfold wrap64; omega
    have wi : wrap64 ((i : Int) - 1) = (i : Int) - 1 := by unfold wrap64; omega
    have ih := implOk_l1 hl i hi ks hks e (p + 1) (by omega) k
    have e1 : k + (e + 1) + 1 = (k + e + 1) + 1 := rfl
    rw [e1]
    generalize k + e + 1 = K at ih ⊢
    simp only [impl_ReOk.l1]
    rw [if_pos (by omega), if_pos (by omega), if_pos (by omega), between_eq, Option.bind_some, wi, wp, drop_at ks p hlt]
    generalize rd ks (p : Int) = q
    by_cases hq : 0 ≤ q ∧ q < (i : Int)
    · have hb : (decide (0 ≤ q) && decide (q ≤ (i : Int) - 1)) = true := by rw [decide_eq_true hq.1, decide_eq_true (show q ≤ (i : Int) - 1 by omega)]; rfl
      have hk : kidB i q = true := by unfold kidB; rw [decide_eq_true hq.1, decide_eq_true hq.2]; rfl
      have hc : D.count q ≤ D.length := List.count_le_length
      have wc : wrap64 ((D.count q : Int) + 1) = (D.count q : Int) + 1 := by unfold wrap64; omega
      rw [hb, if_pos rfl, if_pos hq.1, if_pos (by rw [cnts_len]; omega), cnts_rd _ _ _ hq.1 (by omega), wc, cnts_set _ _ _ hq.1 (by omega),
        ih (D ++ [q]) (by rw [List.length_append, List.length_singleton]; omega), List.all_cons, hk, Bool.true_and, List.append_assoc]
      rfl
    · have hb : (decide (0 ≤ q) && decide (q ≤ (i : Int) - 1)) = false := by
        by_cases c : 0 ≤ q
        · rw [decide_eq_false (show ¬ q ≤ (i : Int) - 1 by omega), Bool.and_false]
        · rw [decide_eq_false c, Bool.false_and]
      have hk : kidB i q = false := by
        unfold kidB
        by_cases c : 0 ≤ q
        · rw [decide_eq_false (show ¬ q < (i : Int) by omega), Bool.and_false]
        · rw [decide_eq_false c, Bool.false_and]
      rw [hb, if_neg (by decide), List.all_cons, hk, Bool.false_and, if_neg (by decide)]
theorem rdn (l : List S49) (i : Nat) : rd_T49 l (i : Int) = nodeAt l i := rfl
theorem take_cnts (n : Nat) (D : List Int) : ((cnts n D).take (n - 1)).any (fun x => x != 1) = !chkB n D := by
  unfold cnts chkB
  rw [← List.map_take, List.any_map, List.take_range, show min (n - 1) n = n - 1 by omega, List.not_all_eq_any_not]
  refine congrArg (fun f => List.any (List.range (n - 1)) f) (funext fun j => ?_)
  show ((D.count (j : Int) : Int) != 1) = !decide (D.count (j : Int) = 1)
  by_cases c : D.count (j : Int) = 1
  · rw [c]; rfl
  · rw [decide_eq_false c]
    exact bne_iff_ne.mpr fun h => c (by omega)
theorem implOk_l0 (hF : Fits l) (h1 : 1 ≤ l.length) (hl : l.length ≤ 200) : ∀ (d i : Nat) (D : List Int), i + d = l.length → D.length ≤ 1048576 * i → Ev (fun k => impl_ReOk.l0 k l (cnts l.length D) l (l.length : Int) (i : Int)) (resB l d i D) := by
  intro d
  induction d with
  | zero =>
    intro i D hi hD
    refine Ev.succ (Ev.mk fun k => ?_)
    have wl : wrap64 ((l.length : Int) - 1) = ((l.length - 1 : Nat) : Int) := by unfold wrap64; omega
    simp only [impl_ReOk.l0]
    rw [if_neg (by omega), wl, if_pos (by omega), if_pos (by rw [cnts_len]; omega), Int.toNat_natCast]
    unfold slices_ContainsFunc_int_int.f
    rw [if_pos rfl, Option.bind_some, take_cnts, Bool.not_not]
    rfl
  | succ d ih =>
    intro i D hi hD
    have hlt : i < l.length := by omega
    have hks := hF.kids i hlt
    have hn := implNode_ev (nodeAt l i) (by have := hF.set i hlt; omega)
    refine Ev.succ (Ev.congr (Ev.bind hn (g := fun k t => if t = true then (impl_ReOk.l1 k l (cnts l.length D) (i : Int) l (l.length : Int) (i : Int) (nodeAt l i).f3 ((nodeAt l i).f3.length : Int) 0) else (some false)) ?_) (fun k => by
      simp only [impl_ReOk.l0]
      rw [if_pos (show (i : Int) < (l.length : Int) by omega), if_pos (Int.natCast_nonneg i), if_pos (show (i : Int) < (l.length : Int) by omega), rdn]))
    simp only [resB]
    cases nodeB (nodeAt l i) with
    | false => exact Ev.mk fun k => rfl
    | true =>
      rw [Bool.true_and]
      have hs : ∀ k, impl_ReOk.l1 (k + (nodeAt l i).f3.length + 1) l (cnts l.length D) (i : Int) l (l.length : Int) (i : Int) (nodeAt l i).f3 ((nodeAt l i).f3.length : Int) 0 = if (nodeAt l i).f3.all (kidB i) = true then impl_ReOk.l0 k l (cnts l.length (D ++ (nodeAt l i).f3)) l (l.length : Int) ((i + 1 : Nat) : Int) else some false := fun k =>
        implOk_l1 hl i hlt (nodeAt l i).f3 hks (nodeAt l i).f3.length 0 (by omega) k D (by omega)
      refine Ev.add ((nodeAt l i).f3.length + 1) (Ev.congr (f := fun k => if (nodeAt l i).f3.all (kidB i) = true then impl_ReOk.l0 k l (cnts l.length (D ++ (nodeAt l i).f3)) l (l.length : Int) ((i + 1 : Nat) : Int) else some false) ?_ (fun k => by
        show (if true = true then _ else _) = _
        rw [if_pos rfl, ← Nat.add_assoc]; exact hs k))
      cases c : (nodeAt l i).f3.all (kidB i) with
      | false => exact Ev.mk fun k => rfl
      | true =>
        rw [Bool.true_and]
        exact ih (i + 1) (D ++ (nodeAt l i).f3) (by omega) (by rw [List.length_append]; omega)
theorem implOk_ev (hF : Fits l) : Ev (fun k => impl_ReOk.f k l) (okB l) := by
  unfold okB
  by_cases h1 : 1 ≤ l.length
  · by_cases hl : l.length ≤ 200
    · rw [decide_eq_true h1, decide_eq_true hl, Bool.true_and, Bool.true_and]
      refine Ev.congr (implOk_l0 hF h1 hl l.length 0 [] (by omega) (by simp)) fun k => ?_
      unfold impl_ReOk.f
      rw [between_eq, Option.bind_some, decide_eq_true (show (1 : Int) ≤ (l.length : Int) by omega), decide_eq_true (show (l.length : Int) ≤ 200 by omega)]
      rw [Bool.true_and, if_pos rfl, if_pos (Int.natCast_nonneg _), Int.toNat_natCast, if_pos (by omega), cnts_nil]
      rfl
    · refine Ev.mk fun k => ?_
      show impl_ReOk.f k l = _
      unfold impl_ReOk.f
      rw [between_eq, Option.bind_some, decide_eq_false (show ¬ (l.length : Int) ≤ 200 by omega), Bool.and_false, if_neg (by decide), decide_eq_false hl, Bool.false_and, Bool.and_false]
  · refine Ev.mk fun k => ?_
    show impl_ReOk.f k l = _
    unfold impl_ReOk.f
    rw [between_eq, Option.bind_some, decide_eq_false (show ¬ (1 : Int) ≤ (l.length : Int) by omega), Bool.false_and, if_neg (by decide), decide_eq_false h1, Bool.false_and]
theorem specOk_l1 (hl : l.length ≤ 200) (i : Nat) (hi : i < l.length) (r : Bool) : ∀ (e p : Nat), p + e = (nodeAt l i).f3.length → (nodeAt l i).f3.length ≤ 1048576 → ∀ (D : List Int), D.length ≤ 1048576 * i + p →
    (((nodeAt l i).f3.drop p).all (kidB i) = true → Ev (fun k => spec_ReOk.l0 k l (cnts l.length (D ++ (nodeAt l i).f3.drop p)) ((i + 1 : Nat) : Int)) r) → (((nodeAt l i).f3.drop p).all (kidB i) = false → r = false) →
    (∀ q : Int, 0 ≤ q → q < (i : Int) → 2 ≤ (D ++ (nodeAt l i).f3.drop p).count q → r = false) →
    Ev (fun k => spec_ReOk.l1 k l (cnts l.length D) (i : Int) (p : Int)) r
  | 0, p, hp, hks, D, hD, hgo, hno, htw => by
    have wi : wrap64 ((i : Int) + 1) = ((i + 1 : Nat) : Int) := by unfold wrap64; omega
    rw [List.drop_eq_nil_of_le (by omega), List.append_nil] at hgo
    refine Ev.succ (Ev.congr (hgo rfl) fun k => ?_)
    simp only [spec_ReOk.l1]
    rw [if_pos (Int.natCast_nonneg i), if_pos (show (i : Int) < (l.length : Int) by omega), rdn, if_neg (by omega), wi]
  | e + 1, p, hp, hks, D, hD, hgo, hno, htw => by
    have hlt : p < (nodeAt l i).f3.length := by omega
    have wp : wrap64 ((p : Int) + 1) = ((p + 1 : Nat) : Int) := by unfold wrap64; omega
    have ih := specOk_l1 hl i hi r e (p + 1) (by omega) hks
    have hu : ∀ k, spec_ReOk.l1 (k + 1) l (cnts l.length D) (i : Int) (p : Int) = if rd (nodeAt l i).f3 (p : Int) < 0 then some false else if rd (nodeAt l i).f3 (p : Int) ≥ (i : Int) then some false else if 0 ≤ rd (nodeAt l i).f3 (p : Int) then (if rd (nodeAt l i).f3 (p : Int) < ((cnts l.length D).length : Int) then (if rd (cnts l.length D) (rd (nodeAt l i).f3 (p : Int)) > 0 then some false else spec_ReOk.l1 k l ((cnts l.length D).set (rd (nodeAt l i).f3 (p : Int)).toNat (wrap64 (rd (cnts l.length D) (rd (nodeAt l i).f3 (p : Int)) + 1))) (i : Int) ((p + 1 : Nat) : Int)) else none) else none := fun k => by
      conv => lhs; simp only [spec_ReOk.l1]
      rw [if_pos (Int.natCast_nonneg i), if_pos (show (i : Int) < (l.length : Int) by omega), rdn, if_pos (show (p : Int) < ((nodeAt l i).f3.length : Int) by omega), if_pos (Int.natCast_nonneg p), wp]
    rw [drop_at _ p hlt] at hgo hno htw
    generalize rd (nodeAt l i).f3 (p : Int) = q at hu hgo hno htw
    by_cases hq : 0 ≤ q ∧ q < (i : Int)
    · have hk : kidB i q = true := by unfold kidB; rw [decide_eq_true hq.1, decide_eq_true hq.2]; rfl
      have hc : D.count q ≤ D.length := List.count_le_length
      have wc : wrap64 ((D.count q : Int) + 1) = (D.count q : Int) + 1 := by unfold wrap64; omega
      rw [List.all_cons, hk, Bool.true_and] at hgo hno
      by_cases hz : (D.count q : Int) > 0
      · have hr : r = false := htw q hq.1 hq.2 (by rw [List.count_append, List.count_cons_self]; omega)
        refine Ev.succ (Ev.mk fun k => ?_)
        rw [hu k, if_neg (by omega), if_neg (by omega), if_pos hq.1, if_pos (by rw [cnts_len]; omega), cnts_rd _ _ _ hq.1 (by omega), if_pos hz, hr]
      · have happ : D ++ q :: (nodeAt l i).f3.drop (p + 1) = (D ++ [q]) ++ (nodeAt l i).f3.drop (p + 1) := by rw [List.append_assoc]; rfl
        rw [happ] at hgo htw
        refine Ev.succ (Ev.congr (ih (D ++ [q]) (by rw [List.length_append, List.length_singleton]; omega) hgo hno htw) fun k => ?_)
        rw [hu k, if_neg (by omega), if_neg (by omega), if_pos hq.1, if_pos (by rw [cnts_len]; omega), cnts_rd _ _ _ hq.1 (by omega), if_neg hz, wc, cnts_set _ _ _ hq.1 (by omega)]
    · have hk : kidB i q = false := by
        unfold kidB
        by_cases c : 0 ≤ q
        · rw [decide_eq_false (show ¬ q < (i : Int) by omega), Bool.and_false]
        · rw [decide_eq_false c, Bool.false_and]
      rw [List.all_cons, hk, Bool.false_and] at hno
      refine Ev.succ (Ev.mk fun k => ?_)
      rw [hu k, hno rfl]
      by_cases c : q < 0
      · rw [if_pos c]
      · rw [if_neg c, if_pos (by omega)]
theorem specOk_l2 (hl : l.length ≤ 200) (D : List Int) : ∀ (d j k : Nat), j + d = l.length - 1 → 1 ≤ l.length → d < k → spec_ReOk.l2 k l (cnts l.length D) (j : Int) = some ((List.range' j d).all fun (j : Nat) => decide (D.count (j : Int) = 1))
  | 0, j, 0, _, _, hk => absurd hk (by omega)
  | 0, j, k + 1, hj, h1, _ => by
    have wj : wrap64 ((j : Int) + 1) = ((j + 1 : Nat) : Int) := by unfold wrap64; omega
    simp only [spec_ReOk.l2]
    rw [wj, if_neg (by omega)]
    rfl
  | d + 1, j, 0, _, _, hk => absurd hk (by omega)
  | d + 1, j, k + 1, hj, h1, hk => by
    have wj : wrap64 ((j : Int) + 1) = ((j + 1 : Nat) : Int) := by unfold wrap64; omega
    simp only [spec_ReOk.l2]
    rw [wj, if_pos (by omega), if_pos (by omega), if_pos (by rw [cnts_len]; omega), cnts_rd _ _ _ (Int.natCast_nonneg j) (by omega), specOk_l2 hl D d (j + 1) k (by omega) h1 (by omega), List.range'_succ, List.all_cons]
    by_cases c : D.count (j : Int) = 1
    · rw [if_pos (by omega), decide_eq_true c, Bool.true_and]
    · rw [if_neg (by omega), decide_eq_false c, Bool.false_and]
theorem specOk_l0 (hF : Fits l) (h1 : 1 ≤ l.length) (hl : l.length ≤ 200) : ∀ (d i : Nat) (D : List Int), i + d = l.length → D.length ≤ 1048576 * i → Ev (fun k => spec_ReOk.l0 k l (cnts l.length D) (i : Int)) (resB l d i D) := by
  intro d
  induction d with
  | zero =>
    intro i D hi hD
    refine Ev.succ ⟨l.length + 1, fun k hk => ?_⟩
    show spec_ReOk.l0 (k + 1) l (cnts l.length D) (i : Int) = _
    have h2 := specOk_l2 hl D (l.length - 1) 0 k (by omega) h1 (by omega)
    conv => lhs; simp only [spec_ReOk.l0]
    rw [if_neg (by omega)]
    refine h2.trans ?_
    rw [← List.range_eq_range']; rfl
  | succ d ih =>
    intro i D hi hD
    have hlt : i < l.length := by omega
    have hks := hF.kids i hlt
    have hn := specNode_ev (nodeAt l i) (by have := hF.set i hlt; omega)
    refine Ev.succ (Ev.congr (Ev.bind hn (g := fun k t => if t = true then (spec_ReOk.l1 k l (cnts l.length D) (i : Int) 0) else (some false)) ?_) (fun k => by
      simp only [spec_ReOk.l0]
      rw [if_pos (show (i : Int) < (l.length : Int) by omega), if_pos (Int.natCast_nonneg i), rdn]))
    simp only [resB]
    cases nodeB (nodeAt l i) with
    | false => exact Ev.mk fun k => rfl
    | true =>
      rw [Bool.true_and]
      refine Ev.congr (f := fun k => spec_ReOk.l1 k l (cnts l.length D) (i : Int) 0) ?_ (fun k => if_pos rfl)
      refine specOk_l1 hl i hlt _ (nodeAt l i).f3.length 0 (by omega) hks D (by omega) ?_ ?_ ?_
      · intro hall
        rw [List.drop_zero] at hall ⊢
        rw [hall, Bool.true_and]
        exact ih (i + 1) (D ++ (nodeAt l i).f3) (by omega) (by rw [List.length_append]; omega)
      · intro hall
        rw [List.drop_zero] at hall
        rw [hall, Bool.false_and]
      · intro q h0 hq h2
        rw [List.drop_zero] at h2
        obtain ⟨m, rfl⟩ := Int.eq_ofNat_of_zero_le h0
        rw [resB_twice l m (by omega) d (i + 1) _ h2, Bool.and_false]
theorem specOk_ev (hF : Fits l) : Ev (fun k => spec_ReOk.f k l) (okB l) := by
  unfold okB
  by_cases h1 : 1 ≤ l.length
  · by_cases hl : l.length ≤ 200
    · rw [decide_eq_true h1, decide_eq_true hl, Bool.true_and, Bool.true_and]
      refine Ev.succ (Ev.congr (specOk_l0 hF h1 hl l.length 0 [] (by omega) (by simp)) fun k => ?_)
      unfold spec_ReOk.f
      rw [if_neg (by omega), decide_eq_false (show ¬ (l.length : Int) > 200 by omega)]
      simp only [spec_ReOk.j0]
      rw [if_neg (by decide), if_pos (Int.natCast_nonneg _), Int.toNat_natCast, if_pos (by omega), cnts_nil]
      rfl
    · refine Ev.succ (Ev.mk fun k => ?_)
      show spec_ReOk.f (k + 1) l = _
      unfold spec_ReOk.f
      rw [if_neg (by omega), decide_eq_true (show (l.length : Int) > 200 by omega), decide_eq_false hl, Bool.false_and, Bool.and_false]
      simp only [spec_ReOk.j0, if_true]
  · refine Ev.succ (Ev.mk fun k => ?_)
    show spec_ReOk.f (k + 1) l = _
    unfold spec_ReOk.f
    rw [if_pos (by omega), decide_eq_false h1, Bool.false_and]
    simp only [spec_ReOk.j0, if_true]
end
end Go.Proofs.YtlakdfbfkbndiaaDoor.Q
namespace Go.Proofs.YtlakdfbfkbndiaaDoor.Q
open Go.RowKit Go.Proofs.YtlakdfbfkbndiaaDoor.Re Go.Proofs.YtlakdfbfkbndiaaDoorW.PrintWords Go.Proofs.YtlakdfbfkbndiaaDoorW.PrintLast Go.Proofs.YtlakdfbfkbndiaaDoorW.PrintMore
def sumN (f : Nat → Nat) : Nat → Nat
  | 0 => 0
  | m + 1 => sumN f m + f m
def sumL (f : Int → Nat) : List Int → Nat
  | [] => 0
  | q :: r => f q + sumL f r
theorem sumL_append (f : Int → Nat) (B : List Int) : ∀ A, sumL f (A ++ B) = sumL f A + sumL f B
  | [] => by simp [sumL]
  | q :: A => by
    rw [List.cons_append]
    simp only [sumL]
    rw [sumL_append f B A]; omega
theorem sumN_add (f g : Nat → Nat) : ∀ m, sumN (fun j => f j + g j) m = sumN f m + sumN g m
  | 0 => rfl
  | m + 1 => by simp only [sumN]; rw [sumN_add f g m]; omega
theorem sumN_congr {f g : Nat → Nat} : ∀ m, (∀ j, j < m → f j = g j) → sumN f m = sumN g m
  | 0, _ => rfl
  | m + 1, h => by
    simp only [sumN]
    rw [sumN_congr m (fun j hj => h j (by omega)), h m (by omega)]
theorem sumN_none (f : Nat → Nat) (q : Nat) : ∀ m, m ≤ q → sumN (fun j => if j = q then f j else 0) m = 0
  | 0, _ => rfl
  | m + 1, h => by
    simp only [sumN]
    rw [sumN_none f q m (by omega), if_neg (by omega)]
theorem sumN_one (f : Nat → Nat) (q : Nat) : ∀ m, q < m → sumN (fun j => if j = q then f j else 0) m = f q
  | 0, h => absurd h (by omega)
  | m + 1, h => by
    simp only [sumN]
    by_cases c : q = m
    · subst c; rw [sumN_none f q q (Nat.le_refl _), if_pos rfl, Nat.zero_add]
    · rw [sumN_one f q m (by omega), if_neg (by omega), Nat.add_zero]
theorem sumL_count (f : Nat → Nat) (m : Nat) : ∀ D : List Int, (∀ q, q ∈ D → 0 ≤ q ∧ q < (m : Int)) → sumL (fun q => f q.toNat) D = sumN (fun j => D.count (j : Int) * f j) m
  | [], _ => by
    have : ∀ m, sumN (fun j => ([] : List Int).count (j : Int) * f j) m = 0 := fun m => by
      induction m with
      | zero => rfl
      | succ m ih => simp only [sumN]; rw [ih]; simp
    rw [this]; rfl
  | q :: D, h => by
    simp only [sumL]
    have hq := h q List.mem_cons_self
    rw [sumL_count f m D (fun q hq => h q (List.mem_cons_of_mem _ hq)), ← sumN_one f q.toNat m (by omega), Nat.add_comm, ← sumN_add]
    refine sumN_congr m fun j _ => ?_
    rw [List.count_cons]
    by_cases c : j = q.toNat
    · have : (q == (j : Int)) = true := beq_iff_eq.mpr (by omega)
      rw [if_pos c, this, if_pos rfl, Nat.add_mul, Nat.one_mul]
    · have : (q == (j : Int)) = false := beq_eq_false_iff_ne.mpr (by omega)
      rw [if_neg c, this]; simp
end Go.Proofs.YtlakdfbfkbndiaaDoor.Q
namespace Go.Proofs.YtlakdfbfkbndiaaDoor.Q
open Go.RowKit Go.Proofs.YtlakdfbfkbndiaaDoor.Re Go.Proofs.YtlakdfbfkbndiaaDoorW.PrintWords Go.Proofs.YtlakdfbfkbndiaaDoorW.PrintLast Go.Proofs.YtlakdfbfkbndiaaDoorW.PrintMore
section
variable {l : List S49}
def flatN (l : List S49) : Nat → List Int
  | 0 => []
  | m + 1 => flatN l m ++ (nodeAt l m).f3
theorem resB_all : ∀ (d i : Nat), i + d = l.length → resB l d i (flatN l i) = true → (∀ n, i ≤ n → n < l.length → nodeB (nodeAt l n) = true ∧ (nodeAt l n).f3.all (kidB n) = true) ∧ chkB l.length (flatN l l.length) = true
  | 0, i, hi, h => by
    have e : i = l.length := by omega
    subst e
    exact ⟨fun n h1 h2 => absurd h2 (by omega), h⟩
  | d + 1, i, hi, h => by
    simp only [resB, Bool.and_eq_true] at h
    obtain ⟨h1, h2, h3⟩ := h
    obtain ⟨g1, g2⟩ := resB_all d (i + 1) (by omega) h3
    refine ⟨fun n hn hn2 => ?_, g2⟩
    by_cases c : n = i
    · subst c; exact ⟨h1, h2⟩
    · exact g1 n (by omega) hn2
theorem okB_all (h : okB l = true) : (1 ≤ l.length ∧ l.length ≤ 200) ∧ (∀ n, n < l.length → nodeB (nodeAt l n) = true ∧ (nodeAt l n).f3.all (kidB n) = true) ∧ chkB l.length (flatN l l.length) = true := by
  unfold okB at h
  simp only [Bool.and_eq_true, decide_eq_true_eq] at h
  obtain ⟨g1, g2⟩ := resB_all l.length 0 (by omega) h.2.2
  exact ⟨⟨h.1, h.2.1⟩, fun n hn => g1 n (by omega) hn, g2⟩
theorem nodeB_told {x : S49} (h : nodeB x = true) : (0 ≤ x.f0 ∧ x.f0 ≤ 7) ∧ (5 ≤ x.f0 → x.f3.length = 1) ∧ (x.f0 = 3 → 2 ≤ x.f3.length) ∧ (x.f0 = 0 → x.f2.size % 2 = 0) := by
  unfold nodeB at h
  by_cases h0 : x.f0 = 0
  · rw [if_pos h0] at h
    by_cases c : x.f2.size % 2 = 0 ∧ x.f3.length = 0 ∧ ¬ (x.f2.size = 0 ∧ x.f1 = false)
    · exact ⟨⟨by omega, by omega⟩, fun _ => by omega, fun _ => by omega, fun _ => c.1⟩
    · rw [if_neg c] at h; cases h
  · rw [if_neg h0] at h
    by_cases c : x.f1 = true ∨ x.f2.size ≠ 0
    · rw [if_pos c] at h; cases h
    · rw [if_neg c] at h
      by_cases c1 : x.f0 = 1 ∨ x.f0 = 2
      · exact ⟨⟨by omega, by omega⟩, fun _ => by omega, fun _ => by omega, fun _ => by omega⟩
      · rw [if_neg c1] at h
        by_cases c2 : x.f0 = 3 ∨ x.f0 = 4
        · rw [if_pos c2, decide_eq_true_eq] at h
          exact ⟨⟨by omega, by omega⟩, fun _ => by omega, fun _ => h, fun _ => by omega⟩
        · rw [if_neg c2] at h
          by_cases c3 : x.f0 = 5 ∨ x.f0 = 6 ∨ x.f0 = 7
          · rw [if_pos c3, decide_eq_true_eq] at h
            exact ⟨⟨by omega, by omega⟩, fun _ => h, fun _ => by omega, fun _ => by omega⟩
          · rw [if_neg c3] at h; cases h
theorem kidB_told {n : Nat} {q : Int} {ks : List Int} (h : ks.all (kidB n) = true) (hq : q ∈ ks) : 0 ≤ q ∧ q < (n : Int) := by
  have := List.all_eq_true.mp h q hq
  unfold kidB at this
  simpa using this
theorem okB_valid (hF : Fits l) (h : okB l = true) : Valid l := by
  obtain ⟨⟨h1, h2⟩, h3, _⟩ := okB_all h
  refine ⟨h1, h2, fun n hn => (nodeB_told (h3 n hn).1).1, fun n hn k hk => kidB_told (h3 n hn).2 hk, fun n hn h5 => ?_, fun n hn hf => ?_, fun n hn hf => (nodeB_told (h3 n hn).1).2.2.2 hf, fun n hn => by have := hF.set n hn; omega⟩
  · exact List.length_eq_one_iff.mp ((nodeB_told (h3 n hn).1).2.1 h5)
  · intro e
    have := (nodeB_told (h3 n hn).1).2.2.1 hf
    rw [e] at this
    exact absurd this (by decide)
theorem okB_validB (hF : Fits l) (h : okB l = true) : validB l = true := by
  have hV := okB_valid hF h
  obtain ⟨_, h3, _⟩ := okB_all h
  unfold validB
  rw [decide_eq_true hV.pos, decide_eq_true hV.len, Bool.true_and, Bool.true_and, List.all_eq_true]
  intro n hn
  have hn := List.mem_range.mp hn
  obtain ⟨g1, g2, g3, g4⟩ := nodeB_told (h3 n hn).1
  unfold nodeOkB
  have hk : ((nodeAt l n).f3.all fun k => decide (0 ≤ k) && decide (k < (n : Int))) = true := (h3 n hn).2
  have ht := hV.txt n hn
  simp only [Bool.and_eq_true, Bool.or_eq_true, decide_eq_true_eq]
  refine ⟨g1.1, g1.2, hk, ?_, ?_, ?_, ht⟩
  · by_cases c : (nodeAt l n).f0 < 5
    · exact .inl c
    · exact .inr (g2 (by omega))
  · by_cases c : (nodeAt l n).f0 = 3
    · have := g3 c; exact .inr (by omega)
    · exact .inl c
  · by_cases c : (nodeAt l n).f0 = 0
    · exact .inr (g4 c)
    · exact .inl c
def cost (l : List S49) : Nat → Nat → Nat
  | 0, _ => 0
  | f + 1, n => 5 + sumL (fun q => cost l f q.toNat) (nodeAt l n).f3
theorem sumL_congr {f g : Int → Nat} : ∀ D : List Int, (∀ q, q ∈ D → f q = g q) → sumL f D = sumL g D
  | [], _ => rfl
  | q :: D, h => by
    simp only [sumL]
    rw [h q List.mem_cons_self, sumL_congr D fun q hq => h q (List.mem_cons_of_mem _ hq)]
theorem cost_fuel (hV : Valid l) : ∀ (f g n : Nat), n < l.length → n < f → n < g → cost l f n = cost l g n
  | 0, _, _, _, h, _ => absurd h (by omega)
  | _ + 1, 0, _, _, _, h => absurd h (by omega)
  | f + 1, g + 1, n, hn, hf, hg => by
    simp only [cost]
    rw [sumL_congr _ fun q hq => cost_fuel hV f g q.toNat (by have := hV.kid n hn q hq; omega) (by have := hV.kid n hn q hq; omega) (by have := hV.kid n hn q hq; omega)]
def Cheap (b : Nat → Nat → Nat → Nat → List Re.Way × Nat) (k c : Nat) : Prop := ∀ x y m, (b k x y m).1.length ≤ c ∧ (b k x y m).2 + 1 ≤ m + c
theorem bldSeq_cheap (b : Nat → Nat → Nat → Nat → List Re.Way × Nat) (c : Int → Nat) : ∀ (L : List Int), (∀ q, q ∈ L → Cheap b q.toNat (c q)) → ∀ x y m, (bldSeq b (L.map Int.toNat) x y m).1.length ≤ sumL c L ∧ (bldSeq b (L.map Int.toNat) x y m).2 ≤ m + sumL c L
  | [], _, x, y, m => ⟨Nat.zero_le _, Nat.le_add_right _ _⟩
  | [q], h, x, y, m => by
    have := h q (by simp) x y m
    simp only [List.map_cons, List.map_nil, bldSeq, sumL]
    omega
  | q :: q2 :: L, h, x, y, m => by
    have h1 := h q (by simp) x m (m + 1)
    have h2 := bldSeq_cheap b c (q2 :: L) (fun q hq => h q (List.mem_cons_of_mem _ hq)) m y (b q.toNat x m (m + 1)).2
    simp only [List.map_cons, bldSeq] at h2 ⊢
    rw [show sumL c (q :: q2 :: L) = c q + sumL c (q2 :: L) from rfl, List.length_append]
    omega
theorem bldAlt_cheap (b : Nat → Nat → Nat → Nat → List Re.Way × Nat) (c : Int → Nat) (x y : Nat) : ∀ (L : List Int), (∀ q, q ∈ L → Cheap b q.toNat (c q)) → ∀ m, (bldAlt b x y (L.map Int.toNat) m).1.length ≤ sumL c L ∧ (bldAlt b x y (L.map Int.toNat) m).2 ≤ m + sumL c L
  | [], _, m => ⟨Nat.zero_le _, Nat.le_add_right _ _⟩
  | q :: L, h, m => by
    have h1 := h q (by simp) x y m
    have h2 := bldAlt_cheap b c x y L (fun q hq => h q (List.mem_cons_of_mem _ hq)) (b q.toNat x y m).2
    simp only [List.map_cons, bldAlt, sumL, List.length_append]
    omega
theorem bld_cheap (hV : Valid l) (s : ByteArray) : ∀ (f n : Nat), n < l.length → n < f → Cheap (bld (patOf l s) f) n (cost l f n)
  | 0, _, _, h => absurd h (by omega)
  | f + 1, n, hn, hf => fun x y m => by
    have hk : ∀ q, q ∈ (nodeAt l n).f3 → Cheap (bld (patOf l s) f) q.toNat (cost l f q.toNat) := fun q hq => by
      have := hV.kid n hn q hq
      exact bld_cheap hV s f q.toNat (by omega) (by omega)
    simp only [bld, cost]
    by_cases h3 : (patOf l s).kd n < 3
    · rw [if_pos h3]
      simp only [List.length_singleton]
      omega
    rw [if_neg h3]
    by_cases h4 : (patOf l s).kd n = 3
    · rw [if_pos h4]
      have h := bldSeq_cheap (bld (patOf l s) f) (fun q => cost l f q.toNat) (nodeAt l n).f3 hk x y m
      have e : (patOf l s).ks n = (nodeAt l n).f3.map Int.toNat := rfl
      rw [e]
      omega
    rw [if_neg h4]
    by_cases h5 : (patOf l s).kd n = 4
    · rw [if_pos h5]
      have h := bldAlt_cheap (bld (patOf l s) f) (fun q => cost l f q.toNat) x y (nodeAt l n).f3 hk m
      have e : (patOf l s).ks n = (nodeAt l n).f3.map Int.toNat := rfl
      rw [e]
      omega
    rw [if_neg h5]
    have hkd : (patOf l s).kd n = (nodeAt l n).f0.toNat := rfl
    obtain ⟨q, hq⟩ := hV.one n hn (by omega)
    have e : ((patOf l s).ks n).headD 0 = q.toNat := by
      show ((nodeAt l n).f3.map Int.toNat).headD 0 = q.toNat
      rw [hq]; rfl
    have h := hk q (by rw [hq]; simp) m (m + 1) (m + 2)
    rw [e, hq]
    simp only [sumL, List.length_append, List.length_singleton]
    have i1 : (if (patOf l s).kd n = 5 ∨ (patOf l s).kd n = 6 then ([((m : Int) + 1, (m : Int), -1)] : List Re.Way) else []).length ≤ 1 := by split <;> simp
    have i2 : (if (patOf l s).kd n ≠ 6 then ([((x : Int), (y : Int), -1)] : List Re.Way) else []).length ≤ 1 := by split <;> simp
    omega
theorem cost_all (hV : Valid l) : ∀ m, m ≤ l.length → sumN (cost l l.length) m = 5 * m + sumL (fun q => cost l l.length q.toNat) (flatN l m)
  | 0, _ => rfl
  | m + 1, h => by
    simp only [sumN, flatN]
    rw [cost_all hV m (by omega), sumL_append]
    have e : cost l l.length m = 5 + sumL (fun q => cost l l.length q.toNat) (nodeAt l m).f3 := by
      rw [cost_fuel hV l.length (l.length + 1) m (by omega) (by omega) (by omega)]
      rfl
    omega
theorem flat_in (hV : Valid l) : ∀ m, m ≤ l.length → ∀ q, q ∈ flatN l m → 0 ≤ q ∧ q < ((l.length - 1 : Nat) : Int)
  | 0, _, q, h => absurd h (by simp [flatN])
  | m + 1, hm, q, h => by
    rcases List.mem_append.mp h with h1 | h1
    · exact flat_in hV m (by omega) q h1
    · have := hV.kid m (by omega) q h1
      omega
theorem cost_root (hF : Fits l) (h : okB l = true) : cost l l.length (l.length - 1) = 5 * l.length := by
  have hV := okB_valid hF h
  obtain ⟨_, _, hc⟩ := okB_all h
  have hp := hV.pos
  have h1 := cost_all hV l.length (Nat.le_refl _)
  have h2 := sumL_count (cost l l.length) (l.length - 1) (flatN l l.length) (flat_in hV l.length (Nat.le_refl _))
  have h3 : sumN (fun j => (flatN l l.length).count (j : Int) * cost l l.length j) (l.length - 1) = sumN (cost l l.length) (l.length - 1) := sumN_congr _ fun j hj => by
    unfold chkB at hc
    have := List.all_eq_true.mp hc j (List.mem_range.mpr hj)
    rw [decide_eq_true_eq] at this
    rw [this, Nat.one_mul]
  have h4 : sumN (cost l l.length) l.length = sumN (cost l l.length) (l.length - 1) + cost l l.length (l.length - 1) := by
    obtain ⟨m, hm⟩ : ∃ m, l.length = m + 1 := ⟨l.length - 1, by omega⟩
    generalize cost l l.length = f
    rw [hm]; rfl
  omega
theorem okB_ways (hF : Fits l) (h : okB l = true) : waysOkB l = true := by
  have hV := okB_valid hF h
  have hp := hV.pos
  have hl := hV.len
  have hc := bld_cheap hV ⟨#[]⟩ l.length (l.length - 1) (by omega) (by omega) 0 1 2
  rw [cost_root hF h] at hc
  unfold waysOkB
  have e : allWays l = bld (patOf l ⟨#[]⟩) l.length (l.length - 1) 0 1 2 := rfl
  rw [okB_validB hF h, Bool.true_and, e, decide_eq_true (show (bld (patOf l ⟨#[]⟩) l.length (l.length - 1) 0 1 2).1.length ≤ 1000000 by omega), decide_eq_true (show (bld (patOf l ⟨#[]⟩) l.length (l.length - 1) 0 1 2).2 ≤ 1000000 by omega)]
  rfl
end
end Go.Proofs.YtlakdfbfkbndiaaDoor.Q
namespace Go.Proofs.YtlakdfbfkbndiaaDoor.Q
open Go.RowKit Go.Proofs.YtlakdfbfkbndiaaDoor.Re Go.Proofs.YtlakdfbfkbndiaaDoorW.PrintWords Go.Proofs.YtlakdfbfkbndiaaDoorW.PrintLast Go.Proofs.YtlakdfbfkbndiaaDoorW.PrintMore
section
variable {l : List S49} {s : ByteArray} {E : List Re.Way} {N : Nat}
theorem rd_node (l : List S49) (z : Int) : rd_T49 l z = nodeAt l z.toNat := by unfold nodeAt rd_T49; rw [Int.toNat_natCast]
theorem ends_l1 (K0 : Nat) (hK0 : ∀ (x : S49) (c : Int), x.f2.size % 2 = 0 → x.f2.size ≤ 1099511627776 → ∀ k, K0 ≤ k → spec_l2in.f k x.f0 x.f1 x.f2 x.f3 c = some (inS x c)) (hV : Valid l) (hW : WaysIn l E N) (out : List Int) (t : Nat) (ht : t < s.size) (hs : s.size ≤ 500) (m : List Bool) (hm : m.length = N) : ∀ (d i : Nat), i + d = E.length → ∀ (k : Nat) (x : List Bool), x.length = N → K0 ≤ k →
    spec_l2ends.l1 (k + d + 1) l s out m (t : Int) x (i : Int) (E.map toE) (N : Int) = spec_l2ends.l0 k l s out (nextL l s t m (E.drop i) x) ((t + 1 : Nat) : Int) (E.map toE) (N : Int)
  | 0, i, hi, k, x, hx, hk => by
    simp only [spec_l2ends.l1]
    have wt : wrap64 ((t : Int) + 1) = ((t + 1 : Nat) : Int) := by unfold wrap64; omega
    rw [if_neg (by rw [List.length_map]; omega), List.drop_eq_nil_of_le (by omega), wt]
    rfl
  | d + 1, i, hi, k, x, hx, hk => by
    have hlt : i < E.length := by omega
    have hd : E.drop i = E.getD i (0, 0, 0) :: E.drop (i + 1) := by
      rw [List.drop_eq_getElem_cons hlt, List.getD_eq_getElem?_getD, List.getElem?_eq_getElem hlt]; rfl
    have hmem : E.getD i (0, 0, 0) ∈ E := by
      rw [List.getD_eq_getElem?_getD, List.getElem?_eq_getElem hlt]; exact List.getElem_mem hlt
    have hr := rd_toE E i hlt
    generalize E.getD i (0, 0, 0) = e at hd hmem hr
    obtain ⟨a0, a1, b0, b1⟩ := hW.lo e hmem
    obtain ⟨n1, n2⟩ := hW.node e hmem
    have hlen := hW.len
    have wi : wrap64 ((i : Int) + 1) = ((i + 1 : Nat) : Int) := by clear n1 n2 hd hmem hr; unfold wrap64; omega
    have q1 : (i : Int) < ((E.map toE).length : Int) := by rw [List.length_map]; exact Int.ofNat_lt.mpr hlt
    have q2 : (0 : Int) ≤ (i : Int) := Int.natCast_nonneg i
    have q3 : e.1 < (m.length : Int) := by rw [hm]; exact a1
    have q4 : e.2.1 < (x.length : Int) := by rw [hx]; exact b1
    have q5 : (0 : Int) ≤ (t : Int) := Int.natCast_nonneg t
    have q6 : (t : Int) < (s.size : Int) := Int.ofNat_lt.mpr ht
    clear hlen
    have ih := fun (x : List Bool) (hx : x.length = N) => ends_l1 K0 hK0 hV hW out t ht hs m hm d (i + 1) (by omega) k x hx hk
    have e1 : k + (d + 1) + 1 = (k + d + 1) + 1 := rfl
    have hk2 : K0 ≤ k + d + 1 := Nat.le_trans hk (by rw [Nat.add_assoc]; exact Nat.le_add_right _ _)
    rw [e1]
    generalize k + d + 1 = K at ih hk2 ⊢
    simp only [spec_l2ends.l1]
    have hf : (rd_T85 (E.map toE) (i : Int)).f0 = e.1 ∧ (rd_T85 (E.map toE) (i : Int)).f1 = e.2.1 ∧ (rd_T85 (E.map toE) (i : Int)).f2 = e.2.2 := by rw [hr]; exact ⟨rfl, rfl, rfl⟩
    rw [hf.1, hf.2.1, hf.2.2, if_pos q1, if_pos q2, if_pos a0, if_pos q3, rdOf_get m e.1 a0, wi, hd]
    simp only [nextL]
    by_cases c0 : m.getD e.1.toNat false = true
    · rw [if_pos c0, c0, Bool.true_and]
      by_cases c1 : e.2.2 ≥ 0
      · rw [if_pos c1, if_pos c1, if_pos n1, rd_node]
        by_cases c2 : (nodeAt l e.2.2.toNat).f0 = 0
        · have hnl : e.2.2.toNat < l.length := by omega
          rw [if_pos c2, if_pos q5, if_pos q6, hK0 (nodeAt l e.2.2.toNat) (bt s t) (hV.even _ hnl c2) (hV.txt _ hnl) K hk2, Option.bind_some]
          have hsb : setB l s e t = inS (nodeAt l e.2.2.toNat) (bt s t) := by
            unfold setB
            rw [decide_eq_true c1, decide_eq_true c2]; rfl
          rw [hsb]
          cases c3 : inS (nodeAt l e.2.2.toNat) (bt s t) with
          | true =>
            rw [if_pos rfl, if_pos rfl, if_pos b0, if_pos q4]
            exact ih _ (by rw [List.length_set]; exact hx)
          | false =>
            rw [if_neg (by decide), if_neg (by decide)]
            exact ih _ hx
        · rw [if_neg c2]
          have hsb : setB l s e t = false := by
            unfold setB
            rw [decide_eq_false c2]; simp
          rw [hsb, if_neg (by decide)]
          exact ih _ hx
      · rw [if_neg c1]
        have hsb : setB l s e t = false := by
          unfold setB
          rw [decide_eq_false c1]; rfl
        rw [hsb, if_neg (by decide)]
        exact ih _ hx
    · rw [if_neg c0]
      have c0 : m.getD e.1.toNat false = false := by simpa using c0
      rw [c0, Bool.false_and, if_neg (by decide)]
      exact ih _ hx
theorem stp_iff (hW : WaysIn l E N) {e : Re.Way} (he : e ∈ E) (i j : Nat) : stp (patOf l s) e i j ↔ (epsB l s e i = true ∧ j = i) ∨ (setB l s e i = true ∧ i < s.size ∧ j = i + 1) := by
  obtain ⟨n1, n2⟩ := hW.node e he
  unfold stp epsB setB
  by_cases c : e.2.2 < 0
  · rw [if_pos c, decide_eq_true c, decide_eq_false (show ¬ (0 ≤ e.2.2) by omega)]
    simp [eq_comm]
  · rw [if_neg c, decide_eq_false c, decide_eq_true (show 0 ≤ e.2.2 by omega)]
    obtain ⟨k1, k2⟩ := n2 (by omega)
    show leafR (nodeAt l e.2.2.toNat) s i j ↔ _
    unfold leafR
    by_cases d0 : (nodeAt l e.2.2.toNat).f0 = 0
    · rw [if_pos d0, decide_eq_true d0, decide_eq_false (show ¬ (nodeAt l e.2.2.toNat).f0 = 1 by omega), decide_eq_false (show ¬ (nodeAt l e.2.2.toNat).f0 = 2 by omega)]
      simp
      constructor
      · rintro ⟨a, b, c⟩; exact ⟨b, a, c⟩
      · rintro ⟨a, b, c⟩; exact ⟨b, a, c⟩
    · rw [if_neg d0, decide_eq_false d0]
      by_cases d1 : (nodeAt l e.2.2.toNat).f0 = 1
      · rw [if_pos d1, decide_eq_true d1, decide_eq_false (show ¬ (nodeAt l e.2.2.toNat).f0 = 2 by omega)]
        simp
        omega
      · rw [if_neg d1, decide_eq_false d1, decide_eq_true (show (nodeAt l e.2.2.toNat).f0 = 2 by omega)]
        simp
theorem reach_ge (hW : WaysIn l E N) {i0 q j : Nat} (h : Re.Reach (patOf l s) E 0 i0 q j) : i0 ≤ j := by
  induction h with
  | base => exact Nat.le_refl _
  | step he _ hs ih =>
    rcases (stp_iff hW he _ _).mp hs with ⟨_, rfl⟩ | ⟨_, _, rfl⟩
    · exact ih
    · omega
theorem eps_reach (hW : WaysIn l E N) {i0 t : Nat} {m : List Bool} (h : ∀ q, m.getD q false = true → Re.Reach (patOf l s) E 0 i0 q t) {q : Nat} (g : Eps l s E t m q) : Re.Reach (patOf l s) E 0 i0 q t := by
  induction g with
  | base h1 => exact h _ h1
  | step he hb _ ih => exact .step he ih ((stp_iff hW he _ _).mpr (.inl ⟨hb, rfl⟩))
theorem first_inv (hW : WaysIn l E N) (i0 : Nat) (q : Nat) : Eps l s E i0 ((List.replicate N false).set 0 true) q ↔ Re.Reach (patOf l s) E 0 i0 q i0 := by
  have h2 := hW.two
  have hg : ∀ q, ((List.replicate N false).set 0 true).getD q false = true ↔ q = 0 := fun q => by
    rw [getD_set _ _ _ (by rw [List.length_replicate]; omega)]
    have : (List.replicate N false).getD q false = false := by
      rw [List.getD_eq_getElem?_getD, List.getElem?_replicate]
      split <;> rfl
    rw [this]
    simp
  constructor
  · exact eps_reach hW fun q hq => by rw [(hg q).mp hq]; exact .base
  · intro h
    have key : ∀ q j, Re.Reach (patOf l s) E 0 i0 q j → j = i0 → Eps l s E i0 ((List.replicate N false).set 0 true) q := fun q j h => by
      induction h with
      | base => exact fun _ => .base ((hg 0).mpr rfl)
      | step he hr hs ih =>
        rintro rfl
        rcases (stp_iff hW he _ _).mp hs with ⟨hb, rfl⟩ | ⟨_, _, e2⟩
        · exact .step he hb (ih rfl)
        · have := reach_ge hW hr
          omega
    exact key q i0 h rfl
theorem next_inv (hW : WaysIn l E N) {i0 t : Nat} (ht : i0 ≤ t) (hts : t < s.size) (m' : List Bool) (hinv : ∀ q, m'.getD q false = true ↔ Re.Reach (patOf l s) E 0 i0 q t) (q : Nat) :
    Eps l s E (t + 1) (nextL l s t m' E (List.replicate N false)) q ↔ Re.Reach (patOf l s) E 0 i0 q (t + 1) := by
  have hg := (nextL_spec (l := l) (s := s) (t := t) m' E (List.replicate N false) (fun e he => by rw [List.length_replicate]; have := hW.lo e he; omega)).2
  have hz : ∀ q, (List.replicate N false).getD q false = false := fun q => by
    rw [List.getD_eq_getElem?_getD, List.getElem?_replicate]
    split <;> rfl
  constructor
  · refine eps_reach hW fun q hq => ?_
    rcases (hg q).mp hq with h | ⟨e, he, h1, h2, rfl⟩
    · rw [hz] at h; cases h
    · exact .step he ((hinv _).mp h1) ((stp_iff hW he _ _).mpr (.inr ⟨h2, hts, rfl⟩))
  · intro h
    have key : ∀ q j, Re.Reach (patOf l s) E 0 i0 q j → j = t + 1 → Eps l s E (t + 1) (nextL l s t m' E (List.replicate N false)) q := fun q j h => by
      induction h with
      | base => intro e; omega
      | step he hr hs ih =>
        rintro rfl
        rcases (stp_iff hW he _ _).mp hs with ⟨hb, e2⟩ | ⟨hb, _, e2⟩
        · subst e2; exact .step he hb (ih rfl)
        · obtain rfl := Nat.succ.inj e2
          exact .base ((hg _).mpr (.inr ⟨_, he, (hinv _).mpr hr, hb, rfl⟩))
    exact key q (t + 1) h rfl
theorem nats_snoc1 (L : List Nat) (x : Nat) : nats (L ++ [x]) = nats L ++ [(x : Int)] := by unfold nats; simp
theorem ends_l0 (k : Nat) (out : List Int) (m : List Bool) (t : Int) (E' : List S85) (n : Int) (hm : 1 < m.length) (ho : out.length < 17592186044416) :
    spec_l2ends.l0 (k + 1) l s out m t E' n = (spec_l2close.l0 k l s t m true E' n).bind fun m' => spec_l2ends.j1 k l s (if rdOf false m' 1 = true then out ++ [t] else out) m' t E' n := by
  simp only [spec_l2ends.l0, spec_l2close.f]
  refine congrArg _ (funext fun m' => ?_)
  rw [if_pos (show (1 : Int) < (m.length : Int) by omega)]
  by_cases c : rdOf false m' 1 = true
  · rw [if_pos c, if_pos c, if_pos ho]
  · rw [if_neg c, if_neg c]
theorem run_ev (hV : Valid l) (hW : WaysIn l E N) (hs : s.size ≤ 500) (i0 : Nat) (R : Nat → Prop) (hR : R = Re.Reach (patOf l s) E 0 i0 1) : ∀ (d t : Nat), t + d = s.size → i0 ≤ t → ∀ (m : List Bool), m.length = N → (∀ q, Eps l s E t m q ↔ Re.Reach (patOf l s) E 0 i0 q t) →
    Ev (fun k => spec_l2ends.l0 k l s (nats (upto R t)) m (t : Int) (E.map toE) (N : Int)) (nats (upto R (s.size + 1))) := by
  have h2 := hW.two
  have hcnt := hW.cnt
  have key : ∀ (t : Nat), t ≤ s.size → ∀ (m : List Bool), m.length = N → (∀ q, Eps l s E t m q ↔ Re.Reach (patOf l s) E 0 i0 q t) → (∀ m' : List Bool, m'.length = N → (∀ q, m'.getD q false = true ↔ Re.Reach (patOf l s) E 0 i0 q t) → Ev (fun k => spec_l2ends.j1 k l s (nats (upto R (t + 1))) m' (t : Int) (E.map toE) (N : Int)) (nats (upto R (s.size + 1)))) →
      Ev (fun k => spec_l2ends.l0 k l s (nats (upto R t)) m (t : Int) (E.map toE) (N : Int)) (nats (upto R (s.size + 1))) := by
    intro t hts m hm hinv hj
    obtain ⟨m', h1, h3, h4⟩ := close_ev hW hs t (falses m) m (Nat.le_refl _) hm
    have hinv' : ∀ q, m'.getD q false = true ↔ Re.Reach (patOf l s) E 0 i0 q t := fun q => (h3 q).trans (hinv q)
    have hlen : (nats (upto R t)).length < 17592186044416 := by
      have := upto_len R t
      rw [nats_len]
      omega
    refine Ev.succ (Ev.congr (Ev.bind h4 (g := fun k m' => spec_l2ends.j1 k l s (if rdOf false m' 1 = true then nats (upto R t) ++ [(t : Int)] else nats (upto R t)) m' (t : Int) (E.map toE) (N : Int)) ?_) (fun k => ends_l0 k _ m (t : Int) _ _ (by omega) hlen))
    refine Ev.congr (hj m' h1 hinv') fun k => ?_
    have e : (if rdOf false m' 1 = true then nats (upto R t) ++ [(t : Int)] else nats (upto R t)) = nats (upto R (t + 1)) := by
      rw [rdOf_get m' 1 (by decide)]
      by_cases c : m'.getD (1 : Int).toNat false = true
      · rw [if_pos c, upto_succ_pos R t (by rw [hR]; exact (hinv' 1).mp c), nats_snoc1]
      · rw [if_neg c, upto_succ_neg R t (by rw [hR]; exact fun h => c ((hinv' 1).mpr h))]
    show spec_l2ends.j1 k l s (if rdOf false m' 1 = true then nats (upto R t) ++ [(t : Int)] else nats (upto R t)) m' (t : Int) (E.map toE) (N : Int) = _
    rw [e]
  obtain ⟨K0, hK0⟩ : ∃ K0, ∀ (x : S49) (c : Int), x.f2.size % 2 = 0 → x.f2.size ≤ 1099511627776 → ∀ k, K0 ≤ k → spec_l2in.f k x.f0 x.f1 x.f2 x.f3 c = some (inS x c) := ⟨_, fun x c he hs k hk => l2in_eq x c he hs k hk⟩
  intro d
  induction d with
  | zero =>
    intro t ht hit m hm hinv
    refine key t (by omega) m hm hinv fun m' _ _ => Ev.succ (Ev.mk fun k => ?_)
    simp only [spec_l2ends.j1]
    rw [if_pos (by omega), show t + 1 = s.size + 1 by omega]
  | succ d ih =>
    intro t ht hit m hm hinv
    refine key t (by omega) m hm hinv fun m' hm' hinv' => ?_
    have hrep : (List.replicate N false).length = N := List.length_replicate
    have hnx := (nextL_spec (l := l) (s := s) (t := t) m' E (List.replicate N false) (fun e he => by rw [hrep]; have := hW.lo e he; omega)).1
    obtain ⟨K, hK⟩ := ih (t + 1) (by omega) (by omega) (nextL l s t m' E (List.replicate N false)) (by rw [hnx, hrep]) (next_inv hW hit (by omega) m' hinv')
    refine Ev.succ ⟨K + K0 + (E.length + 1), fun k hk => ?_⟩
    obtain ⟨j, rfl⟩ : ∃ j, k = j + E.length + 1 := ⟨k - (E.length + 1), by omega⟩
    have h1 := ends_l1 K0 hK0 hV hW (nats (upto R (t + 1))) t (by omega) hs m' hm' E.length 0 (by omega) j (List.replicate N false) hrep (by omega)
    rw [List.drop_zero] at h1
    have h3 := hK j (by omega)
    generalize j + E.length + 1 = k at h1
    show spec_l2ends.j1 (k + 1) l s (nats (upto R (t + 1))) m' (t : Int) (E.map toE) (N : Int) = _
    simp only [spec_l2ends.j1]
    rw [if_neg (show ¬ (t : Int) = (s.size : Int) by omega), if_pos (Int.natCast_nonneg N), Int.toNat_natCast, if_pos (by omega)]
    exact h1.trans h3
theorem ends_ev (hV : Valid l) (hW : WaysIn l E N) (hs : s.size ≤ 500) (i0 : Nat) (hi : i0 ≤ s.size) :
    Ev (fun k => spec_l2ends.f k (E.map toE) (N : Int) l s (i0 : Int)) (nats (upto (Re.Reach (patOf l s) E 0 i0 1) (s.size + 1))) := by
  have h2 := hW.two
  have hcnt := hW.cnt
  have h := run_ev hV hW hs i0 _ rfl (s.size - i0) i0 (by omega) (Nat.le_refl _) ((List.replicate N false).set 0 true) (by rw [List.length_set, List.length_replicate]) (first_inv hW i0)
  have e : upto (Re.Reach (patOf l s) E 0 i0 1) i0 = [] := by
    have := upto_gap (Re.Reach (patOf l s) E 0 i0 1) 0 i0 (fun j _ hj hr => by have := reach_ge hW hr; omega)
    rwa [Nat.zero_add] at this
  rw [e] at h
  refine Ev.congr h fun k => ?_
  unfold spec_l2ends.f
  rw [if_pos (Int.natCast_nonneg N), Int.toNat_natCast, if_pos (by omega), Option.bind_some, if_pos (by rw [List.length_replicate]; omega)]
  rfl
theorem bld_nodes (P : Pat) (n0 : Nat) (hw : WF P n0) : ∀ (f n : Nat), n < n0 → ∀ a c m e, e ∈ (bld P f n a c m).1 → e.2.2 = -1 ∨ ∃ q : Nat, e.2.2 = (q : Int) ∧ q ≤ n ∧ P.kd q < 3
  | 0, n, _, a, c, m, e, he => absurd he (by simp [bld])
  | f + 1, n, hn, a, c, m, e, he => by
    simp only [bld] at he
    have hk : ∀ k, k ∈ P.ks n → ∀ a c m e, e ∈ (bld P f k a c m).1 → e.2.2 = -1 ∨ ∃ q : Nat, e.2.2 = (q : Int) ∧ q ≤ n ∧ P.kd q < 3 := fun k hk a c m e he => by
      have hlt := hw.lt n hn k hk
      rcases bld_nodes P n0 hw f k (by omega) a c m e he with h | ⟨q, h1, h2, h3⟩
      · exact .inl h
      · exact .inr ⟨q, h1, by omega, h3⟩
    by_cases h3 : P.kd n < 3
    · rw [if_pos h3] at he
      have : e = ((a : Int), (c : Int), (n : Int)) := by simpa using he
      subst this
      exact .inr ⟨n, rfl, Nat.le_refl _, h3⟩
    · rw [if_neg h3] at he
      by_cases h4 : P.kd n = 3
      · rw [if_pos h4] at he
        have seq : ∀ (L : List Nat), (∀ k, k ∈ L → k ∈ P.ks n) → ∀ a c m, e ∈ (bldSeq (bld P f) L a c m).1 → e.2.2 = -1 ∨ ∃ q : Nat, e.2.2 = (q : Int) ∧ q ≤ n ∧ P.kd q < 3 := by
          intro L
          induction L with
          | nil => intro _ a c m he; simp [bldSeq] at he
          | cons k L ih =>
            intro hL a c m he
            cases L with
            | nil => exact hk k (hL k (by simp)) a c m e he
            | cons k2 L =>
              simp only [bldSeq] at he
              rcases List.mem_append.mp he with h | h
              · exact hk k (hL k (by simp)) _ _ _ e h
              · exact ih (fun k hk => hL k (List.mem_cons_of_mem _ hk)) _ _ _ h
        exact seq _ (fun _ h => h) _ _ _ he
      · rw [if_neg h4] at he
        by_cases h5 : P.kd n = 4
        · rw [if_pos h5] at he
          have alt : ∀ (L : List Nat), (∀ k, k ∈ L → k ∈ P.ks n) → ∀ m, e ∈ (bldAlt (bld P f) a c L m).1 → e.2.2 = -1 ∨ ∃ q : Nat, e.2.2 = (q : Int) ∧ q ≤ n ∧ P.kd q < 3 := by
            intro L
            induction L with
            | nil => intro _ m he; simp [bldAlt] at he
            | cons k L ih =>
              intro hL m he
              simp only [bldAlt] at he
              rcases List.mem_append.mp he with h | h
              · exact hk k (hL k (by simp)) _ _ _ e h
              · exact ih (fun k hk => hL k (List.mem_cons_of_mem _ hk)) _ h
          exact alt _ (fun _ h => h) _ he
        · rw [if_neg h5] at he
          obtain ⟨k, hks⟩ := hw.one n hn (by omega)
          have one : ∀ x y : Int, e ∈ ([(x, y, -1)] : List Re.Way) → e.2.2 = -1 := fun x y h => by
            have : e = (x, y, -1) := by simpa using h
            rw [this]
          rcases List.mem_append.mp he with he | he
          · rcases List.mem_append.mp he with he | he
            · rcases List.mem_append.mp he with he | he
              · rcases List.mem_append.mp he with he | he
                · exact .inl (one _ _ he)
                · rw [hks] at he
                  exact hk k (by rw [hks]; simp) _ _ _ e he
              · exact .inl (one _ _ he)
            · split at he
              · exact .inl (one _ _ he)
              · simp at he
          · split at he
            · exact .inl (one _ _ he)
            · simp at he
theorem ways_in (h : waysOk l) : WaysIn l (allWays l).1 (allWays l).2 := by
  obtain ⟨hV, h1, h2⟩ := h
  have hp := hV.pos
  obtain ⟨g1, g2⟩ := bld_fit (patOf l ⟨#[]⟩) l.length (l.length - 1) 0 1 2 (by omega) (by omega)
  refine ⟨fun e he => g2 e he, fun e he => ?_, h1, h2, g1⟩
  rcases bld_nodes (patOf l ⟨#[]⟩) l.length (hV.wf _) l.length (l.length - 1) (by omega) 0 1 2 e he with h | ⟨q, e1, e2, e3⟩
  · rw [h]
    exact ⟨by omega, fun h => absurd h (by decide)⟩
  · rw [e1]
    have hk := hV.kd q (by omega)
    have e3 : (nodeAt l q).f0.toNat < 3 := e3
    exact ⟨by omega, fun _ => by rw [Int.toNat_natCast]; omega⟩
theorem l2ends_ev (h : waysOk l) (hs : s.size ≤ 500) (i0 : Nat) (hi : i0 ≤ s.size) :
    Ev (fun k => spec_l2ends.f k ((allWays l).1.map toE) ((allWays l).2 : Int) l s (i0 : Int)) (nats (endsL l s i0)) := by
  have hV := h.1
  have h1 := ends_ev hV (ways_in h) hs i0 hi
  have e : upto (Re.Reach (patOf l s) (allWays l).1 0 i0 1) (s.size + 1) = endsL l s i0 := by
    unfold endsL
    refine upto_congr _ fun j _ => ?_
    unfold allWays meets
    rw [bld_same (patOf l ⟨#[]⟩) (patOf l s) rfl rfl]
    exact reach_iff (patOf l s) l.length (hV.wf s) (hV.full s) l.length (l.length - 1) (by have := hV.pos; omega) i0 j
  rw [e] at h1
  exact h1
end
end Go.Proofs.YtlakdfbfkbndiaaDoor.Q
namespace Go.Proofs.YtlakdfbfkbndiaaDoor.Q
open Go.RowKit Go.Proofs.YtlakdfbfkbndiaaDoor.Re Go.Proofs.YtlakdfbfkbndiaaDoorW.PrintWords Go.Proofs.YtlakdfbfkbndiaaDoorW.PrintLast Go.Proofs.YtlakdfbfkbndiaaDoorW.PrintMore
theorem okV_iff {l : List S49} (hF : Fits l) : okV l ↔ okB l = true := by
  obtain ⟨K, hK⟩ := implOk_ev hF
  exact (ok_one (hK K (Nat.le_refl _))).symm
theorem sure {l : List S49} (hF : Fits l) : sureL l := by
  obtain ⟨K, hK⟩ := implOk_ev hF
  exact ⟨⟨K, _, hK K (Nat.le_refl _)⟩, fun h => okB_valid hF ((okV_iff hF).mp h)⟩
def conv (x : S56) : S49 := ⟨x.f0, x.f1, x.f2, x.f3⟩
end Go.Proofs.YtlakdfbfkbndiaaDoor.Q
namespace Go.Proofs.YtlakdfbfkbndiaaDoor.Q
open Go.RowKit Go.Proofs.YtlakdfbfkbndiaaDoor.Re Go.Proofs.YtlakdfbfkbndiaaDoorW.PrintWords Go.Proofs.YtlakdfbfkbndiaaDoorW.PrintLast Go.Proofs.YtlakdfbfkbndiaaDoorW.PrintMore
section
variable (l0 : List S56)
theorem rd_conv (i : Nat) : nodeAt (l0.map conv) i = conv (rd_T56 l0 (i : Int)) := by
  unfold nodeAt rd_T49 rd_T56
  rw [List.getD_eq_getElem?_getD, List.getD_eq_getElem?_getD, List.getElem?_map]
  cases l0[((i : Int)).toNat]? <;> rfl
def Given (l0 : List S56) : Prop := l0.length ≤ 9223372036854775807 ∧ ∀ n, n < l0.length → (nodeAt (l0.map conv) n).f2.size ≤ 9223372036854775807 ∧ (nodeAt (l0.map conv) n).f3.length ≤ 9223372036854775807
theorem sz_node (x : S56) (a : Nat) (ha : a ≤ 1048576) (h2 : x.f2.size ≤ 9223372036854775807) (h3 : x.f3.length ≤ 9223372036854775807) :
    ∃ r : Int, laws_szReNode.f x.f0 x.f1 x.f2 x.f3 (a : Int) = some r ∧ (r < 0 ∨ ∃ m : Nat, r = (m : Int) ∧ m ≤ a ∧ x.f2.size ≤ 1048576 ∧ x.f3.length ≤ 1048576) := by
  unfold laws_szReNode.f laws_szIntS.f
  have w1 : wrap64 ((a : Int) - (x.f2.size : Int)) = (a : Int) - (x.f2.size : Int) := by unfold wrap64; omega
  rw [w1]
  by_cases c : (a : Int) - (x.f2.size : Int) < 0
  · rw [if_pos c]; exact ⟨-1, rfl, .inl (by decide)⟩
  · rw [if_neg c]
    have w2 : wrap64 ((a : Int) - (x.f2.size : Int) - (x.f3.length : Int)) = (a : Int) - (x.f2.size : Int) - (x.f3.length : Int) := by unfold wrap64; omega
    rw [w2]
    by_cases d : (a : Int) - (x.f2.size : Int) - (x.f3.length : Int) < 0
    · rw [if_pos d, Option.bind_some, if_pos (by decide)]; exact ⟨-1, rfl, .inl (by decide)⟩
    · rw [if_neg d, Option.bind_some, if_neg d]
      exact ⟨_, rfl, .inr ⟨a - x.f2.size - x.f3.length, by omega, by omega, by omega, by omega⟩⟩
theorem sz_l0 (hG : Given l0) : ∀ (d i a : Nat), i + d = l0.length → a ≤ 1048576 → ∃ r : Int, Ev (fun k => laws_szReNodeS.l0 k l0 (a : Int) (i : Int)) r ∧ (r < 0 ∨ ∀ n, i ≤ n → n < l0.length → (nodeAt (l0.map conv) n).f2.size ≤ 1048576 ∧ (nodeAt (l0.map conv) n).f3.length ≤ 1048576)
  | 0, i, a, hi, ha => by
    refine ⟨a, Ev.succ (Ev.mk fun k => ?_), .inr fun n h1 h2 => absurd h2 (by omega)⟩
    simp only [laws_szReNodeS.l0]
    rw [if_neg (by omega)]
  | d + 1, i, a, hi, ha => by
    have hlt : i < l0.length := by omega
    have hl := hG.1
    have wi : wrap64 ((i : Int) + 1) = ((i + 1 : Nat) : Int) := by unfold wrap64; omega
    obtain ⟨g2, g3⟩ := hG.2 i hlt
    rw [rd_conv] at g2 g3
    obtain ⟨r1, hr1, hc⟩ := sz_node (rd_T56 l0 (i : Int)) a ha g2 g3
    have hu : ∀ k, laws_szReNodeS.l0 (k + 1) l0 (a : Int) (i : Int) = if r1 < 0 then some (-1) else laws_szReNodeS.l0 k l0 r1 ((i + 1 : Nat) : Int) := fun k => by
      conv => lhs; simp only [laws_szReNodeS.l0]
      rw [if_pos (show (i : Int) < (l0.length : Int) by omega), if_pos (Int.natCast_nonneg i), hr1, Option.bind_some, wi]
    rcases hc with c | ⟨m, rfl, hm, s2, s3⟩
    · refine ⟨-1, Ev.succ (Ev.mk fun k => ?_), .inl (by decide)⟩
      rw [hu, if_pos c]
    · obtain ⟨r, h1, h2⟩ := sz_l0 hG d (i + 1) m (by omega) (by omega)
      refine ⟨r, Ev.succ (Ev.congr h1 fun k => by rw [hu, if_neg (by omega)]), ?_⟩
      rcases h2 with h2 | h2
      · exact .inl h2
      · refine .inr fun n n1 n2 => ?_
        by_cases c : n = i
        · subst c; rw [rd_conv]; exact ⟨s2, s3⟩
        · exact h2 n (by omega) n2
theorem sz_ev (hG : Given l0) : ∃ r : Int, Ev (fun k => laws_szReNodeS.f k l0 1048576) r ∧ (r < 0 ∨ (l0.length ≤ 1048576 ∧ Fits (l0.map conv))) := by
  have hl := hG.1
  have w1 : wrap64 (1048576 - (l0.length : Int)) = 1048576 - (l0.length : Int) := by unfold wrap64; omega
  by_cases c : (1048576 : Int) - (l0.length : Int) < 0
  · refine ⟨-1, Ev.mk fun k => ?_, .inl (by decide)⟩
    show laws_szReNodeS.f k l0 1048576 = _
    unfold laws_szReNodeS.f
    rw [w1, if_pos c]
  · obtain ⟨r, h1, h2⟩ := sz_l0 l0 hG l0.length 0 (1048576 - l0.length) (by omega) (by omega)
    refine ⟨r, Ev.congr h1 fun k => ?_, ?_⟩
    · unfold laws_szReNodeS.f
      rw [w1, if_neg c, show (1048576 : Int) - (l0.length : Int) = ((1048576 - l0.length : Nat) : Int) by omega]
      rfl
    · rcases h2 with h2 | h2
      · exact .inl h2
      · exact .inr ⟨by omega, ⟨fun n hn => (h2 n (Nat.zero_le _) (by rwa [List.length_map] at hn)).2, fun n hn => (h2 n (Nat.zero_le _) (by rwa [List.length_map] at hn)).1⟩⟩
end
end Go.Proofs.YtlakdfbfkbndiaaDoor.Q
namespace Go.Proofs.YtlakdfbfkbndiaaDoor.Q
open Go.RowKit Go.Proofs.YtlakdfbfkbndiaaDoor.Re Go.Proofs.YtlakdfbfkbndiaaDoorW.PrintWords Go.Proofs.YtlakdfbfkbndiaaDoorW.PrintLast Go.Proofs.YtlakdfbfkbndiaaDoorW.PrintMore
def half {α : Type} (z : α) (xs : List α) (i : Nat) : List α := xs.take i ++ List.replicate (xs.length - i) z
theorem half_len {α : Type} (z : α) (xs : List α) (i : Nat) (hi : i ≤ xs.length) : (half z xs i).length = xs.length := by
  unfold half
  rw [List.length_append, List.length_take, List.length_replicate]
  omega
theorem half_set {α : Type} (z : α) (xs : List α) (i : Nat) (hi : i < xs.length) : (half z xs i).set i (xs[i]'hi) = half z xs (i + 1) := by
  apply List.ext_getElem?
  intro j
  unfold half
  rw [List.getElem?_set]
  by_cases c : i = j
  · subst c
    rw [if_pos rfl, if_pos (by rw [List.length_append, List.length_take, List.length_replicate]; omega), List.getElem?_append_left (by rw [List.length_take]; omega), List.getElem?_take_of_lt (by omega), List.getElem?_eq_getElem hi]
  · rw [if_neg c]
    by_cases d : j < i
    · rw [List.getElem?_append_left (by rw [List.length_take]; omega), List.getElem?_append_left (by rw [List.length_take]; omega), List.getElem?_take_of_lt d, List.getElem?_take_of_lt (by omega)]
    · rw [List.getElem?_append_right (by rw [List.length_take]; omega), List.getElem?_append_right (by rw [List.length_take]; omega), List.length_take, List.length_take, List.getElem?_replicate, List.getElem?_replicate]
      by_cases e : j < xs.length
      · rw [if_pos (by omega), if_pos (by omega)]
      · rw [if_neg (by omega), if_neg (by omega)]
theorem half_zero {α : Type} (z : α) (xs : List α) : half z xs 0 = List.replicate xs.length z := by unfold half; simp
theorem half_all {α : Type} (z : α) (xs : List α) : half z xs xs.length = xs := by unfold half; simp
theorem toInts_l0 (ks : List Int) (hk : ks.length ≤ 1048576) : ∀ (d i k : Nat), i + d = ks.length → d < k → laws_toIntS.l0 k ks (half 0 ks i) (i : Int) = some ks
  | 0, i, 0, _, h => absurd h (by omega)
  | 0, i, k + 1, hi, _ => by
    have e : i = ks.length := by omega
    subst e
    simp only [laws_toIntS.l0]
    rw [if_neg (by omega), half_all]
  | d + 1, i, 0, _, h => absurd h (by omega)
  | d + 1, i, k + 1, hi, h => by
    have wi : wrap64 ((i : Int) + 1) = ((i + 1 : Nat) : Int) := by unfold wrap64; omega
    have hr : rd ks (i : Int) = ks[i]'(by omega) := by
      unfold rd
      rw [Int.toNat_natCast, List.getD_eq_getElem?_getD, List.getElem?_eq_getElem (by omega)]; rfl
    simp only [laws_toIntS.l0]
    rw [if_pos (by omega), if_pos (by omega), if_pos (by rw [half_len 0 ks i (by omega)]; omega), wi, Int.toNat_natCast, hr, half_set 0 ks i (by omega)]
    exact toInts_l0 ks hk d (i + 1) k (by omega) (by omega)
theorem toInts_ev (ks : List Int) (hk : ks.length ≤ 1048576) : ∀ k, 1048577 ≤ k → laws_toIntS.f k ks = some ks := fun k h => by
  unfold laws_toIntS.f
  rw [if_pos (Int.natCast_nonneg _), Int.toNat_natCast, if_pos (by omega), ← half_zero]
  exact toInts_l0 ks hk ks.length 0 k (by omega) (by omega)
end Go.Proofs.YtlakdfbfkbndiaaDoor.Q
namespace Go.Proofs.YtlakdfbfkbndiaaDoor.Q
open Go.RowKit Go.Proofs.YtlakdfbfkbndiaaDoor.Re Go.Proofs.YtlakdfbfkbndiaaDoorW.PrintWords Go.Proofs.YtlakdfbfkbndiaaDoorW.PrintLast Go.Proofs.YtlakdfbfkbndiaaDoorW.PrintMore
section
variable {l0 : List S56}
theorem toNodes_l0 (hl : l0.length ≤ 1048576) (hF : Fits (l0.map conv)) : ∀ (d i k : Nat), i + d = l0.length → 1048577 + d ≤ k → laws_toReNodeS.l0 k l0 (half z49 (l0.map conv) i) (i : Int) = some (l0.map conv)
  | 0, i, 0, _, h => absurd h (by omega)
  | 0, i, k + 1, hi, _ => by
    have e : i = (l0.map conv).length := by rw [List.length_map]; omega
    simp only [laws_toReNodeS.l0]
    rw [if_neg (by omega), e, half_all]
  | d + 1, i, 0, _, h => absurd h (by omega)
  | d + 1, i, k + 1, hi, h => by
    have hlt : i < (l0.map conv).length := by rw [List.length_map]; omega
    have wi : wrap64 ((i : Int) + 1) = ((i + 1 : Nat) : Int) := by unfold wrap64; omega
    have hk := hF.kids i hlt
    rw [rd_conv] at hk
    have hr : (l0.map conv)[i]'hlt = conv (rd_T56 l0 (i : Int)) := by
      rw [← rd_conv]
      unfold nodeAt rd_T49
      rw [Int.toNat_natCast, List.getD_eq_getElem?_getD, List.getElem?_eq_getElem hlt]; rfl
    have ht : laws_toIntS.f k (rd_T56 l0 (i : Int)).f3 = some (rd_T56 l0 (i : Int)).f3 := toInts_ev _ hk k (by omega)
    have ih := toNodes_l0 hl hF d (i + 1) k (by omega) (by omega)
    rw [← half_set _ _ i hlt, hr] at ih
    simp only [laws_toReNodeS.l0]
    unfold laws_toReNode.f
    rw [if_pos (by omega), if_pos (by omega), ht, Option.bind_some, Option.bind_some, if_pos (by rw [half_len _ _ i (by omega), List.length_map]; omega), wi, Int.toNat_natCast]
    exact ih
theorem toNodes_ev (hl : l0.length ≤ 1048576) (hF : Fits (l0.map conv)) : Ev (fun k => laws_toReNodeS.f k l0) (l0.map conv) := by
  refine ⟨2097154, fun k hk => ?_⟩
  show laws_toReNodeS.f k l0 = _
  unfold laws_toReNodeS.f
  have h := toNodes_l0 hl hF l0.length 0 k (by omega) (by omega)
  rw [half_zero, List.length_map] at h
  rw [if_pos (Int.natCast_nonneg _), Int.toNat_natCast, if_pos (by omega)]
  exact h
end
end Go.Proofs.YtlakdfbfkbndiaaDoor.Q
namespace Go.Proofs.YtlakdfbfkbndiaaDoor.Q
open Go.RowKit Go.Proofs.YtlakdfbfkbndiaaDoor.Re Go.Proofs.YtlakdfbfkbndiaaDoorW.PrintWords Go.Proofs.YtlakdfbfkbndiaaDoorW.PrintLast Go.Proofs.YtlakdfbfkbndiaaDoorW.PrintMore
theorem eqInts_l0 (ks : List Int) (hk : ks.length ≤ 1048576) : ∀ (d i k : Nat), i + d = ks.length → d < k → laws_eqIntS.l0 k ks ks (i : Int) = some true
  | 0, i, 0, _, h => absurd h (by omega)
  | 0, i, k + 1, hi, _ => by
    simp only [laws_eqIntS.l0]
    rw [if_neg (by omega)]
  | d + 1, i, 0, _, h => absurd h (by omega)
  | d + 1, i, k + 1, hi, h => by
    have wi : wrap64 ((i : Int) + 1) = ((i + 1 : Nat) : Int) := by unfold wrap64; omega
    simp only [laws_eqIntS.l0, if_true]
    rw [if_pos (by omega), if_pos (by omega), if_pos (by omega), wi]
    exact eqInts_l0 ks hk d (i + 1) k (by omega) (by omega)
end Go.Proofs.YtlakdfbfkbndiaaDoor.Q
namespace Go.Proofs.YtlakdfbfkbndiaaDoor.Q
open Go.RowKit Go.Proofs.YtlakdfbfkbndiaaDoor.Re Go.Proofs.YtlakdfbfkbndiaaDoorW.PrintWords Go.Proofs.YtlakdfbfkbndiaaDoorW.PrintLast Go.Proofs.YtlakdfbfkbndiaaDoorW.PrintMore
section
variable {l : List S49}
theorem eqNodes_l0 (hl : l.length ≤ 1048576) (hF : Fits l) : ∀ (d i k : Nat), i + d = l.length → 1048577 + d ≤ k → laws_eqReNodeS.l0 k l l (i : Int) = some true
  | 0, i, 0, _, h => absurd h (by omega)
  | 0, i, k + 1, hi, _ => by
    simp only [laws_eqReNodeS.l0]
    rw [if_neg (by omega)]
  | d + 1, i, 0, _, h => absurd h (by omega)
  | d + 1, i, k + 1, hi, h => by
    have wi : wrap64 ((i : Int) + 1) = ((i + 1 : Nat) : Int) := by unfold wrap64; omega
    have hk := hF.kids i (by omega)
    have he : ∀ x : S49, x.f3.length ≤ 1048576 → laws_eqReNode.f k x.f0 x.f1 x.f2 x.f3 x.f0 x.f1 x.f2 x.f3 = some true := fun x hx => by
      unfold laws_eqReNode.f laws_eqIntS.f
      rw [if_pos rfl, if_neg (by simp), if_pos rfl, if_pos rfl, show (0 : Int) = ((0 : Nat) : Int) from rfl, eqInts_l0 x.f3 hx x.f3.length 0 k (by omega) (by omega), Option.bind_some, if_pos rfl]
    simp only [laws_eqReNodeS.l0]
    rw [if_pos (by omega), if_pos (by omega), if_pos (by omega), rdn, he _ hk, Option.bind_some, if_pos rfl, wi]
    exact eqNodes_l0 hl hF d (i + 1) k (by omega) (by omega)
theorem eqNodes_ev (hl : l.length ≤ 1048576) (hF : Fits l) : Ev (fun k => laws_eqReNodeS.f k l l) true := by
  refine ⟨2097154, fun k hk => ?_⟩
  show laws_eqReNodeS.f k l l = _
  unfold laws_eqReNodeS.f
  rw [if_pos rfl]
  exact eqNodes_l0 hl hF l.length 0 k (by omega) (by omega)
def finR (r : Int × Int) : Int × Int := if r.1 < 0 then (-1, 0) else (r.1, r.2 - r.1)
theorem specFind_l0 (hW : waysOk l) {s : ByteArray} (hs : s.size ≤ 500) : ∀ (d i : Nat), i + d = s.size + 1 →
    Ev (fun k => spec_ReFind.l0 k l s (i : Int) ((allWays l).1.map toE) ((allWays l).2 : Int)) (finR (findV l s d i))
  | 0, i, hi => by
    refine Ev.succ (Ev.mk fun k => ?_)
    simp only [spec_ReFind.l0, findV]
    rw [if_neg (by omega)]; rfl
  | d + 1, i, hi => by
    have wi : wrap64 ((i : Int) + 1) = ((i + 1 : Nat) : Int) := by unfold wrap64; omega
    have hE := l2ends_ev hW hs i (by omega)
    have hlen : (endsL l s i).length ≤ 501 := by
      have := upto_len (meets l s (l.length - 1) i) (s.size + 1)
      unfold endsL
      omega
    refine Ev.succ (Ev.congr (Ev.bind hE (g := fun k t => if (t.length : Int) > 0 then (if 0 ≤ (wrap64 ((t.length : Int) - 1)) then (if (wrap64 ((t.length : Int) - 1)) < (t.length : Int) then (some ((i : Int), wrap64 ((rd t (wrap64 ((t.length : Int) - 1))) - (i : Int)))) else (none)) else (none)) else (spec_ReFind.l0 k l s ((i + 1 : Nat) : Int) ((allWays l).1.map toE) ((allWays l).2 : Int))) ?_) (fun k => by
      simp only [spec_ReFind.l0]
      rw [if_pos (show (i : Int) ≤ (s.size : Int) by omega), wi]))
    rw [nats_len]
    simp only [findV]
    by_cases c : (endsL l s i).length = 0
    · rw [if_pos c]
      exact Ev.congr (specFind_l0 hW hs d (i + 1) (by omega)) fun k => if_neg (by omega)
    · have hm : (endsL l s i).getD ((endsL l s i).length - 1) 0 ∈ endsL l s i := by
        rw [List.getD_eq_getElem?_getD, List.getElem?_eq_getElem (by omega)]
        exact List.getElem_mem _
      have hx := (mem_upto.mp hm).1
      have wl : wrap64 (((endsL l s i).length : Int) - 1) = (((endsL l s i).length - 1 : Nat) : Int) := by unfold wrap64; omega
      have hr : rd (nats (endsL l s i)) (((endsL l s i).length - 1 : Nat) : Int) = (((endsL l s i).getD ((endsL l s i).length - 1) 0 : Nat) : Int) := by
        unfold rd
        rw [Int.toNat_natCast, nats_get _ _ (by omega)]
      rw [if_neg c, wl, hr]
      generalize (endsL l s i).getD ((endsL l s i).length - 1) 0 = x at hx
      have wx : wrap64 ((x : Int) - (i : Int)) = (x : Int) - (i : Int) := by unfold wrap64; omega
      refine Ev.mk fun k => ?_
      show (if ((endsL l s i).length : Int) > 0 then _ else _) = _
      rw [if_pos (by omega), if_pos (by omega), if_pos (by omega), wx]
      exact congrArg some (if_neg (by dsimp only; omega)).symm
noncomputable def findA (l : List S49) (s : ByteArray) : Int × Int := if okB l = true ∧ s.size ≤ 500 then findR l s else (-1, 0)
theorem implFind_eq (hF : Fits l) (s : ByteArray) : impl_ReFind.f l s = some (findA l s) := by
  unfold impl_ReFind.f findA
  rw [if_pos (sure hF)]
  by_cases c : okB l = true ∧ s.size ≤ 500
  · rw [if_pos c, if_pos ⟨(okV_iff hF).mpr c.1, c.2⟩]
  · rw [if_neg c, if_neg fun h => c ⟨(okV_iff hF).mp h.1, h.2⟩]
theorem specFind_ev (hF : Fits l) (s : ByteArray) : Ev (fun k => spec_ReFind.f k l s) (findA l s) := by
  unfold findA
  refine Ev.congr (Ev.bind (specOk_ev hF) (g := fun k t => if t = true then (spec_ReFind.j0 k l s (decide ((s.size : Int) > 500))) else (spec_ReFind.j0 k l s true)) ?_) (fun k => rfl)
  have hno : Ev (fun k => spec_ReFind.j0 k l s true) (-1, 0) := Ev.succ (Ev.mk fun k => by simp only [spec_ReFind.j0, if_true])
  by_cases c : okB l = true
  · rw [c]
    refine Ev.congr (f := fun k => spec_ReFind.j0 k l s (decide ((s.size : Int) > 500))) ?_ (fun k => if_pos rfl)
    by_cases hs : s.size ≤ 500
    · rw [if_pos ⟨rfl, hs⟩, decide_eq_false (show ¬ (s.size : Int) > 500 by omega)]
      have hWB := okB_ways hF c
      refine Ev.succ (Ev.congr (specFind_l0 (waysOkB_ok hWB) hs (s.size + 1) 0 (by omega)) fun k => ?_)
      simp only [spec_ReFind.j0]
      unfold spec_l2ways.f
      rw [if_neg (by decide), if_pos hWB, Option.bind_some]
      rfl
    · rw [if_neg (fun h => hs h.2), decide_eq_true (show (s.size : Int) > 500 by omega)]
      exact hno
  · rw [if_neg (fun h => c h.1)]
    exact Ev.congr hno fun k => if_neg c
end
end Go.Proofs.YtlakdfbfkbndiaaDoor.Q
namespace Go.Proofs.YtlakdfbfkbndiaaDoor.Pure
open Go Go.RowKit Go.Proofs.YtlakdfbfkbndiaaDoor.Q Go.Proofs.YtlakdfbfkbndiaaDoorW.PrintWords Go.Proofs.YtlakdfbfkbndiaaDoorW.PrintLast Go.Proofs.YtlakdfbfkbndiaaDoorW.PrintMore
def NodesOk (l0 : List S56) : Prop := ∀ a ∈ l0, okInt .i64 a.f0 ∧ okBool a.f1 ∧ okStr a.f2 ∧ (a.f3.length ≤ maxLen ∧ ∀ b_ ∈ a.f3, okInt .i64 b_)
theorem given (l0 : List S56) (h1 : l0.length ≤ maxLen) (h2 : NodesOk l0) : Given l0 := by
  refine ⟨h1, fun n hn => ?_⟩
  have e : nodeAt (l0.map conv) n = conv (l0[n]'hn) := by
    unfold nodeAt rd_T49
    rw [Int.toNat_natCast, List.getD_eq_getElem?_getD, List.getElem?_map, List.getElem?_eq_getElem hn]; rfl
  rw [e]
  obtain ⟨_, _, h3, h4, _⟩ := h2 _ (List.getElem_mem hn)
  exact ⟨h3, h4⟩
theorem FnExactReTest (l0 : List S56) (a1 : ByteArray) (hm : l0.length ≤ maxLen) (hg : NodesOk l0) (_ : a1.size ≤ maxLen) : ∃ k, laws_FnExactReTest.f k l0 a1 = some true := by
  suffices h : Q.Ev (fun k => laws_FnExactReTest.f k l0 a1) true by
    obtain ⟨K, hK⟩ := h
    exact ⟨K, hK K (Nat.le_refl _)⟩
  by_cases hs : (a1.size : Int) > 1048576
  · refine Q.Ev.mk fun k => ?_
    show laws_FnExactReTest.f k l0 a1 = _
    unfold laws_FnExactReTest.f
    rw [if_pos hs]
  obtain ⟨r, hz, hr⟩ := sz_ev l0 (given l0 hm hg)
  refine Q.Ev.congr (Q.Ev.bind hz (g := fun k t228 => _) ?_) (fun k => if_neg hs)
  rcases hr with hr | ⟨hl, hF⟩
  · exact Q.Ev.mk fun k => if_pos hr
  by_cases hr0 : r < 0
  · exact Q.Ev.mk fun k => if_pos hr0
  refine Q.Ev.congr ?_ (fun k => if_neg hr0)
  have hT := toNodes_ev hl hF
  have hsT : Q.Ev (fun k => spec_ReTest.f k (l0.map conv) a1) (decide (0 ≤ (findA (l0.map conv) a1).1)) :=
    Q.Ev.bind (specFind_ev hF a1) (Q.Ev.mk fun k => rfl)
  refine Q.Ev.bind hT (Q.Ev.bind hsT (Q.Ev.bind hT ?_))
  refine Q.Ev.congr (Q.Ev.bind hT (g := fun k t => (laws_eqReNodeS.f k (l0.map conv) t).bind fun t240 => (if t240 = true then (some true) else (some false))) (Q.Ev.bind (eqNodes_ev (by rw [List.length_map]; exact hl) hF) (Q.Ev.mk fun k => if_pos rfl))) fun k => ?_
  show (impl_ReTest.f (l0.map conv) a1).bind _ = _
  unfold impl_ReTest.f
  rw [implFind_eq hF, Option.map_some, Option.bind_some, if_neg (by simp)]
end Go.Proofs.YtlakdfbfkbndiaaDoor.Pure
namespace Go.Proofs.YtlakdfbfkbndiaaDoor.fnExactReTest
open Go.ChangeShapes Go.WideShapes Go.ChangeAt Go.RowKit
open Go.ChangeMaps (open_string shut_string)
open Go.Lib
open Go.Proofs.YtlakdfbfkbndiaaDoorW.PrintWords
set_option linter.unusedVariables false
theorem own : ownKnob Tryd.prog.godebug = none := by kernel_rfl
theorem laidOut : laidOutB Tryd.prog = true := by kernel_rfl
theorem one3 : Q.Opens Tryd.prog 3 (Kd.int .i64) (fun x => Q.okInt .i64 x) := (Q.open_int_ok Tryd.underlying3 (by kernel_rfl))
theorem one4 : Q.Opens Tryd.prog 4 Kd.bool (fun x => Q.okBool x) := (Q.open_bool_ok Tryd.underlying4 (by kernel_rfl))
theorem one9 : Q.Opens Tryd.prog 9 Kd.string (fun x => Q.okStr x) := (Q.open_str_ok Tryd.underlying9 (by kernel_rfl))
theorem one31 : Q.Opens Tryd.prog 31 (Kd.slice 3 (Kd.int .i64)) (fun x => (x.length ≤ maxLen ∧ ∀ b_ ∈ x, Q.okInt .i64 b_)) := (Q.opens_slice Tryd.underlying31 (by kernel_rfl) one3)
theorem opens56 : Q.Opens Tryd.prog 56 Q.k56 (fun x => (Q.okInt .i64 x.f0 ∧ (Q.okBool x.f1 ∧ (Q.okStr x.f2 ∧ (x.f3.length ≤ maxLen ∧ ∀ b_ ∈ x.f3, Q.okInt .i64 b_))))) := by
  refine Q.opens_struct (good := fun p : Int × Bool × ByteArray × List Int => (Q.okInt .i64 p.1 ∧ (Q.okBool p.2.1 ∧ (Q.okStr p.2.2.1 ∧ (p.2.2.2.length ≤ maxLen ∧ ∀ b_ ∈ p.2.2.2, Q.okInt .i64 b_))))) (fun x : Q.S56 => (x.f0, x.f1, x.f2, x.f3)) (fun p => ⟨p.1, p.2.1, p.2.2.1, p.2.2.2⟩) (fun _ => rfl) Tryd.underlying56 ?_ ?_ ?_ ?_
  · kernel_rfl
  · kernel_rfl
  · rfl
  · refine Q.opensF_cons (good := fun p : Int => Q.okInt .i64 p) (good' := fun p : Bool × ByteArray × List Int => (Q.okBool p.1 ∧ (Q.okStr p.2.1 ∧ (p.2.2.length ≤ maxLen ∧ ∀ b_ ∈ p.2.2, Q.okInt .i64 b_)))) one3 ?_
    refine Q.opensF_cons (good := fun p : Bool => Q.okBool p) (good' := fun p : ByteArray × List Int => (Q.okStr p.1 ∧ (p.2.length ≤ maxLen ∧ ∀ b_ ∈ p.2, Q.okInt .i64 b_))) one4 ?_
    refine Q.opensF_cons (good := fun p : ByteArray => Q.okStr p) (good' := fun p : List Int => (p.length ≤ maxLen ∧ ∀ b_ ∈ p, Q.okInt .i64 b_)) one9 ?_
    exact Q.opensF_one one31
set_option maxRecDepth 100000 in
theorem lifted (os : Os) (started : os.Started) (H : Type) (enc : TypeId × Value → H) :
    ReturnsInHanded {} Tryd.checked os 4 .any (fun w args => (Rows.fnExactReTestSpec.pre enc Tryd.prog Tryd.f4 [] false w args ∧ laidMetH Tryd.prog Rows.fnExactReTestRow.laid w) ∧ sizedMet enc Tryd.prog Tryd.f4 (OpenSpec.ofChange Rows.fnExactReTestSpec) false w args)
      (Rows.fnExactReTestSpec.post enc Tryd.prog Tryd.f4 false true false false) := by
  refine returnsInHanded_of_change_and_shaped_ytlakdfbfkbndiaadoor (C := Tryd.checked) (X := fun w _ => laidMetH Tryd.prog Rows.fnExactReTestRow.laid w) (fun _ _ _ hh h => h.of_heap hh) own started (by kernel_rfl) Tryd.func4
    (ChangeSpec.witness_shaped (enc := enc) (C := Tryd.checked) (os := os) (X := fun w _ => laidMetH Tryd.prog Rows.fnExactReTestRow.laid w) false (World.laidAll Tryd.prog os Rows.fnExactReTestRow.laid) #[.slice none 0 0, .string ByteArray.empty] 8 (World.laidAll_os _ _ _)
      (World.shaped_of_ZipB (by kernel_rfl) (by kernel_rfl)) (by kernel_rfl) (by kernel_rfl) (by kernel_rfl)
      (by rw [MakeChecks.laidMetH_plain _ _ _ (by kernel_rfl)]; exact laidMet_laidAll _ (by kernel_rfl) (by kernel_rfl))) ?_
  intro W base args ds gs before hval0 hW hcnd hsz0 hL hS _
  have hsz : (DataW.weightsEach Tryd.prog (Tryd.f4.params.toList ++ Rows.fnExactReTestSpec.plain.varTypes Tryd.prog) (ds ++ gs)).all (· ≤ reachBytes) = true := hsz0
  have hval : ∀ (j : Nat) t v, Tryd.f4.params[j]? = some t → args[j]? = some v → Value.okWide Tryd.prog W .any base t v := hval0
  have hW' := hW
  obtain ⟨p, q, hA0, hV, rfl, hfz, hnd⟩ := hW
  have hA : DataW.TrodAll enc Tryd.prog W 0 (fun _ => true) true Tryd.f4.params.toList args.toList ds p := hA0
  rw [Tryd.params4] at hA hval hsz
  obtain ⟨v0, vs0, d0, ds0, p0, q0, hargs, rfl, rfl, h0, r0⟩ := trodAll_cons hA
  obtain ⟨v1, vs1, d1, ds1, p1, q1, rfl, rfl, rfl, h1, r1⟩ := trodAll_cons r0
  obtain ⟨rfl, rfl, rfl⟩ := trodAll_nil r1
  obtain rfl : args = #[v0, v1] := by cases args; simp_all
  obtain ⟨rfl, rfl⟩ := trodVars_none hV
  have k0 := h0
  have lt0 : ∀ x ∈ p0, x.block < W.heap.size := by obtain ⟨m, hm⟩ := k0; exact DataW.trod_lt m _ _ _ hm
  obtain ⟨a0, len0, cap0, rfl⟩ := okWide_slice Tryd.underlying22 (hval 0 22 v0 rfl rfl)
  obtain ⟨f0, hf0⟩ := h0
  obtain ⟨A0, c0, l0, e0, hl0, hC0, hm0, hg0⟩ := Q.slice_reads Tryd.underlying22 opens56 hf0
  simp [Value.cells] at e0
  obtain ⟨rfl, rfl, rfl⟩ := e0
  have k1 := h1
  have lt1 : ∀ x ∈ p1, x.block < W.heap.size := by obtain ⟨m, hm⟩ := k1; exact DataW.trod_lt m _ _ _ hm
  obtain ⟨a1, rfl⟩ := okWide_string Tryd.underlying9 (hval 1 9 v1 rfl rfl)
  have m1 : a1.size ≤ maxLen := by
    obtain ⟨fuel, hf⟩ := h1
    obtain ⟨s_, e_, _, hs_⟩ := DataW.trod_string Tryd.underlying9 hf
    simp [Value.cells] at e_
    rw [e_]; exact hs_
  clear hA0 hval0 hsz0 hsz
  rw [MakeChecks.laidMetH_plain _ _ _ (by kernel_rfl)] at hL
  have hTabs : Q.Tabs W := Q.tabs_of_laid hL (.head _) hS
  obtain ⟨k, hk⟩ := Pure.FnExactReTest l0 a1 hm0 hg0 m1
  refine (Q.laws_FnExactReTest.calls k _ _ l0 a1 true W hC0 hl0 hk hTabs).mono fun e W' ⟨he, bel⟩ => ?_
  subst he
  exact ⟨_, rfl, _, _, _, [], _, [], hW', trodAll_mk1 (shut_bool Tryd.underlying4 _), (trodAll_cons_mk (Below.trod laidOut (by kernel_rfl) (of_decide_eq_true (by kernel_rfl)) k0 bel lt0) (trodAll_cons_mk (Below.trod laidOut (by kernel_rfl) (of_decide_eq_true (by kernel_rfl)) k1 bel lt1) trodAll_mk0)), rfl, bel.frame _, fun h => by cases h⟩
theorem over : Rows.fnExactReTestRow.holds Tryd.pinned (OpenSpec.ofChange Rows.fnExactReTestSpec) :=
  OpenClaim.holds_of_wide 4 Tryd.f4 rfl rfl rfl rfl rfl rfl rfl ⟨rfl, rfl, rfl, rfl, rfl⟩ rfl rfl rfl rfl rfl (by kernel_rfl) Tryd.func4 (by kernel_rfl)
    (of_decide_eq_true (by kernel_rfl)) (by unfold Func.isWrapper; first | (rw [if_pos (by decide +kernel)]; kernel_rfl) | (rw [if_neg (by decide +kernel)]; exact ⟨rfl, rfl⟩))
    (fun os started H enc _ => lifted os started H enc)
theorem proved : Rows.FnExactReTestCardSaid :=
  Claim7.holds_tied_plain_at .later [] [.data] true (true, "653ba40917454f3c57c45bf7bd6e7a755b8c14dc4c6435c6eceb616f191040d8") false over (fun _ h => by cases h) (by kernel_rfl) (fun _ h => by cases h) fnExactReTest_row_tie rfl ⟨rfl, rfl⟩ (by kernel_rfl) rfl
    (fun f fn hf hfn => by
      obtain rfl : f = 4 := Option.some.inj ((show Tryd.prog.funcNamed Rows.fnExactReTestRow.func = some 4 by kernel_rfl).symm.trans hf) |>.symm
      obtain rfl : fn = Tryd.f4 := (Option.some.inj (Tryd.func4.symm.trans hfn)).symm
      exact ⟨by kernel_rfl, fun j t ht => by
        rw [Tryd.params4] at ht
        have hm : t ∈ [22, 9] := by simpa using Array.mem_of_getElem? ht
        have hall : ([22, 9].all fun u => !Tryd.prog.wantsStandIn u) = true := by kernel_rfl
        exact (show Tryd.prog.wantsStandIn t = false by simpa using List.all_eq_true.1 hall t hm)⟩)
    (by kernel_rfl)
#print axioms proved
end Go.Proofs.YtlakdfbfkbndiaaDoor.fnExactReTest
namespace Go.Proofs.YtlakdfbfkbndiaaDoor
theorem fnExactReTest_holds : Rows.FnExactReTestCardSaid := fnExactReTest.proved
end Go.Proofs.YtlakdfbfkbndiaaDoor
