/- What the row of FnExactReEnds rests on, and the row: for every input that can be read the call returns true and the input reads as it did; condition: what the row lists of the library reads as the program lays it. -/
import Derived.Test.YtlakdfbfkbndiaaDoorKFnExactReEndse
set_option linter.unusedVariables false
set_option linter.unusedSimpArgs false
namespace Go.Proofs.YtlakdfbfkbndiaaDoor.Q
open Go.RowKit Go.Proofs.YtlakdfbfkbndiaaDoor.Re Go.Proofs.YtlakdfbfkbndiaaDoorW.PrintWords Go.Proofs.YtlakdfbfkbndiaaDoorW.PrintLast Go.Proofs.YtlakdfbfkbndiaaDoorW.PrintMore
section
variable {l : List S49} {A0 : Option Addr} {c0 : Nat} {w0 : World}
set_option maxRecDepth 100000 in
set_option maxHeartbeats 4000000 in
theorem build_step (hV : Valid l) (hr : Kd.C k49 w0 A0 l.length l) (f n : Nat) (hn : n < l.length) (ih : ∀ m, m < n → BuildsAt l A0 c0 w0 f m) : BuildsAt l A0 c0 w0 (f + 1) n := by
  intro a c n0 bm v es w ha hc hBe hM hel hnl
  have HV := Aside0.mk hV
  have HR := Aside0.mk hr
  have HIH := Aside0.mk ih
  have HBe := Aside0.mk hBe
  have HM := Aside0.mk hM
  have HEl := Aside0.mk hel
  have HNl := Aside0.mk hnl
  have HN := Aside0.mk hn
  have HAC : Aside0 (a < n0 ∧ c < n0) := ⟨⟨ha, hc⟩⟩
  have HFit := Aside0.mk (bld_fit (patOf l ⟨#[]⟩) (f + 1) n a c n0 ha hc)
  obtain ⟨ad, A3, c3, e0, hx0, hx1, hx2, hx3, hl3, hi3⟩ := at_T49 hr (n : Int) (by omega) (by omega)
  simp only [Int.toNat_natCast] at hx0 hx1 hx2 hx3
  have hbl : bld (patOf l ⟨#[]⟩) (f + 1) n a c n0 = bld (patOf l ⟨#[]⟩) (f + 1) n a c n0 := rfl
  obtain ⟨x, hxe⟩ : ∃ x, x = rd_T49 l n := ⟨_, rfl⟩
  rw [← hxe] at hx0 hx1 hx2 hx3 hl3 hi3
  have HXE : Aside0 (nodeAt l n = x) := ⟨hxe.symm⟩
  have HRK := Aside0.mk hi3
  clear hxe hi3 hl3
  replace hx0 := (hBe.cell (World.block_lt_of_cell? w0 _ hx0)).trans hx0
  replace hx1 := (hBe.cell (World.block_lt_of_cell? w0 _ hx1)).trans hx1
  replace hx2 := (hBe.cell (World.block_lt_of_cell? w0 _ hx2)).trans hx2
  replace hx3 := (hBe.cell (World.block_lt_of_cell? w0 _ hx3)).trans hx3
  subst e0
  have p0 : ((0 : Int) ≤ (n : Int)) = True := eq_true (by omega)
  have p1 : ((n : Int) < (l.length : Int)) = True := eq_true (by omega)
  clear hr ih hBe hM hel hnl ha hc hbl hV hn
  go_enter Tryd.func56, Tryd.ntmps56
  go_upto_region 1 with fail
  obtain ⟨w1, hw1⟩ : ∃ w1, w1 = w.alloc (.cells #[.int .i64 x.f0, .bool x.f1, .string x.f2, .slice A3 x.f3.length c3] 49) := ⟨_, rfl⟩
  rw [← hw1]
  have hb1 : Below w.heap.size w w1 := by rw [hw1]; exact (Below.refl _ _).alloc (Nat.le_refl _) _
  have HM1 := Aside0.mk (HM.out.move hb1)
  have HBw : Aside0 (Bw w0.heap.size bm w0 w w.heap.size x A3 c3 w1) := ⟨{
    b0 := HBe.out.trans (hb1.mono HM.out.sz)
    bw := hb1.mono HM.out.sz
    el := Else.below hb1
    loc := by rw [hw1]; exact heap_alloc_new _ _
    ne := by have := (Array.getElem?_eq_some_iff.mp HM.out.obj).1; omega }⟩
  clear hw1 hb1 hx0 hx1 hx2 hx3
  have hcl := HBw.out.loc
  have hn0 : w1.cell? ⟨w.heap.size, 0, none⟩ = some (.int .i64 x.f0) := by simp [World.cell?, hcl]
  have hn3 : w1.cell? ⟨w.heap.size, 3, none⟩ = some (.slice A3 x.f3.length c3) := by simp [World.cell?, hcl]
  have hkd := HV.out.kd n HN.out
  rw [HXE.out] at hkd
  obtain ⟨f0, f1, f2, f3⟩ := x
  dsimp only at hkd hn0 hn3 HRK
  have hcase : f0 = 0 ∨ f0 = 1 ∨ f0 = 2 ∨ f0 = 3 ∨ f0 = 4 ∨ f0 = 7 ∨ f0 = 5 ∨ f0 = 6 := by omega
  clear hkd hcl
  rcases hcase with rfl | rfl | rfl | rfl | rfl | rfl | rfl | rfl
  · have hbv : bld (patOf l ⟨#[]⟩) (f + 1) n a c n0 = ([((a : Int), (c : Int), (n : Int))], n0) := by
      simp only [bld]
      rw [if_pos (by show (nodeAt l n).f0.toNat < 3; rw [HXE.out]; first | exact (by decide : (0 : Int).toNat < 3) | exact (by decide : (1 : Int).toNat < 3) | exact (by decide : (2 : Int).toNat < 3))]
    have hel := HEl.out
    rw [hbv] at hel
    have HBv := Aside0.mk hbv
    clear hbv
    have hcall := l2way_calls w0.heap.size bm v n0 a c n es w1 HM1.out (by omega)
    clear hel
    go_wp2_with fail
    refine hcall.mono ?_
    rintro e w' ⟨rfl, v', hM', hB', hE'⟩
    dsimp only
    have HR1 : Aside0 (Mach w0.heap.size bm v' n0 (es ++ [((a : Int), (c : Int), (n : Int))].map toE) w' ∧ Below w0.heap.size w w' ∧ Else bm w w') := ⟨hM', HBw.out.bw.trans hB', HBw.out.el.trans hE'⟩
    clear hcall hM' hB' hE'
    go_wp2_with fail
    go_end0
    rw [HBv.out]
    exact ⟨rfl, v', HR1.out.1, HR1.out.2.1, HR1.out.2.2⟩
  · have hbv : bld (patOf l ⟨#[]⟩) (f + 1) n a c n0 = ([((a : Int), (c : Int), (n : Int))], n0) := by
      simp only [bld]
      rw [if_pos (by show (nodeAt l n).f0.toNat < 3; rw [HXE.out]; first | exact (by decide : (0 : Int).toNat < 3) | exact (by decide : (1 : Int).toNat < 3) | exact (by decide : (2 : Int).toNat < 3))]
    have hel := HEl.out
    rw [hbv] at hel
    have HBv := Aside0.mk hbv
    clear hbv
    have hcall := l2way_calls w0.heap.size bm v n0 a c n es w1 HM1.out (by omega)
    clear hel
    go_wp2_with fail
    refine hcall.mono ?_
    rintro e w' ⟨rfl, v', hM', hB', hE'⟩
    dsimp only
    have HR1 : Aside0 (Mach w0.heap.size bm v' n0 (es ++ [((a : Int), (c : Int), (n : Int))].map toE) w' ∧ Below w0.heap.size w w' ∧ Else bm w w') := ⟨hM', HBw.out.bw.trans hB', HBw.out.el.trans hE'⟩
    clear hcall hM' hB' hE'
    go_wp2_with fail
    go_end0
    rw [HBv.out]
    exact ⟨rfl, v', HR1.out.1, HR1.out.2.1, HR1.out.2.2⟩
  · have hbv : bld (patOf l ⟨#[]⟩) (f + 1) n a c n0 = ([((a : Int), (c : Int), (n : Int))], n0) := by
      simp only [bld]
      rw [if_pos (by show (nodeAt l n).f0.toNat < 3; rw [HXE.out]; first | exact (by decide : (0 : Int).toNat < 3) | exact (by decide : (1 : Int).toNat < 3) | exact (by decide : (2 : Int).toNat < 3))]
    have hel := HEl.out
    rw [hbv] at hel
    have HBv := Aside0.mk hbv
    clear hbv
    have hcall := l2way_calls w0.heap.size bm v n0 a c n es w1 HM1.out (by omega)
    clear hel
    go_wp2_with fail
    refine hcall.mono ?_
    rintro e w' ⟨rfl, v', hM', hB', hE'⟩
    dsimp only
    have HR1 : Aside0 (Mach w0.heap.size bm v' n0 (es ++ [((a : Int), (c : Int), (n : Int))].map toE) w' ∧ Below w0.heap.size w w' ∧ Else bm w w') := ⟨hM', HBw.out.bw.trans hB', HBw.out.el.trans hE'⟩
    clear hcall hM' hB' hE'
    go_wp2_with fail
    go_end0
    rw [HBv.out]
    exact ⟨rfl, v', HR1.out.1, HR1.out.2.1, HR1.out.2.2⟩
  · have HKid := Aside0.mk (HV.out.kid n HN.out)
    rw [HXE.out] at HKid
    have hks : (patOf l ⟨#[]⟩).ks n = f3.map Int.toNat := by show (nodeAt l n).f3.map Int.toNat = _; rw [HXE.out]
    have hbv : bld (patOf l ⟨#[]⟩) (f + 1) n a c n0 = bldSeq (bld (patOf l ⟨#[]⟩) f) (f3.map Int.toNat) a c n0 := by
      have e1 : (patOf l ⟨#[]⟩).kd n = 3 := by show (nodeAt l n).f0.toNat = 3; rw [HXE.out]; rfl
      simp only [bld]
      rw [e1, hks]; rfl
    have HBv := Aside0.mk hbv
    have hel := HEl.out
    have hnl := HNl.out
    rw [hbv] at hel hnl
    have HLim : Aside0 (es.length + (bldSeq (bld (patOf l ⟨#[]⟩) f) (f3.map Int.toNat) a c n0).1.length ≤ 1000000 ∧ (bldSeq (bld (patOf l ⟨#[]⟩) f) (f3.map Int.toNat) a c n0).2 ≤ 1000000) := ⟨hel, hnl⟩
    have HL3 : Aside0 (f3.length ≤ 9223372036854775807) := ⟨HRK.out.2.1⟩
    have HFits : Aside0 (∀ k, Fit (bld (patOf l ⟨#[]⟩) f) k) := ⟨fun k => bld_fit _ f k⟩
    generalize hbb : bld (patOf l ⟨#[]⟩) f = bb at *
    have HBB := Aside0.mk hbb
    clear hbb
    clear hbv hel hnl hks
    go_wp2_with fail
    clear hn0 hn3
    go_loopg [3, 11] f3.length (fun gg v3 v11 wr => ∃ (j aj nj : Nat) (vj : Value) (pre : List Re.Way), v3 = .int .i64 aj ∧ v11 = .int .i64 j ∧ j ≤ f3.length ∧ f3.length - j ≤ gg ∧ Aside0 (aj < nj ∧ c < nj) ∧ Aside0 (bldSeq bb (f3.map Int.toNat) a c n0 = (pre ++ (bldSeq bb ((f3.drop j).map Int.toNat) aj c nj).1, (bldSeq bb ((f3.drop j).map Int.toNat) aj c nj).2)) ∧ Aside0 (Mach w0.heap.size bm vj nj (es ++ pre.map toE) wr) ∧ Aside0 (Bw w0.heap.size bm w0 w w.heap.size ⟨3, f1, f2, f3⟩ A3 c3 wr))
    case atStart => exact ⟨0, a, n0, v, [], rfl, rfl, by omega, by omega, HAC, ⟨by simp⟩, ⟨by simpa using HM1.out⟩, HBw⟩
    case round =>
      clear HM1 HBw
      obtain ⟨j, aj, nj, vj, pre, rfl, rfl, hj, hg, HA, HEq, HMj, HBw⟩ := hrel
      have hl := HBw.out.loc
      have hn3 : wr.cell? ⟨w.heap.size, 3, none⟩ = some (.slice A3 f3.length c3) := by simp [World.cell?, hl]
      clear hl
      by_cases hlt : j < f3.length
      · have HLt := Aside0.mk hlt
        have hlt0 : (j : Int) < (f3.length : Int) := by omega
        have hj63 : (f3.length : Int) ≤ 9223372036854775807 := by have := HL3.out; omega
        obtain ⟨ad3, cc, e0, _, hK, hcell⟩ := Kd.C_get HRK.out (0 : Int) j (by omega) (by omega)
        subst e0
        have hK : cc = [.int .i64 (f3.getD ((j : Int)).toNat 0)] := hK
        subst hK
        have hce := hcell 0 _ rfl
        replace hce : w0.cell? (ad3.add j) = some (.int .i64 (f3.getD j 0)) := by simpa [Kd.int, Kd.scalar] using hce
        have HCe := Aside0.mk hce
        replace hce := (HBw.out.b0.cell (World.block_lt_of_cell? w0 _ hce)).trans hce
        clear hcell
        have HDr : Aside0 (f3.getD j 0 ∈ f3 ∧ f3.drop j = f3.getD j 0 :: f3.drop (j + 1)) := ⟨by
          rw [List.getD_eq_getElem?_getD, List.getElem?_eq_getElem hlt]
          exact ⟨List.getElem_mem hlt, List.drop_eq_getElem_cons hlt⟩⟩
        generalize f3.getD j 0 = z at *
        have hz := HKid.out z HDr.out.1
        obtain ⟨m, rfl⟩ : ∃ m : Nat, z = (m : Int) := ⟨z.toNat, by omega⟩
        have HMn : Aside0 (m < n) := ⟨by omega⟩
        clear hz
        by_cases hj1 : j + 1 < f3.length
        · have hj1i : ((j : Int) + 1 < (f3.length : Int)) = True := eq_true (by omega)
          have HJ1 := Aside0.mk hj1
          have ho := HMj.out.obj
          have hc1 : wr.cell? ⟨bm, 1, none⟩ = some (.int .i64 nj) := by simp [World.cell?, ho]
          have hz1 : wr.frozen? ⟨bm, 1, none⟩ = false := by simp [World.frozen?, ho]
          clear ho hj1
          have HCs : Aside0 (∃ z2 r2, f3.drop (j + 1) = z2 :: r2) := ⟨⟨_, _, List.drop_eq_getElem_cons HJ1.out⟩⟩
          have HEq2 : Aside0 (bldSeq bb (f3.map Int.toNat) a c n0 = ((pre ++ (bb m aj nj (nj + 1)).1) ++ (bldSeq bb ((f3.drop (j + 1)).map Int.toNat) nj c (bb m aj nj (nj + 1)).2).1, (bldSeq bb ((f3.drop (j + 1)).map Int.toNat) nj c (bb m aj nj (nj + 1)).2).2)) := ⟨by
            obtain ⟨z2, r2, h2⟩ := HCs.out
            rw [HEq.out, HDr.out.2, h2]
            simp only [List.map_cons, Int.toNat_natCast, bldSeq, List.append_assoc]⟩
          have HX : Aside0 (nj + 1 ≤ (bb m aj nj (nj + 1)).2 ∧ (bb m aj nj (nj + 1)).2 ≤ 1000000 ∧ es.length + pre.length + (bb m aj nj (nj + 1)).1.length ≤ 1000000) := ⟨by
            have h1 := (HFits.out m aj nj (nj + 1) (by have := HA.out; omega) (by omega)).1
            have h2 := (bldSeq_fit bb ((f3.drop (j + 1)).map Int.toNat) (fun k _ => HFits.out k) nj c (bb m aj nj (nj + 1)).2 (by omega) (by have := HA.out; omega)).1
            have h3 := HLim.out
            rw [HEq2.out] at h3
            simp only [List.length_append] at h3
            omega⟩
          have hnjb : (nj : Int) ≤ 1000000 := by have := HX.out; omega
          go_upto_region 24 with fail
          obtain ⟨w2, hw2⟩ : ∃ w2, w2 = wr.setCell ⟨bm, 1, none⟩ (.int .i64 ((nj : Int) + 1)) := ⟨_, rfl⟩
          rw [← hw2]
          obtain ⟨hM2, hB2, hE2⟩ := HMj.out.count ((nj : Int) + 1)
          rw [← hw2] at hM2 hB2 hE2
          have HBw2 := Aside0.mk (HBw.out.step hB2 hE2)
          have hl2 := HBw2.out.loc
          have hn32 : w2.cell? ⟨w.heap.size, 3, none⟩ = some (.slice (some ad3) f3.length c3) := by simp [World.cell?, hl2]
          have hce2 := (HBw2.out.b0.cell (World.block_lt_of_cell? w0 _ HCe.out)).trans HCe.out
          have hcall := HIH.out m HMn.out aj nj (nj + 1) bm vj (es ++ pre.map toE) w2 (by have := HA.out; omega) (by omega) HBw2.out.b0 (by rw [show ((nj + 1 : Nat) : Int) = (nj : Int) + 1 by omega]; exact hM2) (by rw [HBB.out, List.length_append, List.length_map]; exact HX.out.2.2) (by rw [HBB.out]; exact HX.out.2.1)
          rw [HBB.out] at hcall
          clear hw2 hM2 hB2 hE2 hc1 hz1 hl2 HMj HBw hn3 hce
          go_wp2_with fail
          refine hcall.mono ?_
          rintro e w4 ⟨rfl, v4, hM4, hB4, hE4⟩
          dsimp only
          have HBw4 := Aside0.mk (HBw2.out.step hB4 hE4)
          have HM4 : Aside0 (Mach w0.heap.size bm v4 ((bb m aj nj (nj + 1)).2 : Nat) (es ++ (pre ++ (bb m aj nj (nj + 1)).1).map toE) w4) := ⟨by rw [List.map_append, ← List.append_assoc]; exact hM4⟩
          clear hcall hM4 hB4 hE4 hn32 hce2
          go_wp2_with fail
          go_roundg (f3.length - (j + 1))
          case measure => have := HLt.out; omega
          case rel => exact ⟨j + 1, nj, _, v4, _, rfl, by go_num, HLt.out, Nat.le_refl _, ⟨by have := HX.out; omega, by have := HX.out; have := HA.out; omega⟩, HEq2, HM4, HBw4⟩
        · have hj1i : ((j : Int) + 1 < (f3.length : Int)) = False := eq_false (by omega)
          have HNil : Aside0 (f3.drop (j + 1) = []) := ⟨List.drop_eq_nil_of_le (by omega)⟩
          have HEq2 : Aside0 (bldSeq bb (f3.map Int.toNat) a c n0 = (pre ++ (bb m aj c nj).1, (bb m aj c nj).2)) := ⟨by
            rw [HEq.out, HDr.out.2, HNil.out]
            simp only [List.map_cons, List.map_nil, Int.toNat_natCast, bldSeq]⟩
          have HX : Aside0 (nj ≤ (bb m aj c nj).2 ∧ (bb m aj c nj).2 ≤ 1000000 ∧ es.length + pre.length + (bb m aj c nj).1.length ≤ 1000000) := ⟨by
            have h1 := (HFits.out m aj c nj HA.out.1 HA.out.2).1
            have h3 := HLim.out
            rw [HEq2.out] at h3
            simp only [List.length_append] at h3
            omega⟩
          clear hj1
          have hcall := HIH.out m HMn.out aj c nj bm vj (es ++ pre.map toE) wr HA.out.1 HA.out.2 HBw.out.b0 HMj.out (by rw [HBB.out, List.length_append, List.length_map]; exact HX.out.2.2) (by rw [HBB.out]; exact HX.out.2.1)
          rw [HBB.out] at hcall
          go_wp2_with fail
          refine hcall.mono ?_
          rintro e w4 ⟨rfl, v4, hM4, hB4, hE4⟩
          dsimp only
          have HBw4 := Aside0.mk (HBw.out.step hB4 hE4)
          have HM4 : Aside0 (Mach w0.heap.size bm v4 ((bb m aj c nj).2 : Nat) (es ++ (pre ++ (bb m aj c nj).1).map toE) w4) := ⟨by rw [List.map_append, ← List.append_assoc]; exact hM4⟩
          clear hcall hM4 hB4 hE4 hn3 hce HMj HBw
          go_wp2_with fail
          go_roundg (f3.length - (j + 1))
          case measure => have := HLt.out; omega
          case rel => exact ⟨j + 1, c, _, v4, _, rfl, by go_num, HLt.out, Nat.le_refl _, ⟨by have := HX.out; have := HA.out; omega, by have := HX.out; have := HA.out; omega⟩, ⟨by rw [HEq2.out, HNil.out]; simp [bldSeq]⟩, HM4, HBw4⟩
      · obtain rfl : j = f3.length := by omega
        have hlt0 : ¬ (f3.length : Int) < (f3.length : Int) := by omega
        have HFin : Aside0 (bldSeq bb (f3.map Int.toNat) a c n0 = (pre, nj)) := ⟨by rw [HEq.out, List.drop_length]; simp [bldSeq]⟩
        go_wp2_with fail
        go_end0
        rw [HBv.out, HFin.out]
        first | exact ⟨rfl, ⟨vj, HMj.out⟩, HBw.out.bw, HBw.out.el⟩ | exact ⟨rfl, vj, HMj.out, HBw.out.bw, HBw.out.el⟩
  · have HKid := Aside0.mk (HV.out.kid n HN.out)
    rw [HXE.out] at HKid
    have hks : (patOf l ⟨#[]⟩).ks n = f3.map Int.toNat := by show (nodeAt l n).f3.map Int.toNat = _; rw [HXE.out]
    have hbv : bld (patOf l ⟨#[]⟩) (f + 1) n a c n0 = bldAlt (bld (patOf l ⟨#[]⟩) f) a c (f3.map Int.toNat) n0 := by
      have e1 : (patOf l ⟨#[]⟩).kd n = 4 := by show (nodeAt l n).f0.toNat = 4; rw [HXE.out]; rfl
      simp only [bld]
      rw [e1, hks]; rfl
    have HBv := Aside0.mk hbv
    have hel := HEl.out
    have hnl := HNl.out
    rw [hbv] at hel hnl
    have HLim : Aside0 (es.length + (bldAlt (bld (patOf l ⟨#[]⟩) f) a c (f3.map Int.toNat) n0).1.length ≤ 1000000 ∧ (bldAlt (bld (patOf l ⟨#[]⟩) f) a c (f3.map Int.toNat) n0).2 ≤ 1000000) := ⟨hel, hnl⟩
    have HL3 : Aside0 (f3.length ≤ 9223372036854775807) := ⟨HRK.out.2.1⟩
    have HFits : Aside0 (∀ k, Fit (bld (patOf l ⟨#[]⟩) f) k) := ⟨fun k => bld_fit _ f k⟩
    generalize hbb : bld (patOf l ⟨#[]⟩) f = bb at *
    have HBB := Aside0.mk hbb
    clear hbb
    clear hbv hel hnl hks
    go_wp2_with fail
    clear hn0 hn3
    go_loopg [13] f3.length (fun gg v13 wr => ∃ (j nj : Nat) (vj : Value) (pre : List Re.Way), v13 = .int .i64 j ∧ j ≤ f3.length ∧ f3.length - j ≤ gg ∧ Aside0 (a < nj ∧ c < nj) ∧ Aside0 (bldAlt bb a c (f3.map Int.toNat) n0 = (pre ++ (bldAlt bb a c ((f3.drop j).map Int.toNat) nj).1, (bldAlt bb a c ((f3.drop j).map Int.toNat) nj).2)) ∧ Aside0 (Mach w0.heap.size bm vj nj (es ++ pre.map toE) wr) ∧ Aside0 (Bw w0.heap.size bm w0 w w.heap.size ⟨4, f1, f2, f3⟩ A3 c3 wr))
    case atStart => exact ⟨0, n0, v, [], rfl, by omega, by omega, HAC, ⟨by simp⟩, ⟨by simpa using HM1.out⟩, HBw⟩
    case round =>
      clear HM1 HBw
      obtain ⟨j, nj, vj, pre, rfl, hj, hg, HA, HEq, HMj, HBw⟩ := hrel
      have hl := HBw.out.loc
      have hn3 : wr.cell? ⟨w.heap.size, 3, none⟩ = some (.slice A3 f3.length c3) := by simp [World.cell?, hl]
      clear hl
      by_cases hlt : j < f3.length
      · have HLt := Aside0.mk hlt
        have hlt0 : (j : Int) < (f3.length : Int) := by omega
        have hj63 : (f3.length : Int) ≤ 9223372036854775807 := by have := HL3.out; omega
        obtain ⟨ad3, cc, e0, _, hK, hcell⟩ := Kd.C_get HRK.out (0 : Int) j (by omega) (by omega)
        subst e0
        have hK : cc = [.int .i64 (f3.getD ((j : Int)).toNat 0)] := hK
        subst hK
        have hce := hcell 0 _ rfl
        replace hce : w0.cell? (ad3.add j) = some (.int .i64 (f3.getD j 0)) := by simpa [Kd.int, Kd.scalar] using hce
        replace hce := (HBw.out.b0.cell (World.block_lt_of_cell? w0 _ hce)).trans hce
        clear hcell
        have HDr : Aside0 (f3.getD j 0 ∈ f3 ∧ f3.drop j = f3.getD j 0 :: f3.drop (j + 1)) := ⟨by
          rw [List.getD_eq_getElem?_getD, List.getElem?_eq_getElem hlt]
          exact ⟨List.getElem_mem hlt, List.drop_eq_getElem_cons hlt⟩⟩
        generalize f3.getD j 0 = z at *
        have hz := HKid.out z HDr.out.1
        obtain ⟨m, rfl⟩ : ∃ m : Nat, z = (m : Int) := ⟨z.toNat, by omega⟩
        have HMn : Aside0 (m < n) := ⟨by omega⟩
        clear hz
        have HEq2 : Aside0 (bldAlt bb a c (f3.map Int.toNat) n0 = ((pre ++ (bb m a c nj).1) ++ (bldAlt bb a c ((f3.drop (j + 1)).map Int.toNat) (bb m a c nj).2).1, (bldAlt bb a c ((f3.drop (j + 1)).map Int.toNat) (bb m a c nj).2).2)) := ⟨by
          rw [HEq.out, HDr.out.2]
          simp only [List.map_cons, Int.toNat_natCast, bldAlt, List.append_assoc]⟩
        have HX : Aside0 (nj ≤ (bb m a c nj).2 ∧ (bb m a c nj).2 ≤ 1000000 ∧ es.length + pre.length + (bb m a c nj).1.length ≤ 1000000) := ⟨by
          have h1 := (HFits.out m a c nj HA.out.1 HA.out.2).1
          have h2 := (bldAlt_fit bb a c ((f3.drop (j + 1)).map Int.toNat) (fun k _ => HFits.out k) (bb m a c nj).2 (by have := HA.out; omega) (by have := HA.out; omega)).1
          have h3 := HLim.out
          rw [HEq2.out] at h3
          simp only [List.length_append] at h3
          omega⟩
        have hcall := HIH.out m HMn.out a c nj bm vj (es ++ pre.map toE) wr HA.out.1 HA.out.2 HBw.out.b0 HMj.out (by rw [HBB.out, List.length_append, List.length_map]; exact HX.out.2.2) (by rw [HBB.out]; exact HX.out.2.1)
        rw [HBB.out] at hcall
        go_wp2_with fail
        refine hcall.mono ?_
        rintro e w4 ⟨rfl, v4, hM4, hB4, hE4⟩
        dsimp only
        have HBw4 := Aside0.mk (HBw.out.step hB4 hE4)
        have HM4 : Aside0 (Mach w0.heap.size bm v4 ((bb m a c nj).2 : Nat) (es ++ (pre ++ (bb m a c nj).1).map toE) w4) := ⟨by rw [List.map_append, ← List.append_assoc]; exact hM4⟩
        clear hcall hM4 hB4 hE4 hn3 hce HMj HBw
        go_wp2_with fail
        go_roundg (f3.length - (j + 1))
        case measure => have := HLt.out; omega
        case rel => exact ⟨j + 1, _, v4, _, by go_num, HLt.out, Nat.le_refl _, ⟨by have := HX.out; have := HA.out; omega, by have := HX.out; have := HA.out; omega⟩, HEq2, HM4, HBw4⟩
      · obtain rfl : j = f3.length := by omega
        have hlt0 : ¬ (f3.length : Int) < (f3.length : Int) := by omega
        have HFin : Aside0 (bldAlt bb a c (f3.map Int.toNat) n0 = (pre, nj)) := ⟨by rw [HEq.out, List.drop_length]; simp [bldAlt]⟩
        go_wp2_with fail
        go_end0
        rw [HBv.out, HFin.out]
        first | exact ⟨rfl, ⟨vj, HMj.out⟩, HBw.out.bw, HBw.out.el⟩ | exact ⟨rfl, vj, HMj.out, HBw.out.bw, HBw.out.el⟩
  · have HOne := HV.out.one n HN.out (by rw [HXE.out]; show (5 : Int) ≤ 7; decide)
    have HKid := HV.out.kid n HN.out
    rw [HXE.out] at HOne HKid
    obtain ⟨k1, hk1⟩ := HOne
    have hk1 : f3 = [k1] := hk1
    subst hk1
    have hz := HKid k1 (by simp)
    obtain ⟨m, rfl⟩ : ∃ m : Nat, k1 = (m : Int) := ⟨k1.toNat, by omega⟩
    have HMn : Aside0 (m < n) := ⟨by omega⟩
    clear hz HKid
    have hbv : bld (patOf l ⟨#[]⟩) (f + 1) n a c n0 = ([((a : Int), (n0 : Int), -1)] ++ (bld (patOf l ⟨#[]⟩) f m n0 (n0 + 1) (n0 + 2)).1 ++ [((n0 : Int) + 1, (c : Int), -1)] ++ [] ++ [((a : Int), (c : Int), -1)], (bld (patOf l ⟨#[]⟩) f m n0 (n0 + 1) (n0 + 2)).2) := by
      have e1 : (patOf l ⟨#[]⟩).kd n = 7 := by show (nodeAt l n).f0.toNat = 7; rw [HXE.out]; rfl
      have e2 : ((patOf l ⟨#[]⟩).ks n).headD 0 = m := by show ((nodeAt l n).f3.map Int.toNat).headD 0 = m; rw [HXE.out]; simp
      simp only [bld]
      rw [e1, e2]
      rfl
    have HBv := Aside0.mk hbv
    have hel := HEl.out
    have hnl := HNl.out
    rw [hbv] at hel hnl
    simp only [List.length_append, List.length_cons, List.length_nil] at hel
    have hfit := (bld_fit (patOf l ⟨#[]⟩) f m n0 (n0 + 1) (n0 + 2) (by omega) (by omega)).1
    have HB : Aside0 (es.length + (bld (patOf l ⟨#[]⟩) f m n0 (n0 + 1) (n0 + 2)).1.length + 3 ≤ 1000000 ∧ es.length + 1 + (bld (patOf l ⟨#[]⟩) f m n0 (n0 + 1) (n0 + 2)).1.length ≤ 1000000 ∧ (bld (patOf l ⟨#[]⟩) f m n0 (n0 + 1) (n0 + 2)).2 ≤ 1000000) := ⟨by omega, by omega, by omega⟩
    have hn0b : (n0 : Int) ≤ 1000000 := by omega
    have ho := HM1.out.obj
    have hc1 : w1.cell? ⟨bm, 1, none⟩ = some (.int .i64 n0) := by simp [World.cell?, ho]
    have hz1 : w1.frozen? ⟨bm, 1, none⟩ = false := by simp [World.frozen?, ho]
    clear hbv hel hnl hfit ho
    go_upto_region 5 with fail
    obtain ⟨w2, hw2⟩ : ∃ w2, w2 = w1.setCell ⟨bm, 1, none⟩ (.int .i64 ((n0 : Int) + 2)) := ⟨_, rfl⟩
    rw [← hw2]
    obtain ⟨hM2, hB2, hE2⟩ := HM1.out.count ((n0 : Int) + 2)
    rw [← hw2] at hM2 hB2 hE2
    have HBw2 := Aside0.mk (HBw.out.step hB2 hE2)
    have hcall := l2way_calls w0.heap.size bm v ((n0 : Int) + 2) a n0 (-1) es w2 hM2 (by have := HB.out; omega)
    clear hw2 hM2 hB2 hE2 hc1 hz1 hn0 hn3 HM1 HBw
    go_wp2_with fail
    refine hcall.mono ?_
    rintro e w3 ⟨rfl, v3, hM3, hB3, hE3⟩
    dsimp only
    have HBw3 := Aside0.mk (HBw2.out.step hB3 hE3)
    have hl3 := HBw3.out.loc
    have hn3 : w3.cell? ⟨w.heap.size, 3, none⟩ = some (.slice A3 1 c3) := by simp [World.cell?, hl3]
    obtain ⟨ad3, cc, e0, _, hK, hcell⟩ := Kd.C_get (Kd.C_below HRK.out HBw3.out.b0) (0 : Int) 0 (by omega) (by simp)
    subst e0
    have hK : cc = [.int .i64 (([(m : Int)] : List Int).getD ((0 : Int)).toNat 0)] := hK
    subst hK
    have hce : w3.cell? ad3 = some (.int .i64 m) := by simpa [Kd.int, Kd.scalar, Addr.add] using hcell 0 _ rfl
    have hcall2 := HIH.out m HMn.out n0 (n0 + 1) (n0 + 2) bm v3 (es ++ [⟨(a : Int), (n0 : Int), -1⟩]) w3 (by omega) (by omega) HBw3.out.b0 (by rw [show ((n0 + 2 : Nat) : Int) = (n0 : Int) + 2 by omega]; exact hM3) (by rw [List.length_append, List.length_singleton]; exact HB.out.2.1) HB.out.2.2
    have e1 : ((n0 + 1 : Nat) : Int) = (n0 : Int) + 1 := by omega
    rw [e1] at hcall2
    generalize bld (patOf l ⟨#[]⟩) f m n0 (n0 + 1) (n0 + 2) = X at hcall2 HB HBv
    clear hcall hM3 hB3 hE3 hl3 hcell e1 HBw2
    go_wp2_with fail
    refine hcall2.mono ?_
    rintro e w4 ⟨rfl, v4, hM4, hB4, hE4⟩
    dsimp only
    have HBw4 := Aside0.mk (HBw3.out.step hB4 hE4)
    have hcall3 := l2way_calls w0.heap.size bm v4 (X.2 : Nat) ((n0 : Int) + 1) c (-1) _ w4 hM4 (by rw [List.length_append, List.length_append, List.length_singleton, List.length_map]; have := HB.out; omega)
    clear hcall2 hM4 hB4 hE4 hn3 hce HBw3
    go_wp2_with fail
    refine hcall3.mono ?_
    rintro e w5 ⟨rfl, v5, hM5, hB5, hE5⟩
    dsimp only
    have HBw5 := Aside0.mk (HBw4.out.step hB5 hE5)
    have HM5 := Aside0.mk hM5
    have hl5 := HBw5.out.loc
    have hn0 : w5.cell? ⟨w.heap.size, 0, none⟩ = some (.int .i64 7) := by simp [World.cell?, hl5]
    clear hcall3 hM5 hB5 hE5 hl5 HBw4
    have hcall6 := l2way_calls w0.heap.size bm v5 (X.2 : Nat) (a) c (-1) _ w5 HM5.out (by simp only [List.length_append, List.length_cons, List.length_nil, List.length_map]; have := HB.out; omega)
    go_wp2_with fail
    refine hcall6.mono ?_
    rintro e w6 ⟨rfl, v6, hM6, hB6, hE6⟩
    dsimp only
    have HBw6 := Aside0.mk (HBw5.out.step hB6 hE6)
    have HM6 := Aside0.mk hM6
    have hl6 := HBw6.out.loc
    have hn0 : w6.cell? ⟨w.heap.size, 0, none⟩ = some (.int .i64 7) := by simp [World.cell?, hl6]
    clear hcall6 hM6 hB6 hE6 hl6 HBw5 HM5
    go_wp2_with fail
    go_end0
    rw [HBv.out]
    exact ⟨rfl, _, by simpa only [List.map_append, List.map_cons, List.map_nil, List.append_nil, List.append_assoc, toE] using HM6.out, HBw6.out.bw, HBw6.out.el⟩
  · have HOne := HV.out.one n HN.out (by rw [HXE.out]; show (5 : Int) ≤ 5; decide)
    have HKid := HV.out.kid n HN.out
    rw [HXE.out] at HOne HKid
    obtain ⟨k1, hk1⟩ := HOne
    have hk1 : f3 = [k1] := hk1
    subst hk1
    have hz := HKid k1 (by simp)
    obtain ⟨m, rfl⟩ : ∃ m : Nat, k1 = (m : Int) := ⟨k1.toNat, by omega⟩
    have HMn : Aside0 (m < n) := ⟨by omega⟩
    clear hz HKid
    have hbv : bld (patOf l ⟨#[]⟩) (f + 1) n a c n0 = ([((a : Int), (n0 : Int), -1)] ++ (bld (patOf l ⟨#[]⟩) f m n0 (n0 + 1) (n0 + 2)).1 ++ [((n0 : Int) + 1, (c : Int), -1)] ++ [((n0 : Int) + 1, (n0 : Int), -1)] ++ [((a : Int), (c : Int), -1)], (bld (patOf l ⟨#[]⟩) f m n0 (n0 + 1) (n0 + 2)).2) := by
      have e1 : (patOf l ⟨#[]⟩).kd n = 5 := by show (nodeAt l n).f0.toNat = 5; rw [HXE.out]; rfl
      have e2 : ((patOf l ⟨#[]⟩).ks n).headD 0 = m := by show ((nodeAt l n).f3.map Int.toNat).headD 0 = m; rw [HXE.out]; simp
      simp only [bld]
      rw [e1, e2]
      rfl
    have HBv := Aside0.mk hbv
    have hel := HEl.out
    have hnl := HNl.out
    rw [hbv] at hel hnl
    simp only [List.length_append, List.length_cons, List.length_nil] at hel
    have hfit := (bld_fit (patOf l ⟨#[]⟩) f m n0 (n0 + 1) (n0 + 2) (by omega) (by omega)).1
    have HB : Aside0 (es.length + (bld (patOf l ⟨#[]⟩) f m n0 (n0 + 1) (n0 + 2)).1.length + 3 ≤ 1000000 ∧ es.length + 1 + (bld (patOf l ⟨#[]⟩) f m n0 (n0 + 1) (n0 + 2)).1.length ≤ 1000000 ∧ (bld (patOf l ⟨#[]⟩) f m n0 (n0 + 1) (n0 + 2)).2 ≤ 1000000) := ⟨by omega, by omega, by omega⟩
    have hn0b : (n0 : Int) ≤ 1000000 := by omega
    have ho := HM1.out.obj
    have hc1 : w1.cell? ⟨bm, 1, none⟩ = some (.int .i64 n0) := by simp [World.cell?, ho]
    have hz1 : w1.frozen? ⟨bm, 1, none⟩ = false := by simp [World.frozen?, ho]
    clear hbv hel hnl hfit ho
    go_upto_region 5 with fail
    obtain ⟨w2, hw2⟩ : ∃ w2, w2 = w1.setCell ⟨bm, 1, none⟩ (.int .i64 ((n0 : Int) + 2)) := ⟨_, rfl⟩
    rw [← hw2]
    obtain ⟨hM2, hB2, hE2⟩ := HM1.out.count ((n0 : Int) + 2)
    rw [← hw2] at hM2 hB2 hE2
    have HBw2 := Aside0.mk (HBw.out.step hB2 hE2)
    have hcall := l2way_calls w0.heap.size bm v ((n0 : Int) + 2) a n0 (-1) es w2 hM2 (by have := HB.out; omega)
    clear hw2 hM2 hB2 hE2 hc1 hz1 hn0 hn3 HM1 HBw
    go_wp2_with fail
    refine hcall.mono ?_
    rintro e w3 ⟨rfl, v3, hM3, hB3, hE3⟩
    dsimp only
    have HBw3 := Aside0.mk (HBw2.out.step hB3 hE3)
    have hl3 := HBw3.out.loc
    have hn3 : w3.cell? ⟨w.heap.size, 3, none⟩ = some (.slice A3 1 c3) := by simp [World.cell?, hl3]
    obtain ⟨ad3, cc, e0, _, hK, hcell⟩ := Kd.C_get (Kd.C_below HRK.out HBw3.out.b0) (0 : Int) 0 (by omega) (by simp)
    subst e0
    have hK : cc = [.int .i64 (([(m : Int)] : List Int).getD ((0 : Int)).toNat 0)] := hK
    subst hK
    have hce : w3.cell? ad3 = some (.int .i64 m) := by simpa [Kd.int, Kd.scalar, Addr.add] using hcell 0 _ rfl
    have hcall2 := HIH.out m HMn.out n0 (n0 + 1) (n0 + 2) bm v3 (es ++ [⟨(a : Int), (n0 : Int), -1⟩]) w3 (by omega) (by omega) HBw3.out.b0 (by rw [show ((n0 + 2 : Nat) : Int) = (n0 : Int) + 2 by omega]; exact hM3) (by rw [List.length_append, List.length_singleton]; exact HB.out.2.1) HB.out.2.2
    have e1 : ((n0 + 1 : Nat) : Int) = (n0 : Int) + 1 := by omega
    rw [e1] at hcall2
    generalize bld (patOf l ⟨#[]⟩) f m n0 (n0 + 1) (n0 + 2) = X at hcall2 HB HBv
    clear hcall hM3 hB3 hE3 hl3 hcell e1 HBw2
    go_wp2_with fail
    refine hcall2.mono ?_
    rintro e w4 ⟨rfl, v4, hM4, hB4, hE4⟩
    dsimp only
    have HBw4 := Aside0.mk (HBw3.out.step hB4 hE4)
    have hcall3 := l2way_calls w0.heap.size bm v4 (X.2 : Nat) ((n0 : Int) + 1) c (-1) _ w4 hM4 (by rw [List.length_append, List.length_append, List.length_singleton, List.length_map]; have := HB.out; omega)
    clear hcall2 hM4 hB4 hE4 hn3 hce HBw3
    go_wp2_with fail
    refine hcall3.mono ?_
    rintro e w5 ⟨rfl, v5, hM5, hB5, hE5⟩
    dsimp only
    have HBw5 := Aside0.mk (HBw4.out.step hB5 hE5)
    have HM5 := Aside0.mk hM5
    have hl5 := HBw5.out.loc
    have hn0 : w5.cell? ⟨w.heap.size, 0, none⟩ = some (.int .i64 5) := by simp [World.cell?, hl5]
    clear hcall3 hM5 hB5 hE5 hl5 HBw4
    have hcall6 := l2way_calls w0.heap.size bm v5 (X.2 : Nat) ((n0 : Int) + 1) n0 (-1) _ w5 HM5.out (by simp only [List.length_append, List.length_cons, List.length_nil, List.length_map]; have := HB.out; omega)
    go_wp2_with fail
    refine hcall6.mono ?_
    rintro e w6 ⟨rfl, v6, hM6, hB6, hE6⟩
    dsimp only
    have HBw6 := Aside0.mk (HBw5.out.step hB6 hE6)
    have HM6 := Aside0.mk hM6
    have hl6 := HBw6.out.loc
    have hn0 : w6.cell? ⟨w.heap.size, 0, none⟩ = some (.int .i64 5) := by simp [World.cell?, hl6]
    clear hcall6 hM6 hB6 hE6 hl6 HBw5 HM5
    have hcall7 := l2way_calls w0.heap.size bm v6 (X.2 : Nat) (a) c (-1) _ w6 HM6.out (by simp only [List.length_append, List.length_cons, List.length_nil, List.length_map]; have := HB.out; omega)
    go_wp2_with fail
    refine hcall7.mono ?_
    rintro e w7 ⟨rfl, v7, hM7, hB7, hE7⟩
    dsimp only
    have HBw7 := Aside0.mk (HBw6.out.step hB7 hE7)
    have HM7 := Aside0.mk hM7
    have hl7 := HBw7.out.loc
    have hn0 : w7.cell? ⟨w.heap.size, 0, none⟩ = some (.int .i64 5) := by simp [World.cell?, hl7]
    clear hcall7 hM7 hB7 hE7 hl7 HBw6 HM6
    go_wp2_with fail
    go_end0
    rw [HBv.out]
    exact ⟨rfl, _, by simpa only [List.map_append, List.map_cons, List.map_nil, List.append_nil, List.append_assoc, toE] using HM7.out, HBw7.out.bw, HBw7.out.el⟩
  · have HOne := HV.out.one n HN.out (by rw [HXE.out]; show (5 : Int) ≤ 6; decide)
    have HKid := HV.out.kid n HN.out
    rw [HXE.out] at HOne HKid
    obtain ⟨k1, hk1⟩ := HOne
    have hk1 : f3 = [k1] := hk1
    subst hk1
    have hz := HKid k1 (by simp)
    obtain ⟨m, rfl⟩ : ∃ m : Nat, k1 = (m : Int) := ⟨k1.toNat, by omega⟩
    have HMn : Aside0 (m < n) := ⟨by omega⟩
    clear hz HKid
    have hbv : bld (patOf l ⟨#[]⟩) (f + 1) n a c n0 = ([((a : Int), (n0 : Int), -1)] ++ (bld (patOf l ⟨#[]⟩) f m n0 (n0 + 1) (n0 + 2)).1 ++ [((n0 : Int) + 1, (c : Int), -1)] ++ [((n0 : Int) + 1, (n0 : Int), -1)] ++ [], (bld (patOf l ⟨#[]⟩) f m n0 (n0 + 1) (n0 + 2)).2) := by
      have e1 : (patOf l ⟨#[]⟩).kd n = 6 := by show (nodeAt l n).f0.toNat = 6; rw [HXE.out]; rfl
      have e2 : ((patOf l ⟨#[]⟩).ks n).headD 0 = m := by show ((nodeAt l n).f3.map Int.toNat).headD 0 = m; rw [HXE.out]; simp
      simp only [bld]
      rw [e1, e2]
      rfl
    have HBv := Aside0.mk hbv
    have hel := HEl.out
    have hnl := HNl.out
    rw [hbv] at hel hnl
    simp only [List.length_append, List.length_cons, List.length_nil] at hel
    have hfit := (bld_fit (patOf l ⟨#[]⟩) f m n0 (n0 + 1) (n0 + 2) (by omega) (by omega)).1
    have HB : Aside0 (es.length + (bld (patOf l ⟨#[]⟩) f m n0 (n0 + 1) (n0 + 2)).1.length + 3 ≤ 1000000 ∧ es.length + 1 + (bld (patOf l ⟨#[]⟩) f m n0 (n0 + 1) (n0 + 2)).1.length ≤ 1000000 ∧ (bld (patOf l ⟨#[]⟩) f m n0 (n0 + 1) (n0 + 2)).2 ≤ 1000000) := ⟨by omega, by omega, by omega⟩
    have hn0b : (n0 : Int) ≤ 1000000 := by omega
    have ho := HM1.out.obj
    have hc1 : w1.cell? ⟨bm, 1, none⟩ = some (.int .i64 n0) := by simp [World.cell?, ho]
    have hz1 : w1.frozen? ⟨bm, 1, none⟩ = false := by simp [World.frozen?, ho]
    clear hbv hel hnl hfit ho
    go_upto_region 5 with fail
    obtain ⟨w2, hw2⟩ : ∃ w2, w2 = w1.setCell ⟨bm, 1, none⟩ (.int .i64 ((n0 : Int) + 2)) := ⟨_, rfl⟩
    rw [← hw2]
    obtain ⟨hM2, hB2, hE2⟩ := HM1.out.count ((n0 : Int) + 2)
    rw [← hw2] at hM2 hB2 hE2
    have HBw2 := Aside0.mk (HBw.out.step hB2 hE2)
    have hcall := l2way_calls w0.heap.size bm v ((n0 : Int) + 2) a n0 (-1) es w2 hM2 (by have := HB.out; omega)
    clear hw2 hM2 hB2 hE2 hc1 hz1 hn0 hn3 HM1 HBw
    go_wp2_with fail
    refine hcall.mono ?_
    rintro e w3 ⟨rfl, v3, hM3, hB3, hE3⟩
    dsimp only
    have HBw3 := Aside0.mk (HBw2.out.step hB3 hE3)
    have hl3 := HBw3.out.loc
    have hn3 : w3.cell? ⟨w.heap.size, 3, none⟩ = some (.slice A3 1 c3) := by simp [World.cell?, hl3]
    obtain ⟨ad3, cc, e0, _, hK, hcell⟩ := Kd.C_get (Kd.C_below HRK.out HBw3.out.b0) (0 : Int) 0 (by omega) (by simp)
    subst e0
    have hK : cc = [.int .i64 (([(m : Int)] : List Int).getD ((0 : Int)).toNat 0)] := hK
    subst hK
    have hce : w3.cell? ad3 = some (.int .i64 m) := by simpa [Kd.int, Kd.scalar, Addr.add] using hcell 0 _ rfl
    have hcall2 := HIH.out m HMn.out n0 (n0 + 1) (n0 + 2) bm v3 (es ++ [⟨(a : Int), (n0 : Int), -1⟩]) w3 (by omega) (by omega) HBw3.out.b0 (by rw [show ((n0 + 2 : Nat) : Int) = (n0 : Int) + 2 by omega]; exact hM3) (by rw [List.length_append, List.length_singleton]; exact HB.out.2.1) HB.out.2.2
    have e1 : ((n0 + 1 : Nat) : Int) = (n0 : Int) + 1 := by omega
    rw [e1] at hcall2
    generalize bld (patOf l ⟨#[]⟩) f m n0 (n0 + 1) (n0 + 2) = X at hcall2 HB HBv
    clear hcall hM3 hB3 hE3 hl3 hcell e1 HBw2
    go_wp2_with fail
    refine hcall2.mono ?_
    rintro e w4 ⟨rfl, v4, hM4, hB4, hE4⟩
    dsimp only
    have HBw4 := Aside0.mk (HBw3.out.step hB4 hE4)
    have hcall3 := l2way_calls w0.heap.size bm v4 (X.2 : Nat) ((n0 : Int) + 1) c (-1) _ w4 hM4 (by rw [List.length_append, List.length_append, List.length_singleton, List.length_map]; have := HB.out; omega)
    clear hcall2 hM4 hB4 hE4 hn3 hce HBw3
    go_wp2_with fail
    refine hcall3.mono ?_
    rintro e w5 ⟨rfl, v5, hM5, hB5, hE5⟩
    dsimp only
    have HBw5 := Aside0.mk (HBw4.out.step hB5 hE5)
    have HM5 := Aside0.mk hM5
    have hl5 := HBw5.out.loc
    have hn0 : w5.cell? ⟨w.heap.size, 0, none⟩ = some (.int .i64 6) := by simp [World.cell?, hl5]
    clear hcall3 hM5 hB5 hE5 hl5 HBw4
    have hcall6 := l2way_calls w0.heap.size bm v5 (X.2 : Nat) ((n0 : Int) + 1) n0 (-1) _ w5 HM5.out (by simp only [List.length_append, List.length_cons, List.length_nil, List.length_map]; have := HB.out; omega)
    go_wp2_with fail
    refine hcall6.mono ?_
    rintro e w6 ⟨rfl, v6, hM6, hB6, hE6⟩
    dsimp only
    have HBw6 := Aside0.mk (HBw5.out.step hB6 hE6)
    have HM6 := Aside0.mk hM6
    have hl6 := HBw6.out.loc
    have hn0 : w6.cell? ⟨w.heap.size, 0, none⟩ = some (.int .i64 6) := by simp [World.cell?, hl6]
    clear hcall6 hM6 hB6 hE6 hl6 HBw5 HM5
    go_wp2_with fail
    go_end0
    rw [HBv.out]
    exact ⟨rfl, _, by simpa only [List.map_append, List.map_cons, List.map_nil, List.append_nil, List.append_assoc, toE] using HM6.out, HBw6.out.bw, HBw6.out.el⟩
theorem build_calls (hV : Valid l) (hr : Kd.C k49 w0 A0 l.length l) : ∀ (f n : Nat), n < f → n < l.length → BuildsAt l A0 c0 w0 f n
  | 0, _, h, _ => absurd h (by omega)
  | f + 1, n, h, hn => build_step hV hr f n hn fun m hm => build_calls hV hr f m (by omega) (by omega)
end
end Go.Proofs.YtlakdfbfkbndiaaDoor.Q
namespace Go.Proofs.YtlakdfbfkbndiaaDoor.Q
open Go.RowKit Go.Proofs.YtlakdfbfkbndiaaDoor.Re Go.Proofs.YtlakdfbfkbndiaaDoorW.PrintWords Go.Proofs.YtlakdfbfkbndiaaDoorW.PrintLast Go.Proofs.YtlakdfbfkbndiaaDoorW.PrintMore
def allWays (l : List S49) : List Re.Way × Nat := bld (patOf l ⟨#[]⟩) l.length (l.length - 1) 0 1 2
def nodeOkB (l : List S49) (n : Nat) : Bool :=
  decide (0 ≤ (nodeAt l n).f0) && (decide ((nodeAt l n).f0 ≤ 7) && (((nodeAt l n).f3.all fun k => decide (0 ≤ k) && decide (k < (n : Int))) && ((decide ((nodeAt l n).f0 < 5) || decide ((nodeAt l n).f3.length = 1)) &&
    ((decide ((nodeAt l n).f0 ≠ 3) || decide ((nodeAt l n).f3.length ≠ 0)) && ((decide ((nodeAt l n).f0 ≠ 0) || decide ((nodeAt l n).f2.size % 2 = 0)) && decide ((nodeAt l n).f2.size ≤ 1099511627776))))))
def validB (l : List S49) : Bool := decide (1 ≤ l.length) && (decide (l.length ≤ 200) && (List.range l.length).all (nodeOkB l))
theorem validB_valid {l : List S49} (h : validB l = true) : Valid l := by
  unfold validB at h
  simp only [Bool.and_eq_true, decide_eq_true_eq, List.all_eq_true, List.mem_range] at h
  obtain ⟨h1, h2, h3⟩ := h
  have h4 : ∀ n, n < l.length → _ := fun n hn => by
    have := h3 n hn
    unfold nodeOkB at this
    simp only [Bool.and_eq_true, Bool.or_eq_true, decide_eq_true_eq, List.all_eq_true] at this
    exact this
  refine ⟨h1, h2, fun n hn => ⟨(h4 n hn).1, (h4 n hn).2.1⟩, fun n hn k hk => (h4 n hn).2.2.1 k hk, fun n hn h5 => ?_, fun n hn h5 => ?_, fun n hn h5 => ?_, fun n hn => (h4 n hn).2.2.2.2.2.2⟩
  · rcases (h4 n hn).2.2.2.1 with h | h
    · omega
    · exact List.length_eq_one_iff.mp h
  · rcases (h4 n hn).2.2.2.2.1 with h | h
    · exact absurd h5 h
    · intro e; rw [e] at h; exact h rfl
  · rcases (h4 n hn).2.2.2.2.2.1 with h | h
    · exact absurd h5 h
    · exact h
def waysOkB (l : List S49) : Bool := validB l && (decide ((allWays l).1.length ≤ 1000000) && decide ((allWays l).2 ≤ 1000000))
def waysOk (l : List S49) : Prop := Valid l ∧ (allWays l).1.length ≤ 1000000 ∧ (allWays l).2 ≤ 1000000
theorem waysOkB_ok {l : List S49} (h : waysOkB l = true) : waysOk l := by
  unfold waysOkB at h
  simp only [Bool.and_eq_true, decide_eq_true_eq] at h
  exact ⟨validB_valid h.1, h.2.1, h.2.2⟩
def spec_l2ways.f (l : List S49) : Option (List S85 × Int) := if waysOkB l = true then some ((allWays l).1.map toE, ((allWays l).2 : Int)) else none
set_option maxRecDepth 100000 in
theorem spec_l2ways.calls (A0 : Option Addr) (c0 : Nat) (l0 : List S49) (r1 : List S85) (r2 : Int) (w : World) (hr0 : Kd.C k49 w A0 l0.length l0) (hc0 : l0.length ≤ c0) (h : spec_l2ways.f l0 = some (r1, r2)) :
    Calls Tryd.prog 38 #[.slice A0 l0.length c0] w fun e w' => ∃ v0_, e = .returned (.agg #[v0_, .int .i64 r2]) ∧ Kd.R k85 85 w' w.heap.size (fun _ => True) v0_ r1 ∧ Below w.heap.size w w' := by
  unfold spec_l2ways.f at h
  by_cases hokB : waysOkB l0 = true
  case neg => rw [if_neg hokB] at h; cases h
  rw [if_pos hokB] at h
  have hok := waysOkB_ok hokB
  clear hokB
  obtain ⟨rfl, rfl⟩ : (allWays l0).1.map toE = r1 ∧ ((allWays l0).2 : Int) = r2 := by simpa using h
  clear h
  have HOk := Aside0.mk hok
  have HR := Aside0.mk hr0
  have h1 : (1 : Int) ≤ (l0.length : Int) := by have := hok.1.pos; omega
  have h2 : (l0.length : Int) ≤ 200 := by have := hok.1.len; omega
  clear hok hr0
  go_enter Tryd.func38, Tryd.ntmps38
  go_upto_region 2 with fail
  obtain ⟨w1, hw1⟩ : ∃ w1, w1 = (w.alloc (.cells #[.slice none 0 0, .int .i64 0] 59)).alloc (.cells #[.slice none 0 0, .int .i64 2] 59) := ⟨_, rfl⟩
  rw [← hw1]
  have hb1 : Below w.heap.size w w1 := by rw [hw1]; exact below_alloc (below_alloc (Below.refl _ _) _) _
  have hM1 : Mach w.heap.size (w.heap.size + 1) (.slice none 0 0) 2 [] w1 := {
    lo := by omega
    obj := by
      have e : (w.alloc (.cells #[.slice none 0 0, .int .i64 0] 59)).heap.size = w.heap.size + 1 := by simp
      rw [hw1, ← e]; exact heap_alloc_new _ _
    row := Kd.R_nil _ _ _ _ _
    sz := hb1.size }
  have ho1 : w1.heap[w.heap.size]? = some (.cells #[.slice none 0 0, .int .i64 0] 59 (0, 0)) := by
    rw [hw1, Below.heap_alloc _ _ _ (by simp)]; exact heap_alloc_new _ _
  have hcall : Calls Tryd.prog 56 #[.pointer (some ⟨w.heap.size + 1, 0, none⟩), .slice A0 l0.length c0, .int .i64 ((l0.length : Int) - 1), .int .i64 0, .int .i64 1] w1 fun e w' => e = .returned (.tuple #[]) ∧
      ∃ v', Mach w.heap.size (w.heap.size + 1) v' ((allWays l0).2 : Nat) ([] ++ (allWays l0).1.map toE) w' ∧ Below w.heap.size w1 w' ∧ Else (w.heap.size + 1) w1 w' := by
    have h := build_calls (c0 := c0) HOk.out.1 HR.out l0.length (l0.length - 1) (by omega) (by omega) 0 1 2 (w.heap.size + 1) (.slice none 0 0) [] w1 (by omega) (by omega) hb1 hM1 (by rw [List.length_nil, Nat.zero_add]; exact HOk.out.2.1) HOk.out.2.2
    have e1 : ((l0.length - 1 : Nat) : Int) = (l0.length : Int) - 1 := by omega
    rw [e1] at h
    exact h
  have HB1 := Aside0.mk hb1
  have HO1 := Aside0.mk ho1
  clear hw1 hb1 hM1 ho1
  go_wp2_with fail
  refine hcall.mono ?_
  rintro e w2 ⟨rfl, v2, hM2, hB2, hE2⟩
  dsimp only
  obtain ⟨A2, c2, hv, _, _⟩ := Kd.R_reads hM2.row
  subst hv
  have ho2 := hE2 w.heap.size _ (by omega) HO1.out (by simp)
  have hx0 : w2.cell? ⟨w.heap.size + 1, 0, none⟩ = some (.slice A2 ([] ++ (allWays l0).1.map toE).length c2) := by simp [World.cell?, hM2.obj]
  have hx1 : w2.cell? ⟨w.heap.size + 1, 1, none⟩ = some (.int .i64 ((allWays l0).2 : Nat)) := by simp [World.cell?, hM2.obj]
  have hy0 : w2.cell? ⟨w.heap.size, 0, none⟩ = some (.slice none 0 0) := by simp [World.cell?, ho2]
  have hy1 : w2.cell? ⟨w.heap.size, 1, none⟩ = some (.int .i64 0) := by simp [World.cell?, ho2]
  have hz0 : w2.frozen? ⟨w.heap.size, 0, none⟩ = false := by simp [World.frozen?, ho2]
  have hz1 : w2.frozen? ⟨w.heap.size, 1, none⟩ = false := by simp [World.frozen?, ho2]
  have HM2 := Aside0.mk hM2
  have HB2 := Aside0.mk (HB1.out.trans hB2)
  have HO2 := Aside0.mk ho2
  clear hcall hM2 hB2 hE2 ho2
  go_wp2_with fail
  rw [List.nil_append] at HM2
  have hob3 : ((w2.setCell ⟨w.heap.size, 0, none⟩ (.slice A2 (allWays l0).1.length c2)).setCell ⟨w.heap.size, 1, none⟩ (.int .i64 (allWays l0).2)).heap[w.heap.size]? = some (.cells #[.slice A2 (allWays l0).1.length c2, .int .i64 (allWays l0).2] 59 (0, 0)) := by simp [World.setCell, Array.getElem?_modify, HO2.out]
  have ho2' : (w2.setCell ⟨w.heap.size, 0, none⟩ (.slice A2 (allWays l0).1.length c2)).heap[w.heap.size]? = some (.cells #[.slice A2 (allWays l0).1.length c2, .int .i64 0] 59 (0, 0)) := by simp [World.setCell, Array.getElem?_modify, HO2.out]
  have HRow := Aside0.mk (Kd.R_set (Kd.R_set HM2.out.row HO2.out (by decide) 0 (.slice A2 (allWays l0).1.length c2)) ho2' (by decide) 1 (.int .i64 (allWays l0).2))
  have HBel := Aside0.mk ((HB2.out.setCell (p := ⟨w.heap.size, 0, none⟩) (Nat.le_refl _) (.slice A2 (allWays l0).1.length c2)).setCell (p := ⟨w.heap.size, 1, none⟩) (Nat.le_refl _) (.int .i64 (allWays l0).2))
  have hf0 : ((w2.setCell ⟨w.heap.size, 0, none⟩ (.slice A2 (allWays l0).1.length c2)).setCell ⟨w.heap.size, 1, none⟩ (.int .i64 (allWays l0).2)).cell? ⟨w.heap.size, 0, none⟩ = some (.slice A2 (allWays l0).1.length c2) := by simp [World.cell?, hob3]
  have hf1 : ((w2.setCell ⟨w.heap.size, 0, none⟩ (.slice A2 (allWays l0).1.length c2)).setCell ⟨w.heap.size, 1, none⟩ (.int .i64 (allWays l0).2)).cell? ⟨w.heap.size, 1, none⟩ = some (.int .i64 (allWays l0).2) := by simp [World.cell?, hob3]
  generalize (w2.setCell ⟨w.heap.size, 0, none⟩ (.slice A2 (allWays l0).1.length c2)).setCell ⟨w.heap.size, 1, none⟩ (.int .i64 (allWays l0).2) = w5 at *
  rw [List.length_map] at HRow
  clear hx0 hx1 hy0 hy1 hz0 hz1 ho2'
  refine bodyPost_ret (results_cell_row rfl _ _ w.heap.size 59 #[.slice A2 (allWays l0).1.length c2, .int .i64 (allWays l0).2] (0, 0) _ rfl hob3 Tryd.underlying59 rfl (by kernel_rfl)) rfl ?_
  exact ⟨_, rfl, HRow.out, HBel.out⟩
end Go.Proofs.YtlakdfbfkbndiaaDoor.Q
namespace Go.Proofs.YtlakdfbfkbndiaaDoor.Q
open Go.RowKit Go.Proofs.YtlakdfbfkbndiaaDoorW.PrintWords Go.Proofs.YtlakdfbfkbndiaaDoorW.PrintLast Go.Proofs.YtlakdfbfkbndiaaDoorW.PrintMore
attribute [local go_sem] max2_int min2_int max_two min_two max_three min_three max_four min_four   -- for this text's walks alone
set_option linter.unusedVariables false
set_option linter.unusedSimpArgs false
def spec_ReEnds.j0 : Nat → List (S49) → ByteArray → Int → Bool → Option (List Int)
 | 0,_,_,_,_=>none
 | k + 1,x0,x1,x2,x24=>if x24 = true then (some ([] : List Int)) else ((spec_l2ways.f x0).bind fun bt245=>((spec_l2ends.f k bt245.1 bt245.2 x0 x1 x2).bind fun t249=>(some t249)))
def spec_ReEnds.f (k : Nat) (l0 : List (S49)) (a1 : ByteArray) (a2 : Int) : Option (List Int):=(spec_ReOk.f k l0).bind fun t244=>(if t244 = true then (if (a1.size : Int) > 500 then (spec_ReEnds.j0 k l0 a1 a2 true) else (if a2 < 0 then (spec_ReEnds.j0 k l0 a1 a2 true) else (spec_ReEnds.j0 k l0 a1 a2 (decide (a2 > (a1.size : Int)))))) else (spec_ReEnds.j0 k l0 a1 a2 true))
set_option maxHeartbeats 8000000 in
set_option maxRecDepth 100000 in
theorem spec_ReEnds.calls (k : Nat) (A0 : Option Addr) (c0 : Nat) (l0 : List (S49)) (a1 : ByteArray) (a2 : Int) (r : List Int) (w : World) (hr0 : Kd.C k49 w A0 l0.length l0) (hc0 : l0.length ≤ c0) (h : spec_ReEnds.f k l0 a1 a2 = some r) :
  Calls Tryd.prog 18 #[.slice A0 l0.length c0,.string a1,.int .i64 a2] w fun e w'=>∃ v0_ : Value,e = .returned (v0_) ∧ Kd.R (Kd.int .i64) 3 w' w.heap.size (fun _=>True) v0_ r ∧ Below w.heap.size w w':=by
 have HR0:=Aside0.mk hr0
 have HC0:=Aside0.mk hc0
 clear hr0 hc0
 have HB:=Aside0.mk (Below.refl w.heap.size w)
 have H : ((spec_ReOk.f k l0).bind fun t244=>(if t244 = true then (if (a1.size : Int) > 500 then (spec_ReEnds.j0 k l0 a1 a2 true) else (if a2 < 0 then (spec_ReEnds.j0 k l0 a1 a2 true) else (spec_ReEnds.j0 k l0 a1 a2 (decide (a2 > (a1.size : Int)))))) else (spec_ReEnds.j0 k l0 a1 a2 true))) = some r:=h
 clear h
 have HC4:=Aside0.mk H
 clear H
 go_enter Tryd.func18,Tryd.ntmps18
 go_upto_region 1 with (fail)
 go_cut [24] (fun v24 wc=>∃ (kq : Nat) (x24_3 : Bool),v24 = .bool x24_3 ∧ Aside0 (spec_ReEnds.j0 kq l0 a1 a2 x24_3 = some r) ∧ Aside0 (kq ≤ k) ∧ Aside0 (Below w.heap.size w wc))
 case first =>
  have H:=HC4.out
  clear HC4
  replace H:=Option.bind_eq_some_iff.mp H
  obtain ⟨t244,A50,H⟩:=H
  replace H : (if t244 = true then (if (a1.size : Int) > 500 then (spec_ReEnds.j0 k l0 a1 a2 true) else (if a2 < 0 then (spec_ReEnds.j0 k l0 a1 a2 true) else (spec_ReEnds.j0 k l0 a1 a2 (decide (a2 > (a1.size : Int)))))) else (spec_ReEnds.j0 k l0 a1 a2 true)) = some r:=H
  have A5:=Aside0.mk A50
  clear A50
  by_cases c6 : t244 = true
  ·subst c6
   have H1 : (if (a1.size : Int) > 500 then (spec_ReEnds.j0 k l0 a1 a2 true) else (if a2 < 0 then (spec_ReEnds.j0 k l0 a1 a2 true) else (spec_ReEnds.j0 k l0 a1 a2 (decide (a2 > (a1.size : Int)))))) = some r:=by rw [if_pos rfl] at H;exact H
   clear H
   have H:=H1
   clear H1
   by_cases c7 : (a1.size : Int) > 500
   ·rw [if_pos c7] at H
    have c7b0 : decide (500 < (a1.size : Int)) = true:=decide_eq_true c7
    have c7b1 : decide (500 < a1.size) = true:=decide_eq_true (by omega)
    clear c7
    (first|rw [c7b0]|(simp only [i64_w,i32_w];rw [c7b0])|skip)
    have H':=Aside0.mk H
    clear H
    go_wp2_with (first|((with_reducible refine gate_callee (f:=29) rfl ?_);refine goesL_ (some 8) rfl rfl Tryd.func29 (by kernel_rfl) rfl #[.slice A0 l0.length c0] rfl (by (try simp only [List.map_toArray,List.map_cons,List.map_nil]);first|done|rfl|(simp only [List.length_drop,List.length_take];rfl)) ?_;(with_reducible refine (spec_ReOk.calls k _ _ l0 true _ ?side1 ?side2 A5.out).mono ?_);(case side1=>repeat (first|exact (Kd.C_below HR0.out HB.out)|(with_reducible refine Kd.C_alloc ?_ _)|(with_reducible refine Kd.C_drewN ?_ _)|(with_reducible refine Kd.C_drew ?_)));(case side2=>exact HC0.out);rintro e w8 ⟨rfl,hb⟩;refine ⟨_,rfl,?_⟩;have n0_:=Aside0.mk (below_step (by repeat (first|(with_reducible first|exact HB.out|apply below_alloc|apply pw_below_drewN|apply below_drew1)|exact HB.out)) hb);clear HB;have HB:=n0_;clear n0_;(try clear hb);(try clear hb2);(try clear hk);(try clear hi)))
    go_meet
    case rel=>exact ⟨_,(true),(by first|rfl|(simp;done)|(simp [*];done)),H',⟨by first|omega|exact Nat.le_refl _⟩,⟨by repeat (first|(with_reducible first|exact HB.out|apply below_alloc|apply pw_below_drewN|apply below_drew1)|exact HB.out)⟩⟩
   ·rw [if_neg c7] at H
    have c7b0 : decide (500 < (a1.size : Int)) = false:=decide_eq_false c7
    have c7b1 : decide (500 < a1.size) = false:=decide_eq_false (by omega)
    clear c7
    (first|rw [c7b0]|(simp only [i64_w,i32_w];rw [c7b0])|skip)
    by_cases c9 : a2 < 0
    ·rw [if_pos c9] at H
     have c9b0 : decide (a2 < 0) = true:=decide_eq_true c9
     clear c9
     have H':=Aside0.mk H
     clear H
     go_wp2_with (first|((with_reducible refine gate_callee (f:=29) rfl ?_);refine goesL_ (some 8) rfl rfl Tryd.func29 (by kernel_rfl) rfl #[.slice A0 l0.length c0] rfl (by (try simp only [List.map_toArray,List.map_cons,List.map_nil]);first|done|rfl|(simp only [List.length_drop,List.length_take];rfl)) ?_;(with_reducible refine (spec_ReOk.calls k _ _ l0 true _ ?side1 ?side2 A5.out).mono ?_);(case side1=>repeat (first|exact (Kd.C_below HR0.out HB.out)|(with_reducible refine Kd.C_alloc ?_ _)|(with_reducible refine Kd.C_drewN ?_ _)|(with_reducible refine Kd.C_drew ?_)));(case side2=>exact HC0.out);rintro e w10 ⟨rfl,hb⟩;refine ⟨_,rfl,?_⟩;have n0_:=Aside0.mk (below_step (by repeat (first|(with_reducible first|exact HB.out|apply below_alloc|apply pw_below_drewN|apply below_drew1)|exact HB.out)) hb);clear HB;have HB:=n0_;clear n0_;(try clear hb);(try clear hb2);(try clear hk);(try clear hi)))
     go_meet
     case rel=>exact ⟨_,(true),(by first|rfl|(simp;done)|(simp [*];done)),H',⟨by first|omega|exact Nat.le_refl _⟩,⟨by repeat (first|(with_reducible first|exact HB.out|apply below_alloc|apply pw_below_drewN|apply below_drew1)|exact HB.out)⟩⟩
    ·rw [if_neg c9] at H
     have c9b0 : decide (a2 < 0) = false:=decide_eq_false c9
     clear c9
     have H':=Aside0.mk H
     clear H
     go_wp2_with (first|((with_reducible refine gate_callee (f:=29) rfl ?_);refine goesL_ (some 8) rfl rfl Tryd.func29 (by kernel_rfl) rfl #[.slice A0 l0.length c0] rfl (by (try simp only [List.map_toArray,List.map_cons,List.map_nil]);first|done|rfl|(simp only [List.length_drop,List.length_take];rfl)) ?_;(with_reducible refine (spec_ReOk.calls k _ _ l0 true _ ?side1 ?side2 A5.out).mono ?_);(case side1=>repeat (first|exact (Kd.C_below HR0.out HB.out)|(with_reducible refine Kd.C_alloc ?_ _)|(with_reducible refine Kd.C_drewN ?_ _)|(with_reducible refine Kd.C_drew ?_)));(case side2=>exact HC0.out);rintro e w11 ⟨rfl,hb⟩;refine ⟨_,rfl,?_⟩;have n0_:=Aside0.mk (below_step (by repeat (first|(with_reducible first|exact HB.out|apply below_alloc|apply pw_below_drewN|apply below_drew1)|exact HB.out)) hb);clear HB;have HB:=n0_;clear n0_;(try clear hb);(try clear hb2);(try clear hk);(try clear hi)))
     go_meet
     case rel=>exact ⟨_,(decide (a2 > (a1.size : Int))),(by first|rfl|(simp;done)|(simp [*];done)),H',⟨by first|omega|exact Nat.le_refl _⟩,⟨by repeat (first|(with_reducible first|exact HB.out|apply below_alloc|apply pw_below_drewN|apply below_drew1)|exact HB.out)⟩⟩
  ·replace c6:=Bool.eq_false_iff.mpr c6
   subst c6
   have H1 : (spec_ReEnds.j0 k l0 a1 a2 true) = some r:=by rw [if_neg (show ¬ (false = true) by decide)] at H;exact H
   clear H
   have H:=H1
   clear H1
   have H':=Aside0.mk H
   clear H
   go_wp2_with (first|((with_reducible refine gate_callee (f:=29) rfl ?_);refine goesL_ (some 8) rfl rfl Tryd.func29 (by kernel_rfl) rfl #[.slice A0 l0.length c0] rfl (by (try simp only [List.map_toArray,List.map_cons,List.map_nil]);first|done|rfl|(simp only [List.length_drop,List.length_take];rfl)) ?_;(with_reducible refine (spec_ReOk.calls k _ _ l0 false _ ?side1 ?side2 A5.out).mono ?_);(case side1=>repeat (first|exact (Kd.C_below HR0.out HB.out)|(with_reducible refine Kd.C_alloc ?_ _)|(with_reducible refine Kd.C_drewN ?_ _)|(with_reducible refine Kd.C_drew ?_)));(case side2=>exact HC0.out);rintro e w12 ⟨rfl,hb⟩;refine ⟨_,rfl,?_⟩;have n0_:=Aside0.mk (below_step (by repeat (first|(with_reducible first|exact HB.out|apply below_alloc|apply pw_below_drewN|apply below_drew1)|exact HB.out)) hb);clear HB;have HB:=n0_;clear n0_;(try clear hb);(try clear hb2);(try clear hk);(try clear hi)))
   go_meet
   case rel=>exact ⟨_,(true),(by first|rfl|(simp;done)|(simp [*];done)),H',⟨by first|omega|exact Nat.le_refl _⟩,⟨by repeat (first|(with_reducible first|exact HB.out|apply below_alloc|apply pw_below_drewN|apply below_drew1)|exact HB.out)⟩⟩
 case rest =>
  clear HC4
  try clear c1
  try clear c2
  try clear p2
  try clear c6
  try clear c7
  try clear c7b0
  try clear c7b1
  try clear c9
  try clear c9b0
  obtain ⟨kq,x24_3,rfl,HA,HJ3,HB⟩:=hcut
  cases kq with
  | zero=>exact absurd HA.out (by simp [spec_ReEnds.j0])
  | succ kj3 =>
   have H:=HA.out
   clear HA
   simp only [spec_ReEnds.j0] at H
   by_cases c13 : x24_3 = true
   ·subst c13
    have H1 : (some ([] : List Int)) = some r:=by rw [if_pos rfl] at H;exact H
    clear H
    have H:=H1
    clear H1
    obtain rfl:=Option.some.inj H
    go_wp2
    go_ret
    exact ⟨_,by first|rfl|(simp [errW_none,errW_some] <;> rfl)|(simp [*,errW_none,errW_some] <;> rfl),by first|exact Kd.R_nil _ _ _ _ _|exact Kd.N_nil _ _ _ _ _|exact Kd.V_nil _ _ _ _ _|exact Kd.Q_nil _ _ _ _ _|exact Kd.S_nil _ _ _ _ _,by repeat (first|(with_reducible first|exact HB.out|apply below_alloc|apply pw_below_drewN|apply below_drew1)|exact HB.out)⟩
   ·replace c13:=Bool.eq_false_iff.mpr c13
    subst c13
    have H1 : ((spec_l2ways.f l0).bind fun bt245=>((spec_l2ends.f kj3 bt245.1 bt245.2 l0 a1 a2).bind fun t249=>(some t249))) = some r:=by rw [if_neg (show ¬ (false = true) by decide)] at H;exact H
    clear H
    have H:=H1
    clear H1
    replace H:=Option.bind_eq_some_iff.mp H
    obtain ⟨⟨t245,t248⟩,A140,H⟩:=H
    replace H : ((spec_l2ends.f kj3 t245 t248 l0 a1 a2).bind fun t249=>(some t249)) = some r:=H
    have A14:=Aside0.mk A140
    clear A140
    replace H:=Option.bind_eq_some_iff.mp H
    obtain ⟨t249,A150,H⟩:=H
    replace H : (some t249) = some r:=H
    have A15:=Aside0.mk A150
    clear A150
    obtain rfl:=Option.some.inj H
    go_wp2_with (first|((with_reducible refine gate_callee (f:=38) rfl ?_);refine goesL_ (some 26) rfl rfl Tryd.func38 (by kernel_rfl) rfl #[.slice A0 l0.length c0] rfl (by (try simp only [List.map_toArray,List.map_cons,List.map_nil]);first|done|rfl|(simp only [List.length_drop,List.length_take];rfl)) ?_;(with_reducible refine (spec_l2ways.calls _ _ l0 t245 t248 _ ?side1 ?side2 A14.out).mono ?_);(case side1=>repeat (first|exact (Kd.C_below HR0.out HB.out)|(with_reducible refine Kd.C_alloc ?_ _)|(with_reducible refine Kd.C_drewN ?_ _)|(with_reducible refine Kd.C_drew ?_)));(case side2=>exact HC0.out);rintro e w16 ⟨v246,rfl,ho0,hb⟩;refine ⟨_,rfl,?_⟩;have n0_:=Aside0.mk (Kd.R_lower ho0 (below_size (by repeat (first|(with_reducible first|exact HB.out|apply below_alloc|apply pw_below_drewN|apply below_drew1)|exact HB.out))));have n1_:=Aside0.mk (below_step (by repeat (first|(with_reducible first|exact HB.out|apply below_alloc|apply pw_below_drewN|apply below_drew1)|exact HB.out)) hb);clear HB;have HO247:=n0_;have HB:=n1_;clear n0_ n1_;(try clear hb);(try clear hb2);(try clear hk);(try clear hi);(try clear ho0);obtain ⟨Ao17,co17,eo17⟩:=Kd.R_slice HO247.out;subst eo17)|((with_reducible refine gate_callee (f:=39) rfl ?_);refine goesL_ (some 30) rfl rfl Tryd.func39 (by kernel_rfl) rfl #[.agg #[.slice Ao17 t245.length co17,.int .i64 t248],.slice A0 l0.length c0,.string a1,.int .i64 a2] rfl (by (try simp only [List.map_toArray,List.map_cons,List.map_nil]);first|done|rfl|(simp only [List.length_drop,List.length_take];rfl)) ?_;(with_reducible refine (spec_l2ends.calls kj3 _ _ t245 t248 _ _ l0 a1 a2 t249 _ ?side1 ?side2 ?side3 ?side4 A15.out).mono ?_);(case side1=>repeat (first|exact (Kd.R_reads' HO247.out).2.2|(with_reducible refine Kd.C_alloc ?_ _)|(with_reducible refine Kd.C_drewN ?_ _)|(with_reducible refine Kd.C_drew ?_)));(case side2=>exact (Kd.R_reads' HO247.out).2.1);(case side3=>repeat (first|exact (Kd.C_below HR0.out HB.out)|(with_reducible refine Kd.C_alloc ?_ _)|(with_reducible refine Kd.C_drewN ?_ _)|(with_reducible refine Kd.C_drew ?_)));(case side4=>exact HC0.out);rintro e w18 ⟨v250,rfl,ho0,hb⟩;refine ⟨_,rfl,?_⟩;have n0_:=Aside0.mk (Kd.R_below (by (with_reducible repeat (first|apply Kd.R_alloc|apply Kd.R_drewN|apply Kd.R_drew));exact HO247.out) hb);have n1_:=Aside0.mk (Kd.R_lower ho0 (below_size (by repeat (first|(with_reducible first|exact HB.out|apply below_alloc|apply pw_below_drewN|apply below_drew1)|exact HB.out))));have n2_:=Aside0.mk (below_step (by repeat (first|(with_reducible first|exact HB.out|apply below_alloc|apply pw_below_drewN|apply below_drew1)|exact HB.out)) hb);clear HO247;clear HB;have HO247:=n0_;have HO251:=n1_;have HB:=n2_;clear n0_ n1_ n2_;(try clear hb);(try clear hb2);(try clear hk);(try clear hi);(try clear ho0)))
    go_ret
    exact ⟨_,by first|rfl|(simp [errW_none,errW_some] <;> rfl)|(simp [*,errW_none,errW_some] <;> rfl),by (with_reducible repeat (first|apply Kd.R_alloc|apply Kd.R_drewN|apply Kd.R_drew));exact HO251.out,by repeat (first|(with_reducible first|exact HB.out|apply below_alloc|apply pw_below_drewN|apply below_drew1)|exact HB.out)⟩
def laws_markIntS.l0 : Nat → List Int → Int → Int → Option (Int × List Int)
 | 0,_,_,_=>none
 | k + 1,x0,x1,x5=>if x5 < (x0.length : Int) then (if 0 ≤ x5 then (laws_markIntS.l0 k (x0.set (x5 : Int).toNat x1) (wrap64 (x1 + 1)) (wrap64 (x5 + 1))) else (none)) else (some (x1,x0))
def laws_markIntS.f (k : Nat) (l0 : List Int) (a1 : Int) : Option (Int × List Int):=laws_markIntS.l0 k l0 a1 0
set_option maxHeartbeats 8000000 in
set_option maxRecDepth 100000 in
theorem laws_markIntS.calls (k : Nat) (P0_ : Nat → Prop) (u9000_ : Value) (l0 : List Int) (a1 : Int) (r1 : Int) (r2 : List Int) (w0 w : World) (hB : Below w0.heap.size w0 w) (ho0 : Kd.R (Kd.int .i64) 3 w w0.heap.size P0_ u9000_ l0) (h : laws_markIntS.f k l0 a1 = some (r1,r2)) :
  Calls Tryd.prog 22 #[u9000_,.int .i64 a1] w fun e w'=>e = .returned (.int .i64 r1) ∧ Kd.R (Kd.int .i64) 3 w' w0.heap.size (fun k_=>(P0_ k_ ∨ w.heap.size ≤ k_)) u9000_ r2 ∧ Below w0.heap.size w0 w' ∧ Kept w w' (fun k_=>P0_ k_):=by
 have HO0:=Aside0.mk (show Kd.R (Kd.int .i64) 3 w w0.heap.size (fun k_=>(P0_ k_ ∨ w.heap.size ≤ k_)) u9000_ l0 from Kd.R_mono ho0 (fun k_ hk=>(.inl hk)))
 have HK:=Aside0.mk (Kept.refl w (fun k_=>P0_ k_))
 have HW0:=Aside0.mk hB.size
 have HB:=Aside0.mk hB
 clear hB
 have H : (laws_markIntS.l0 k l0 a1 0) = some (r1,r2):=h
 clear h
 have H':=Aside0.mk H
 clear H
 go_enter Tryd.func22,Tryd.ntmps22
 go_wp2
 go_loopg [1,5] k (fun kq v1 v5 w'=>∃ (x0_1 : List Int) (x1_1 : Int) (x5_1 : Int),v1 = .int .i64 x1_1 ∧ v5 = .int .i64 x5_1 ∧ Aside0 (laws_markIntS.l0 kq x0_1 x1_1 x5_1 = some (r1,r2)) ∧ Aside0 (kq ≤ k) ∧ Aside0 (Kd.R (Kd.int .i64) 3 w' w0.heap.size (fun k_=>(P0_ k_ ∨ w.heap.size ≤ k_)) u9000_ x0_1) ∧ Aside0 (Kept w w' (fun k_=>P0_ k_)) ∧ Aside0 (Below w0.heap.size w0 w'))
 case atStart=>exact ⟨(l0),(a1),(0),(by first|rfl|(simp;done)|(simp [*];done)),(by first|rfl|(simp;done)|(simp [*];done)),H',⟨Nat.le_refl _⟩,⟨by (with_reducible repeat (first|apply Kd.R_alloc|apply Kd.R_drewN|apply Kd.R_drew));exact HO0.out⟩,⟨by repeat (first|(with_reducible first|exact HK.out|apply Kept.alloc|apply Kept.drewN|apply Kept.drew)|exact HK.out)⟩,⟨by repeat (first|(with_reducible first|exact HB.out|apply below_alloc|apply pw_below_drewN|apply below_drew1)|exact HB.out)⟩⟩
 case round =>
  clear H'
  try clear c2
  try clear p2
  obtain ⟨x0_1,x1_1,x5_1,rfl,rfl,HA,HK1,HO_0,HK,HB⟩:=hrel
  cases gk with
  | zero=>exact absurd HA.out (by simp [laws_markIntS.l0])
  | succ k1 =>
   have H:=HA.out
   clear HA
   simp only [laws_markIntS.l0] at H
   by_cases c3 : x5_1 < (x0_1.length : Int)
   ·rw [if_pos c3] at H
    have c3b0 : decide (x5_1 < (x0_1.length : Int)) = true:=decide_eq_true c3
    clear c3
    by_cases c4 : 0 ≤ x5_1
    ·rw [if_pos c4] at H
     have c4b0 : decide (0 ≤ x5_1) = true:=decide_eq_true c4
     clear c4
     obtain ⟨y252,hy252⟩ : ∃ y_ : List Int,y_ = (x0_1.set (x5_1 : Int).toNat x1_1):=⟨_,rfl⟩
     replace H : (laws_markIntS.l0 k1 y252 (wrap64 (x1_1 + 1)) (wrap64 (x5_1 + 1))) = some (r1,r2):=by first|(rw [hy252];with_reducible exact H)|(have H2_:=(Option.bind_some _ _).symm.trans H;rw [hy252];with_reducible exact H2_)|(have H2_:=(Option.bind_some _ _).symm.trans H;with_reducible exact H2_)|with_reducible exact H|(rw [hy252];exact H)|exact H
     have Ny252:=Aside0.mk hy252
     clear hy252
     have H':=Aside0.mk H
     clear H
     obtain ⟨Ao6,co6,eo6⟩:=Kd.R_slice HO_0.out
     subst eo6
     have p5 : 0 ≤ (x5_1 : Int):=of_decide_eq_true (by first|(with_reducible assumption)|assumption)
     have q5 : (x5_1 : Int) < ((x0_1.length : Int) : Int):=of_decide_eq_true (by first|(with_reducible assumption)|assumption)
     obtain ⟨go5,co5,eo5,gb5,gl5,cl5,HG5⟩:=Kd.R_form HO_0.out (by omega)
     (first|cases eo5|(injection eo5 with ea_ en_ ec_;(first|subst ea_|(injection ea_ with ea_;subst ea_));subst ec_;clear en_))
     have GB5:=Aside0.mk gb5
     have GG5:=Aside0.mk HG5
     clear gb5 gl5 HG5
     have HMgo5:=Aside0.mk (show (P0_ go5 ∨ w.heap.size ≤ go5) from (HO_0.out.1 _ rfl))
     obtain ⟨hx5_0,hf5_0⟩:=Kd.R_celln 0 HO_0.out (x5_1 : Int) p5 q5
     replace p5:=eq_true p5
     replace q5:=eq_true q5
     have HP7:=Kd.R_putg HO_0.out (x5_1 : Int) x1_1
     go_wp2_with (first|((with_reducible refine gate_store (t:=3) (p:=15) rfl ?_);refine store_event (t:=3) (p:=15) (v:=?vo_w8) (w1:=(wr.setCell ⟨go5,(x5_1 : Int).toNat,none⟩ (.int .i64 x1_1))) ?hg ?ho ?hn ?hr ?_;(case ho=>rfl);(case hg=>rfl);(case hn=>rfl);(case hr=>first|(go_simp;done)|(go_simp;rfl));intro w8 hw;have hg : wr.grownBy w8 (some go5):=(by rw [hw];exact HP7.2);have hp_ : Kd.R (Kd.int .i64) 3 w8 w0.heap.size (fun k_=>(P0_ k_ ∨ w.heap.size ≤ k_)) (.slice (some ⟨go5,0,none⟩) x0_1.length co6) y252:=(by rw [hw,Ny252.out];exact HP7.1);clear HP7;have n0_:=Aside0.mk (hp_);have n1_:=Aside0.mk ((by rw [hw];exact below_set (HB.out) GB5.out : Below w0.heap.size w0 w8));have n2_:=Aside0.mk (Kept.of_grown (S:=(fun k_=>P0_ k_)) hg (by repeat (first|(with_reducible first|exact HK.out|apply Kept.alloc|apply Kept.drewN|apply Kept.drew)|exact HK.out)) (fun k_ e_=>(HO_0.out.1 k_ e_)));clear HO_0;clear HB;clear HK;have HO_0:=n0_;have HB:=n1_;have HK:=n2_;clear n0_ n1_ n2_;clear hg hw hp_))
     go_roundg k1
     case measure=>have:=HK1.out;omega
     case rel=>exact ⟨(y252),(wrap64 (x1_1 + 1)),(wrap64 (x5_1 + 1)),(by first|rfl|(simp;done)|(simp [*];done)),(by first|rfl|(simp;done)|(simp [*];done)),H',⟨by have:=HK1.out;omega⟩,⟨by (with_reducible repeat (first|apply Kd.R_alloc|apply Kd.R_drewN|apply Kd.R_drew));exact HO_0.out⟩,⟨by repeat (first|(with_reducible first|exact HK.out|apply Kept.alloc|apply Kept.drewN|apply Kept.drew)|exact HK.out)⟩,⟨by repeat (first|(with_reducible first|exact HB.out|apply below_alloc|apply pw_below_drewN|apply below_drew1)|exact HB.out)⟩⟩
    ·rw [if_neg c4] at H
     exact absurd H (by simp)
   ·rw [if_neg c3] at H
    have c3b0 : decide (x5_1 < (x0_1.length : Int)) = false:=decide_eq_false c3
    clear c3
    simp only [Option.some.injEq,Prod.mk.injEq] at H
    obtain ⟨rfl,rfl⟩:=H
    obtain ⟨Ao9,co9,eo9⟩:=Kd.R_slice HO_0.out
    subst eo9
    go_wp2
    go_ret
    exact ⟨by first|rfl|(simp [errW_none,errW_some] <;> rfl)|(simp [*,errW_none,errW_some] <;> rfl),by (with_reducible repeat (first|apply Kd.R_alloc|apply Kd.R_drewN|apply Kd.R_drew));exact HO_0.out,by repeat (first|(with_reducible first|exact HB.out|apply below_alloc|apply pw_below_drewN|apply below_drew1)|exact HB.out),by repeat (first|(with_reducible first|exact HK.out|apply Kept.alloc|apply Kept.drewN|apply Kept.drew)|exact HK.out)⟩
def laws_heldIntS.l0 : Nat → List Int → Int → Int → Option (Int)
 | 0,_,_,_=>none
 | k + 1,x0,x1,x5=>if x5 < (x0.length : Int) then (if 0 ≤ x5 then (if (rd x0 x5) = x1 then (laws_heldIntS.l0 k x0 (wrap64 (x1 + 1)) (wrap64 (x5 + 1))) else (some (-1))) else (none)) else (some x1)
def laws_heldIntS.f (k : Nat) (l0 : List Int) (a1 : Int) : Option (Int):=laws_heldIntS.l0 k l0 a1 0
set_option maxHeartbeats 8000000 in
set_option maxRecDepth 100000 in
theorem laws_heldIntS.calls (k : Nat) (A0 : Option Addr) (c0 : Nat) (l0 : List Int) (a1 : Int) (r : Int) (w : World) (hr0 : Kd.C (Kd.int .i64) w A0 l0.length l0) (hc0 : l0.length ≤ c0) (h : laws_heldIntS.f k l0 a1 = some r) :
  Calls Tryd.prog 23 #[.slice A0 l0.length c0,.int .i64 a1] w fun e w'=>e = .returned (.int .i64 r) ∧ Drawn0 w w':=by
 have HR0:=Aside0.mk hr0
 have HC0:=Aside0.mk hc0
 clear hr0 hc0
 have H : (laws_heldIntS.l0 k l0 a1 0) = some r:=h
 clear h
 have H':=Aside0.mk H
 clear H
 go_enter Tryd.func23,Tryd.ntmps23
 go_wp2
 go_loopg [1,5] k (fun kq v1 v5 w'=>∃ (x1_1 : Int) (x5_1 : Int),v1 = .int .i64 x1_1 ∧ v5 = .int .i64 x5_1 ∧ Aside0 (laws_heldIntS.l0 kq l0 x1_1 x5_1 = some r) ∧ Aside0 (kq ≤ k) ∧ Drawn0 w w')
 case atStart=>exact ⟨(a1),(0),(by first|rfl|(simp;done)|(simp [*];done)),(by first|rfl|(simp;done)|(simp [*];done)),H',⟨Nat.le_refl _⟩,by repeat (first|exact Drawn0.refl _|apply Drawn0.step)⟩
 case round =>
  clear H'
  try clear c2
  try clear p2
  obtain ⟨x1_1,x5_1,rfl,rfl,HA,HK1,⟨m1,rfl⟩⟩:=hrel
  cases gk with
  | zero=>exact absurd HA.out (by simp [laws_heldIntS.l0])
  | succ k1 =>
   have H:=HA.out
   clear HA
   simp only [laws_heldIntS.l0] at H
   by_cases c3 : x5_1 < (l0.length : Int)
   ·rw [if_pos c3] at H
    have c3b0 : decide (x5_1 < (l0.length : Int)) = true:=decide_eq_true c3
    clear c3
    by_cases c4 : 0 ≤ x5_1
    ·rw [if_pos c4] at H
     have c4b0 : decide (0 ≤ x5_1) = true:=decide_eq_true c4
     clear c4
     by_cases c5 : (rd l0 x5_1) = x1_1
     ·rw [if_pos c5] at H
      have c5b0 : ((rd l0 x5_1) == x1_1) = true:=beq_iff_eq.mpr c5
      have c5b1 : ((rd l0 x5_1) != x1_1) = false:=bne_eq_false_iff_eq.mpr c5
      clear c5
      have H':=Aside0.mk H
      clear H
      have p253 : 0 ≤ (x5_1 : Int):=of_decide_eq_true (by first|(with_reducible assumption)|assumption)
      have q253 : x5_1 < (l0.length : Int):=of_decide_eq_true (by first|(with_reducible assumption)|assumption)
      obtain ⟨ad253,e253,hx253_0⟩:=Kd.at_int HR0.out x5_1 p253 q253
      cases e253
      replace p253:=eq_true p253
      replace q253:=eq_true q253
      go_wp2
      go_roundg k1
      case measure=>have:=HK1.out;omega
      case rel=>exact ⟨(wrap64 (x1_1 + 1)),(wrap64 (x5_1 + 1)),(by first|rfl|(simp;done)|(simp [*];done)),(by first|rfl|(simp;done)|(simp [*];done)),H',⟨by have:=HK1.out;omega⟩,by repeat (first|exact Drawn0.refl _|apply Drawn0.step)⟩
     ·rw [if_neg c5] at H
      have c5b0 : ((rd l0 x5_1) == x1_1) = false:=beq_eq_false_iff_ne.mpr c5
      have c5b1 : ((rd l0 x5_1) != x1_1) = true:=bne_iff_ne.mpr c5
      obtain rfl:=Option.some.inj H
      have p253 : 0 ≤ (x5_1 : Int):=of_decide_eq_true (by first|(with_reducible assumption)|assumption)
      have q253 : x5_1 < (l0.length : Int):=of_decide_eq_true (by first|(with_reducible assumption)|assumption)
      obtain ⟨ad253,e253,hx253_0⟩:=Kd.at_int HR0.out x5_1 p253 q253
      cases e253
      replace p253:=eq_true p253
      replace q253:=eq_true q253
      go_wp2
      go_ret
      exact ⟨by first|rfl|(simp;done)|(simp [*];done),by repeat (first|exact Drawn0.refl _|apply Drawn0.step)⟩
    ·rw [if_neg c4] at H
     exact absurd H (by simp)
   ·rw [if_neg c3] at H
    have c3b0 : decide (x5_1 < (l0.length : Int)) = false:=decide_eq_false c3
    clear c3
    obtain rfl:=Option.some.inj H
    go_wp2
    go_ret
    exact ⟨by first|rfl|(simp;done)|(simp [*];done),by repeat (first|exact Drawn0.refl _|apply Drawn0.step)⟩
end Go.Proofs.YtlakdfbfkbndiaaDoor.Q
set_option linter.unusedVariables false
namespace Go.Proofs.YtlakdfbfkbndiaaDoor.Q
open Go.RowKit Go.Proofs.YtlakdfbfkbndiaaDoor.Re Go.Proofs.YtlakdfbfkbndiaaDoorW.PrintWords Go.Proofs.YtlakdfbfkbndiaaDoorW.PrintLast Go.Proofs.YtlakdfbfkbndiaaDoorW.PrintMore
def markIK : Nat → Int → Int
  | 0, k => k
  | n + 1, k => markIK n (wrap64 (k + 1))
def markNK : List Nat → Int → Int
  | [], k => k
  | n :: r, k => markNK r (markIK n (wrap64 (wrap64 (wrap64 (k + 1) + 1) + 1)))
def Tch (w W : World) (S : Nat → Prop) : Prop := w.heap.size ≤ W.heap.size ∧ ∀ j, j < w.heap.size → (¬ S j → W.heap[j]? = w.heap[j]?) ∧ ∀ cur e, w.heap[j]? = some (.cells cur e (0, 0)) → ∃ cur', W.heap[j]? = some (.cells cur' e (0, 0)) ∧ cur'.size = cur.size
end Go.Proofs.YtlakdfbfkbndiaaDoor.Q
set_option linter.unusedVariables false
namespace Go.Proofs.YtlakdfbfkbndiaaDoor.Q
open Go.RowKit Go.Proofs.YtlakdfbfkbndiaaDoor.Re Go.Proofs.YtlakdfbfkbndiaaDoorW.PrintWords Go.Proofs.YtlakdfbfkbndiaaDoorW.PrintLast Go.Proofs.YtlakdfbfkbndiaaDoorW.PrintMore
section
variable {w W V : World} {S S' : Nat → Prop}
theorem Tch.refl (w : World) (S : Nat → Prop) : Tch w w S := ⟨Nat.le_refl _, fun j _ => ⟨fun _ => rfl, fun cur _ h => ⟨cur, h, rfl⟩⟩⟩
theorem Tch.trans (h : Tch w W S) (h' : Tch W V S') (hs : ∀ j, S' j → S j) : Tch w V S := ⟨Nat.le_trans h.1 h'.1, fun j hj => by
  obtain ⟨h1, h2⟩ := h.2 j hj
  obtain ⟨h3, h4⟩ := h'.2 j (Nat.lt_of_lt_of_le hj h.1)
  refine ⟨fun hn => (h3 fun h => hn (hs j h)).trans (h1 hn), fun cur e hc => ?_⟩
  obtain ⟨cur1, h5, h6⟩ := h2 cur e hc
  obtain ⟨cur2, h7, h8⟩ := h4 cur1 e h5
  exact ⟨cur2, h7, h8.trans h6⟩⟩
theorem Tch.below (hb : Below w.heap.size w W) (S : Nat → Prop) : Tch w W S := ⟨hb.size, fun j hj => ⟨fun _ => hb.block j hj, fun cur e h => ⟨cur, (hb.block j hj).trans h, rfl⟩⟩⟩
theorem Tch.set {b t : Nat} {cur : Array Value} (h : w.heap[b]? = some (.cells cur t (0, 0))) (hS : S b) (i : Nat) (u : Value) : Tch w (w.setCell ⟨b, i, none⟩ u) S := ⟨by simp [World.setCell], fun j hj => by
  by_cases hjb : j = b
  · subst hjb
    refine ⟨fun hn => absurd hS hn, fun cur' e hc => ?_⟩
    rw [h] at hc
    simp only [Option.some.injEq, Obj.cells.injEq] at hc
    obtain ⟨rfl, rfl, -⟩ := hc
    exact ⟨_, blk_set h i u, by simp⟩
  · have e := Below.heap_setCell w ⟨b, i, none⟩ u j hjb
    exact ⟨fun _ => e, fun cur' t hc => ⟨cur', e.trans hc, rfl⟩⟩⟩
theorem Tch.kept (h : Tch w W S) : Kept w W S := ⟨h.1, fun i hi hn => (h.2 i hi).1 hn⟩
end
end Go.Proofs.YtlakdfbfkbndiaaDoor.Q
set_option linter.unusedVariables false
namespace Go.Proofs.YtlakdfbfkbndiaaDoor.Q
open Go.RowKit Go.Proofs.YtlakdfbfkbndiaaDoor.Re Go.Proofs.YtlakdfbfkbndiaaDoorW.PrintWords Go.Proofs.YtlakdfbfkbndiaaDoorW.PrintLast Go.Proofs.YtlakdfbfkbndiaaDoorW.PrintMore
theorem cell_of {w : World} {b t i : Nat} {cur : Array Value} (h : w.heap[b]? = some (.cells cur t (0, 0))) (hi : i < cur.size) : ∃ u, w.cell? ⟨b, i, none⟩ = some u ∧ w.frozen? ⟨b, i, none⟩ = false :=
  ⟨cur[i], by simp [World.cell?, h, hi], by simp [World.frozen?, h]⟩
set_option maxRecDepth 100000 in
theorem markI_calls (A : Option Addr) (n c : Nat) (k : Int) (w0 w : World) (hB : Below w0.heap.size w0 w) (hnb : n ≤ 1048576) (h : n = 0 ∨ ∃ b cur, A = some ⟨b, 0, none⟩ ∧ w0.heap.size ≤ b ∧ w.heap[b]? = some (.cells cur 3 (0, 0)) ∧ n ≤ cur.size) :
    Calls Tryd.prog 22 #[.slice A n c, .int .i64 k] w fun e w' => e = .returned (.int .i64 (markIK n k)) ∧ Below w0.heap.size w0 w' ∧ Tch w w' (fun j => A = some ⟨j, 0, none⟩ ∧ 0 < n) := by
  have HB := Aside0.mk hB
  have HF := Aside0.mk h
  have HT := Aside0.mk (Tch.refl w (fun j => A = some ⟨j, 0, none⟩ ∧ 0 < n))
  clear hB h
  go_enter Tryd.func22, Tryd.ntmps22
  go_wp2_with fail
  go_loopg [1, 5] n (fun g v1 v5 wr => ∃ (i : Nat) (k' : Int), v1 = .int .i64 k' ∧ v5 = .int .i64 (i : Int) ∧ i ≤ n ∧ n - i ≤ g ∧ Aside0 (markIK n k = markIK (n - i) k') ∧ Aside0 (Below w0.heap.size w0 wr) ∧ Aside0 (Tch w wr (fun j => A = some ⟨j, 0, none⟩ ∧ 0 < n)))
  case atStart => exact ⟨0, k, rfl, rfl, by omega, by omega, ⟨by rw [Nat.sub_zero]⟩, HB, HT⟩
  case round =>
    clear HB HT
    obtain ⟨i, k', rfl, rfl, hi, hg, HV, HB, HT⟩ := hrel
    by_cases hlt : i < n
    · have hlt0 : ((i : Int) < (n : Int)) = True := eq_true (by omega)
      obtain ⟨b, cur, rfl, hb, hh, hn⟩ : ∃ b cur, A = some ⟨b, 0, none⟩ ∧ w0.heap.size ≤ b ∧ w.heap[b]? = some (.cells cur 3 (0, 0)) ∧ n ≤ cur.size := by
        rcases HF.out with h | h
        · omega
        · exact h
      obtain ⟨cur', hh', hs⟩ := (HT.out.2 b (blk_lt hh)).2 cur 3 hh
      obtain ⟨u0, hc, hf⟩ := cell_of hh' (i := i) (by omega)
      have HH := Aside0.mk hh'
      have HBb := Aside0.mk hb
      have HG := Aside0.mk (And.intro hg (And.intro hi hlt))
      have HS := Aside0.mk (Tch.set (S := fun j => (some ⟨b, 0, none⟩ : Option Addr) = some ⟨j, 0, none⟩ ∧ 0 < n) hh' ⟨rfl, by omega⟩ i (.int .i64 k'))
      have HBn := Aside0.mk (below_set (j := i) (v := .int .i64 k') HB.out hb)
      clear hh hh' hb hn hs hg hi hlt HF
      go_wp2_with (first | ((with_reducible refine gate_store (t := 3) (p := 15) rfl ?_); refine store_event (t := 3) (p := 15) (v := ?vo) (w1 := (wr.setCell ⟨b, i, none⟩ (.int .i64 k'))) ?hg ?ho ?hn ?hr ?_; (case ho => rfl); (case hg => rfl); (case hn => rfl); (case hr => first | (go_simp; done) | (go_simp; rfl)); intro w8 hw; have HB8 := Aside0.mk (show Below w0.heap.size w0 w8 by rw [hw]; exact HBn.out); have HT8 := Aside0.mk (show Tch w w8 _ by rw [hw]; exact HT.out.trans HS.out (fun _ h => h)); clear hw))
      go_roundg (n - (i + 1))
      case measure => have := HG.out; omega
      case rel => exact ⟨i + 1, wrap64 (k' + 1), by go_num, (by have h1 := HG.out; show Value.int .i64 _ = .int .i64 _; congr 1; unfold wrap64; omega), by have := HG.out; omega, Nat.le_refl _, ⟨HV.out.trans (by rw [show n - i = (n - (i + 1)) + 1 by have := HG.out; omega]; rfl)⟩, HB8, HT8⟩
    · obtain rfl : i = n := by omega
      have hlt0 : ((i : Int) < (i : Int)) = False := eq_false (by omega)
      have HV2 := HV.out
      rw [Nat.sub_self] at HV2
      have HV3 := Aside0.mk HV2
      clear HV2 HV hlt hi hg
      go_wp2_with fail
      go_ret
      exact ⟨by rw [HV3.out]; rfl, HB.out, HT.out⟩
def NInv (P0 : Nat → Prop) (base g : Nat) (l : List S49) (W : World) : Prop := ∃ cells, W.heap[g]? = some (.cells cells 49 (0, 0)) ∧ ∀ i, i < l.length → i * 4 + 4 ≤ cells.size ∧ ∃ A c, cells[i * 4 + 3]? = some (.slice A (rd_T49 l i).f3.length c) ∧
  ((rd_T49 l i).f3.length = 0 ∨ ∃ b cur, A = some ⟨b, 0, none⟩ ∧ base ≤ b ∧ b ≠ g ∧ P0 b ∧ W.heap[b]? = some (.cells cur 3 (0, 0)) ∧ (rd_T49 l i).f3.length ≤ cur.size)
end Go.Proofs.YtlakdfbfkbndiaaDoor.Q
set_option linter.unusedVariables false
namespace Go.Proofs.YtlakdfbfkbndiaaDoor.Q
open Go.RowKit Go.Proofs.YtlakdfbfkbndiaaDoor.Re Go.Proofs.YtlakdfbfkbndiaaDoorW.PrintWords Go.Proofs.YtlakdfbfkbndiaaDoorW.PrintLast Go.Proofs.YtlakdfbfkbndiaaDoorW.PrintMore
section
variable {P0 S : Nat → Prop} {base g n cap : Nat} {l : List S49} {W W' : World}
theorem NInv.step (h : NInv P0 base g l W) (hT : Tch W W' S) (hg : ¬ S g) : NInv P0 base g l W' := by
  obtain ⟨cells, h1, h2⟩ := h
  refine ⟨cells, ((hT.2 g (blk_lt h1)).1 hg).trans h1, fun i hi => ?_⟩
  obtain ⟨h3, A, c, h4, h5⟩ := h2 i hi
  refine ⟨h3, A, c, h4, h5.imp id ?_⟩
  rintro ⟨b, cur, a1, a2, a3, a4, a5, a6⟩
  obtain ⟨cur', c1, c2⟩ := (hT.2 b (blk_lt a5)).2 cur 3 a5
  exact ⟨b, cur', a1, a2, a3, a4, c1, by rw [c2]; exact a6⟩
theorem NInv.set (h : NInv P0 base g l W) (i j : Nat) (hj : j < 3) (u : Value) : NInv P0 base g l (W.setCell ⟨g, i * 4 + j, none⟩ u) := by
  obtain ⟨cells, h1, h2⟩ := h
  refine ⟨_, blk_set h1 (i * 4 + j) u, fun k hk => ?_⟩
  obtain ⟨h3, A, c, h4, h5⟩ := h2 k hk
  refine ⟨by simpa using h3, A, c, ?_, h5.imp id ?_⟩
  · rw [Array.getElem?_setIfInBounds_ne (by omega)]
    exact h4
  · rintro ⟨b, cur, a1, a2, a3, a4, a5, a6⟩
    exact ⟨b, cur, a1, a2, a3, a4, blk_far a5 (p := ⟨g, i * 4 + j, none⟩) a3 u, a6⟩
theorem NInv.cell (h : NInv P0 base g l W) {i j : Nat} (hi : i < l.length) (hj : j < 4) : ∃ u, W.cell? ⟨g, i * 4 + j, none⟩ = some u ∧ W.frozen? ⟨g, i * 4 + j, none⟩ = false := by
  obtain ⟨cells, h1, h2⟩ := h
  exact cell_of h1 (by have := (h2 i hi).1; omega)
theorem NInv.row (h : NInv P0 base g l W) {i : Nat} (hi : i < l.length) : ∃ A c, W.cell? ⟨g, i * 4 + 3, none⟩ = some (.slice A (rd_T49 l i).f3.length c) ∧ ((rd_T49 l i).f3.length = 0 ∨ ∃ b cur, A = some ⟨b, 0, none⟩ ∧ base ≤ b ∧ b ≠ g ∧ P0 b ∧ W.heap[b]? = some (.cells cur 3 (0, 0)) ∧ (rd_T49 l i).f3.length ≤ cur.size) := by
  obtain ⟨cells, h1, h2⟩ := h
  obtain ⟨h3, A, c, h4, h5⟩ := h2 i hi
  exact ⟨A, c, by simp [World.cell?, h1, h4], h5⟩
theorem row_size {v : Value} {e : Nat} {ok : Nat → Prop} {xs : List Int} {b c : Nat} (h : (Kd.int .i64).R e W base ok v xs) (hv : v = .slice (some ⟨b, 0, none⟩) xs.length c) : ∃ cur, W.heap[b]? = some (.cells cur e (0, 0)) ∧ xs.length ≤ cur.size := by
  obtain ⟨inner, ho⟩ := Kd.R_own h
  rcases ho.2 with ⟨h2, _⟩ | ⟨g, cap', cur, h2, h3, h4, h5, h6, h7, h8⟩
  · rw [h2] at hv; cases hv
  · rw [h2] at hv
    cases hv
    refine ⟨cur, h4, ?_⟩
    have : (Kd.int .i64).sz = 1 := rfl
    rw [this] at h7
    omega
theorem NInv.of (h : k49.R 49 W base P0 (.slice (some ⟨g, 0, none⟩) n cap) l) : NInv P0 base g l W := by
  obtain ⟨hn, hnc, hC⟩ := Kd.R_reads' h
  obtain ⟨inner0, ho⟩ := Kd.R_own h
  obtain ⟨cells, hcl⟩ := own_typed ho g (by simp [Value.ownBlock])
  refine ⟨cells, hcl, fun i hi => ?_⟩
  obtain ⟨c, c1, c2, c3, c4⟩ := Kd.R_elem h z49 (i : Int) (by omega) (by omega)
  rw [Int.toNat_natCast] at c2 c3
  have e4 : k49.sz = 4 := rfl
  rw [e4] at c3
  obtain ⟨v3, rfl, hr3⟩ := k49_openM c2
  have e1 : l.getD i z49 = rd_T49 l i := by unfold rd_T49; rw [Int.toNat_natCast]
  rw [e1] at hr3
  have h3 := c3 3 v3 rfl
  have h3' : cells[i * 4 + 3]? = some v3 := by
    have h9 := h3
    simp only [World.cell?, hcl] at h9
    exact h9
  refine ⟨by have := (Array.getElem?_eq_some_iff.mp h3').1; omega, ?_⟩
  obtain ⟨A, c, rfl⟩ := Kd.R_slice hr3
  refine ⟨A, c, h3', ?_⟩
  by_cases h0 : (rd_T49 l i).f3.length = 0
  · exact .inl h0
  · obtain ⟨b, cp, e5, hb1, hb2, -⟩ := Kd.R_form hr3 (by omega)
    injection e5 with ea _ ec
    subst ea
    obtain ⟨cur, d1, d2⟩ := row_size hr3 (by rw [ec])
    have hok := hr3.1 b (by simp [Value.ownBlock])
    exact .inr ⟨b, cur, rfl, hb1, hok.2, hok.1, d1, d2⟩
end
end Go.Proofs.YtlakdfbfkbndiaaDoor.Q
set_option linter.unusedVariables false
namespace Go.Proofs.YtlakdfbfkbndiaaDoor.Q
open Go.RowKit Go.Proofs.YtlakdfbfkbndiaaDoor.Re Go.Proofs.YtlakdfbfkbndiaaDoorW.PrintWords Go.Proofs.YtlakdfbfkbndiaaDoorW.PrintLast Go.Proofs.YtlakdfbfkbndiaaDoorW.PrintMore
theorem markText_some : ∀ (d : Nat) (x : Int) (out : ByteArray), 0 ≤ x → x < 10 ^ d → x ≤ 9223372036854775807 → out.size + d ≤ 1000 → ∃ r, laws_markText.l0 (d + 1) x out = some r := by
  intro d
  induction d with
  | zero =>
    intro x out h0 h1 h2 h3
    simp only [laws_markText.l0]
    rw [if_neg (by simp at h1; omega), if_pos (by omega)]
    exact ⟨_, rfl⟩
  | succ d ih =>
    intro x out h0 h1 h2 h3
    rw [laws_markText.l0]
    by_cases hx : x > 0
    · rw [if_pos hx]
      simp only [Option.bind_some]
      have hs : (strOfNums [(wrap64 (48 + (Int.tmod x 10))) % 256]).size = 1 := rfl
      rw [if_pos (by rw [hs]; omega)]
      have e1 : Int.tdiv x 10 = x / 10 := by rw [Int.tdiv_eq_ediv_of_nonneg h0]
      have e2 : wrap64 (Int.tdiv x 10) = x / 10 := by rw [e1]; unfold wrap64; omega
      rw [e2]
      refine ih _ _ (by omega) ?_ (by omega) (by rw [ByteArray.size_append, hs]; omega)
      rw [Int.pow_succ] at h1
      omega
    · rw [if_neg hx, if_pos (by omega)]
      exact ⟨_, rfl⟩
theorem markText_any (x : Int) (h : x ≤ 9223372036854775807) : ∃ r, laws_markText.f 20 x = some r := by
  unfold laws_markText.f
  by_cases hx : x ≤ 0
  · rw [if_pos hx]; exact ⟨_, rfl⟩
  · rw [if_neg hx]
    exact markText_some 19 x _ (by omega) (by omega) h (by decide)
open Classical in
noncomputable def laws_markReNodeS.f (l0 : List S49) (a1 : Int) : Option Int :=
  if l0.length ≤ 1048576 ∧ (∀ x, x ∈ l0 → x.f3.length ≤ 1048576) ∧ a1 ≤ 9223372036854775807 ∧ -9223372036854775808 ≤ a1 then some (markNK (l0.map fun x => x.f3.length) a1) else none
theorem wrap_in (x : Int) : -9223372036854775808 ≤ wrap64 x ∧ wrap64 x ≤ 9223372036854775807 := by unfold wrap64; omega
theorem markI_in : ∀ (n : Nat) (k : Int), (-9223372036854775808 ≤ k ∧ k ≤ 9223372036854775807) → -9223372036854775808 ≤ markIK n k ∧ markIK n k ≤ 9223372036854775807
  | 0, k, h => h
  | n + 1, k, _ => markI_in n _ (wrap_in _)
set_option maxHeartbeats 8000000 in
set_option maxRecDepth 100000 in
theorem laws_markReNodeS.calls (P0_ : Nat → Prop) (u9000_ : Value) (l0 : List S49) (a1 : Int) (r : Int) (w0 w : World) (hB : Below w0.heap.size w0 w) (ho0 : Kd.R k49 49 w w0.heap.size P0_ u9000_ l0) (h : laws_markReNodeS.f l0 a1 = some r) :
    Calls Tryd.prog 21 #[u9000_, .int .i64 a1] w fun e w' => e = .returned (.int .i64 r) ∧ Below w0.heap.size w0 w' ∧ Kept w w' (fun k_ => P0_ k_) := by
  unfold laws_markReNodeS.f at h
  split at h
  case isFalse => cases h
  rename_i hh
  obtain ⟨hl, hk, ha1, ha2⟩ := hh
  obtain rfl := Option.some.inj h
  by_cases hl0 : l0.length = 0
  · obtain rfl := List.length_eq_zero_iff.mp hl0
    obtain ⟨A, c, rfl⟩ := Kd.R_slice ho0
    have HB := Aside0.mk hB
    clear hB h ho0 hl hk ha1 ha2 hl0
    go_enter Tryd.func21, Tryd.ntmps21
    go_wp2_with fail
    go_loopg [1, 5] 0 (fun g v1 v5 wr => v1 = .int .i64 a1 ∧ v5 = .int .i64 0 ∧ wr = w)
    case atStart => exact ⟨rfl, rfl, rfl⟩
    case round =>
      obtain ⟨rfl, rfl, rfl⟩ := hrel
      go_wp2_with fail
      go_ret
      exact ⟨rfl, HB.out, Kept.refl _ _⟩
  · obtain ⟨g, cap, rfl, hg1, hg2, -⟩ := Kd.R_form ho0 (by omega)
    have HB := Aside0.mk hB
    have HI := Aside0.mk (NInv.of ho0)
    have HG0 := Aside0.mk (And.intro hg1 (ho0.1 g (by simp [Value.ownBlock])))
    have HL := Aside0.mk hl
    have HK := Aside0.mk hk
    have HT := Aside0.mk (Tch.refl w P0_)
    have HA := Aside0.mk (And.intro ha2 ha1)
    clear hB h ho0 hl hk ha1 ha2 hl0 hg1 hg2
    go_enter Tryd.func21, Tryd.ntmps21
    go_wp2_with fail
    go_loopg [1, 5] l0.length (fun gq v1 v5 wr => ∃ (i : Nat) (k' : Int), v1 = .int .i64 k' ∧ v5 = .int .i64 (i : Int) ∧ i ≤ l0.length ∧ l0.length - i ≤ gq ∧ Aside0 (-9223372036854775808 ≤ k' ∧ k' ≤ 9223372036854775807) ∧ Aside0 (markNK (l0.map fun x => x.f3.length) a1 = markNK ((l0.drop i).map fun x => x.f3.length) k') ∧ Aside0 (Below w0.heap.size w0 wr) ∧ Aside0 (Tch w wr P0_) ∧ Aside0 (NInv P0_ w0.heap.size g l0 wr))
    case atStart => exact ⟨0, a1, rfl, rfl, by omega, by omega, HA, ⟨by rw [List.drop_zero]⟩, HB, HT, HI⟩
    case round =>
      clear HB HT HI HA
      obtain ⟨i, k', rfl, rfl, hi, hgq, HA, HV, HB, HT, HI⟩ := hrel
      by_cases hlt : i < l0.length
      · have hlt0 : ((i : Int) < (l0.length : Int)) = True := eq_true (by omega)
        obtain ⟨u0, hc0, hf0⟩ := HI.out.cell hlt (j := 0) (by omega)
        rw [Nat.add_zero] at hc0 hf0
        have HG := Aside0.mk (And.intro hgq (And.intro hi hlt))
        clear hgq hi hlt
        go_wp2_with (first | ((with_reducible refine gate_store (t := 3) (p := 16) rfl ?_); refine store_event (t := 3) (p := 16) (v := ?voa) (w1 := (wr.setCell ⟨g, i * 4, none⟩ (.int .i64 k'))) ?hg ?ho ?hn ?hr ?_; (case ho => rfl); (case hg => rfl); (case hn => rfl); (case hr => first | (go_simp; done) | (go_simp; rfl)); intro w8 hw; have n1_ := Aside0.mk (show Below w0.heap.size w0 w8 by rw [hw]; exact below_set HB.out HG0.out.1); have n2_ := Aside0.mk (show Tch w w8 P0_ by rw [hw]; obtain ⟨cl_, hcl_, -⟩ := HI.out; exact HT.out.trans (Tch.set hcl_ HG0.out.2 _ _) (fun _ h => h)); have n3_ := Aside0.mk (show NInv P0_ w0.heap.size g l0 w8 by rw [hw]; exact HI.out.set i 0 (by omega) _); clear HB HT HI hw; have HB := n1_; have HT := n2_; have HI := n3_; clear n1_ n2_ n3_; obtain ⟨u1, hc1, hf1⟩ := HI.out.cell HG.out.2.2 (j := 1) (by omega)))
        obtain ⟨rt, hrt⟩ := markText_any (wrap64 (wrap64 (k' + 1) + 1)) (wrap_in _).2
        have HB2 := Aside0.mk (below_set (j := i * 4 + 1) (v := .bool ((wrap64 (k' + 1)).tmod 3 == 0)) HB.out HG0.out.1)
        have HI2 := Aside0.mk (HI.out.set i 1 (by omega) (.bool ((wrap64 (k' + 1)).tmod 3 == 0)))
        have HT2 : Aside0 (Tch w (w8.setCell ⟨g, i * 4 + 1, none⟩ (.bool ((wrap64 (k' + 1)).tmod 3 == 0))) P0_) := ⟨by obtain ⟨cl_, hcl_, -⟩ := HI.out; exact HT.out.trans (Tch.set hcl_ HG0.out.2 _ _) (fun _ h => h)⟩
        clear HB HT HI hc1 hf1
        generalize w8.setCell ⟨g, i * 4 + 1, none⟩ (.bool ((wrap64 (k' + 1)).tmod 3 == 0)) = w9 at HB2 HI2 HT2 ⊢
        refine (laws_markText.calls 20 _ rt w9 hrt).mono ?_
        rintro e w10 ⟨rfl, hb10⟩
        dsimp only
        have HB := Aside0.mk (HB2.out.trans (Below.mono hb10 HB2.out.size))
        have HT := Aside0.mk (HT2.out.trans (Tch.below hb10 P0_) (fun _ h => h))
        have HI := Aside0.mk (HI2.out.step (Tch.below hb10 (fun _ => False)) (fun h => h))
        clear HB2 HT2 HI2 hb10 hrt
        obtain ⟨u2, hc2, hf2⟩ := HI.out.cell HG.out.2.2 (j := 2) (by omega)
        obtain ⟨A3, c3, hrow, hcase⟩ := (HI.out.set i 2 (by omega) (.string rt)).row HG.out.2.2
        have hx : (rd_T49 l0 i).f3.length ≤ 1048576 := HK.out _ (by
          unfold rd_T49
          rw [Int.toNat_natCast, List.getD_eq_getElem?_getD, List.getElem?_eq_getElem HG.out.2.2]
          exact List.getElem_mem _)
        have hcall := fun k => markI_calls A3 (rd_T49 l0 i).f3.length c3 k w0 _ (below_set (j := i * 4 + 2) (v := .string rt) HB.out HG0.out.1) hx (hcase.imp id fun ⟨b, cur, q1, q2, q3, q4, q5, q6⟩ => ⟨b, cur, q1, q2, q5, q6⟩)
        have HB2 := Aside0.mk (below_set (j := i * 4 + 2) (v := .string rt) HB.out HG0.out.1)
        have HI2 := Aside0.mk (HI.out.set i 2 (by omega) (.string rt))
        have HT2 : Aside0 (Tch w (w10.setCell ⟨g, i * 4 + 2, none⟩ (.string rt)) P0_) := ⟨by obtain ⟨cl_, hcl_, -⟩ := HI.out; exact HT.out.trans (Tch.set hcl_ HG0.out.2 _ _) (fun _ h => h)⟩
        have HC := Aside0.mk hcase
        clear HB HT HI hcase hx
        go_wp2_with fail
        refine (hcall _).mono ?_
        rintro e w12 ⟨rfl, hb12, ht12⟩
        dsimp only
        have HB := Aside0.mk hb12
        have hS : ∀ j, (A3 = some ⟨j, 0, none⟩ ∧ 0 < (rd_T49 l0 i).f3.length) → P0_ j ∧ j ≠ g := fun j ⟨hj, hn⟩ => by
          rcases HC.out with h | ⟨b, cur, q1, q2, q3, q4, q5, q6⟩
          · omega
          · rw [hj] at q1
            cases q1
            exact ⟨q4, q3⟩
        have HT := Aside0.mk (HT2.out.trans ht12 (fun j h => (hS j h).1))
        have HI := Aside0.mk (HI2.out.step ht12 (fun h => (hS g h).2 rfl))
        clear hcall hb12 ht12 HB2 HT2 HI2 hS hrow
        go_wp2_with fail
        go_roundg (l0.length - (i + 1))
        case measure => have := HG.out; omega
        case rel => exact ⟨i + 1, markIK (rd_T49 l0 i).f3.length (wrap64 (wrap64 (wrap64 (k' + 1) + 1) + 1)), by go_num, (by have h1 := HG.out; have h2 := HL.out; show Value.int .i64 _ = .int .i64 _; congr 1; unfold wrap64; omega), by have := HG.out; omega, Nat.le_refl _, ⟨markI_in _ _ (wrap_in _)⟩, ⟨HV.out.trans (by
          rw [List.drop_eq_getElem_cons HG.out.2.2, List.map_cons]
          have e : (rd_T49 l0 i) = l0[i]'HG.out.2.2 := by
            unfold rd_T49
            rw [Int.toNat_natCast, List.getD_eq_getElem?_getD, List.getElem?_eq_getElem HG.out.2.2]
            rfl
          rw [e]
          rfl)⟩, HB, HT, HI⟩
      · obtain rfl : i = l0.length := by omega
        have hlt0 : ((l0.length : Int) < (l0.length : Int)) = False := eq_false (by omega)
        have HV2 := HV.out
        rw [List.drop_length] at HV2
        have HV3 := Aside0.mk HV2
        clear HV2 HV hlt hi hgq
        go_wp2_with fail
        go_ret
        exact ⟨by rw [HV3.out]; rfl, HB.out, HT.out.kept⟩
end Go.Proofs.YtlakdfbfkbndiaaDoor.Q
namespace Go.Proofs.YtlakdfbfkbndiaaDoor.Q
open Go.RowKit Go.Proofs.YtlakdfbfkbndiaaDoorW.PrintWords Go.Proofs.YtlakdfbfkbndiaaDoorW.PrintLast Go.Proofs.YtlakdfbfkbndiaaDoorW.PrintMore
attribute [local go_sem] max2_int min2_int max_two min_two max_three min_three max_four min_four   -- for this text's walks alone
set_option linter.unusedVariables false
set_option linter.unusedSimpArgs false
def laws_toIntS.l0 : Nat → List Int → List Int → Int → Option (List Int)
 | 0,_,_,_=>none
 | k + 1,x0,x3,x4=>if x4 < (x0.length : Int) then (if 0 ≤ x4 then (if x4 < (x3.length : Int) then (laws_toIntS.l0 k x0 (x3.set (x4 : Int).toNat (rd x0 x4)) (wrap64 (x4 + 1))) else (none)) else (none)) else (some x3)
def laws_toIntS.f (k : Nat) (l0 : List Int) : Option (List Int):=if 0 ≤ (l0.length : Int) then (if ((l0.length : Int) : Int).toNat ≤ 35184372088832 then (laws_toIntS.l0 k l0 (List.replicate ((l0.length : Int) : Int).toNat 0) 0) else (none)) else (none)
set_option maxHeartbeats 8000000 in
set_option maxRecDepth 100000 in
theorem laws_toIntS.calls (k : Nat) (A0 : Option Addr) (c0 : Nat) (l0 : List Int) (r : List Int) (w : World) (hr0 : Kd.C (Kd.int .i64) w A0 l0.length l0) (hc0 : l0.length ≤ c0) (h : laws_toIntS.f k l0 = some r) :
  Calls Tryd.prog 59 #[.slice A0 l0.length c0] w fun e w'=>∃ v0_ : Value,e = .returned (v0_) ∧ Kd.R (Kd.int .i64) 3 w' w.heap.size (fun _=>True) v0_ r ∧ Below w.heap.size w w':=by
 have HR0:=Aside0.mk hr0
 have HC0:=Aside0.mk hc0
 clear hr0 hc0
 have HB:=Aside0.mk (Below.refl w.heap.size w)
 have H : (if 0 ≤ (l0.length : Int) then (if ((l0.length : Int) : Int).toNat ≤ 35184372088832 then (laws_toIntS.l0 k l0 (List.replicate ((l0.length : Int) : Int).toNat 0) 0) else (none)) else (none)) = some r:=h
 clear h
 by_cases c2 : 0 ≤ (l0.length : Int)
 ·rw [if_pos c2] at H
  have c2b0:=eq_true c2
  have c2b1 : decide (0 ≤ (l0.length : Int)) = true:=decide_eq_true c2
  clear c2
  by_cases c3 : ((l0.length : Int) : Int).toNat ≤ 35184372088832
  ·rw [if_pos c3] at H
   have c3b0:=eq_true c3
   have c3b1 : decide (((l0.length : Int) : Int).toNat ≤ 35184372088832) = true:=decide_eq_true c3
   clear c3
   obtain ⟨y184,hy184⟩ : ∃ y_ : List Int,y_ = (List.replicate ((l0.length : Int) : Int).toNat 0):=⟨_,rfl⟩
   replace H : (laws_toIntS.l0 k l0 y184 0) = some r:=by first|(rw [hy184];with_reducible exact H)|(have H2_:=(Option.bind_some _ _).symm.trans H;rw [hy184];with_reducible exact H2_)|(have H2_:=(Option.bind_some _ _).symm.trans H;with_reducible exact H2_)|with_reducible exact H|(rw [hy184];exact H)|exact H
   have Ny184:=Aside0.mk hy184
   clear hy184
   have H':=Aside0.mk H
   clear H
   go_enter Tryd.func59,Tryd.ntmps59
   go_wp2_with (first|((with_reducible refine gate_dst (N:=7) rfl ?_);refine Kd.R_make (Kd.int .i64) _ 3 rfl (N:=7) rfl 31 _ _ rfl (l0.length : Int) rfl rfl Tryd.underlying31 (.int .i64 0) 8 info3 rfl (by decide) (by omega) 0 (ok:=fun _=>True) (okp:=fun _=>True) rfl (fun _ hk=>hk) trivial (of_decide_eq_true (by first|(with_reducible assumption)|assumption)) (Nat.le_trans (Nat.mul_le_mul_right _ (of_decide_eq_true (by first|(with_reducible assumption)|assumption) : (l0.length : Int).toNat ≤ 35184372088832)) (by omega)) (Below.refl _ _) (Nat.le_refl _) ?_;intro v185 w4 ho5 hb hg_ hnew_;clear hg_ hnew_;(first|rw [← Ny184.out] at ho5|(simp only [Int.reduceToNat] at ho5;rw [← Ny184.out] at ho5));have n0_:=Aside0.mk (Kd.R_lower ho5 (below_size (by repeat (first|(with_reducible first|exact HB.out|apply below_alloc|apply pw_below_drewN|apply below_drew1)|exact HB.out))));have n1_:=Aside0.mk (below_step (by repeat (first|(with_reducible first|exact HB.out|apply below_alloc|apply pw_below_drewN|apply below_drew1)|exact HB.out)) hb);clear HB;have HO186:=n0_;have HB:=n1_;clear n0_ n1_;clear hb ho5))
   go_loopg [4] k (fun kq v4 w'=>∃ (x3_1 : List Int) (x4_1 : Int),v4 = .int .i64 x4_1 ∧ Aside0 (laws_toIntS.l0 kq l0 x3_1 x4_1 = some r) ∧ Aside0 (kq ≤ k) ∧ Aside0 (Kd.R (Kd.int .i64) 3 w' w.heap.size (fun _=>True) v185 x3_1) ∧ Aside0 (Below w.heap.size w w'))
   case atStart=>exact ⟨(y184),(0),(by first|rfl|(simp;done)|(simp [*];done)),H',⟨Nat.le_refl _⟩,⟨by (with_reducible repeat (first|apply Kd.R_alloc|apply Kd.R_drewN|apply Kd.R_drew));exact HO186.out⟩,⟨by repeat (first|(with_reducible first|exact HB.out|apply below_alloc|apply pw_below_drewN|apply below_drew1)|exact HB.out)⟩⟩
   case round =>
    clear H'
    try clear c2
    try clear c2b0
    try clear c2b1
    try clear p2
    try clear c3
    try clear c3b0
    try clear c3b1
    try clear c5
    obtain ⟨x3_1,x4_1,rfl,HA,HK1,HO_3,HB⟩:=hrel
    cases gk with
    | zero=>exact absurd HA.out (by simp [laws_toIntS.l0])
    | succ k1 =>
     have H:=HA.out
     clear HA
     simp only [laws_toIntS.l0] at H
     by_cases c6 : x4_1 < (l0.length : Int)
     ·rw [if_pos c6] at H
      have c6b0 : decide (x4_1 < (l0.length : Int)) = true:=decide_eq_true c6
      clear c6
      by_cases c7 : 0 ≤ x4_1
      ·rw [if_pos c7] at H
       have c7b0 : decide (0 ≤ x4_1) = true:=decide_eq_true c7
       clear c7
       by_cases c8 : x4_1 < (x3_1.length : Int)
       ·rw [if_pos c8] at H
        have c8b0 : decide (x4_1 < (x3_1.length : Int)) = true:=decide_eq_true c8
        clear c8
        obtain ⟨y188,hy188⟩ : ∃ y_ : List Int,y_ = (x3_1.set (x4_1 : Int).toNat (rd l0 x4_1)):=⟨_,rfl⟩
        replace H : (laws_toIntS.l0 k1 l0 y188 (wrap64 (x4_1 + 1))) = some r:=by first|(rw [hy188];with_reducible exact H)|(have H2_:=(Option.bind_some _ _).symm.trans H;rw [hy188];with_reducible exact H2_)|(have H2_:=(Option.bind_some _ _).symm.trans H;with_reducible exact H2_)|with_reducible exact H|(rw [hy188];exact H)|exact H
        have Ny188:=Aside0.mk hy188
        clear hy188
        have H':=Aside0.mk H
        clear H
        have p187 : 0 ≤ (x4_1 : Int):=of_decide_eq_true (by first|(with_reducible assumption)|assumption)
        have q187 : x4_1 < (l0.length : Int):=of_decide_eq_true (by first|(with_reducible assumption)|assumption)
        obtain ⟨ad187,e187,hx187_0⟩:=Kd.at_int HR0.out x4_1 p187 q187
        cases e187
        replace hx187_0:=(HB.out.cell (World.block_lt_of_cell? w _ hx187_0)).trans hx187_0
        replace p187:=eq_true p187
        replace q187:=eq_true q187
        have p9 : 0 ≤ (x4_1 : Int):=of_decide_eq_true (by first|(with_reducible assumption)|assumption)
        have q9 : (x4_1 : Int) < ((x3_1.length : Int) : Int):=of_decide_eq_true (by first|(with_reducible assumption)|assumption)
        obtain ⟨go9,co9,eo9,gb9,gl9,cl9,HG9⟩:=Kd.R_form HO_3.out (by omega)
        (first|cases eo9|(injection eo9 with ea_ en_ ec_;(first|subst ea_|(injection ea_ with ea_;subst ea_));subst ec_;clear en_))
        have GB9:=Aside0.mk gb9
        have GG9:=Aside0.mk HG9
        clear gb9 gl9 HG9
        obtain ⟨hx9_0,hf9_0⟩:=Kd.R_celln 0 HO_3.out (x4_1 : Int) p9 q9
        replace p9:=eq_true p9
        replace q9:=eq_true q9
        have HP10:=Kd.R_putg HO_3.out (x4_1 : Int) (rd l0 x4_1)
        go_wp2_with (first|((with_reducible refine gate_store (t:=3) (p:=20) rfl ?_);refine store_event (t:=3) (p:=20) (v:=?vo_w11) (w1:=(wr.setCell ⟨go9,(x4_1 : Int).toNat,none⟩ (.int .i64 (rd l0 x4_1)))) ?hg ?ho ?hn ?hr ?_;(case ho=>rfl);(case hg=>rfl);(case hn=>rfl);(case hr=>first|(go_simp;done)|(go_simp;rfl));intro w11 hw;have hg : wr.grownBy w11 (some go9):=(by rw [hw];exact HP10.2);have hp_ : Kd.R (Kd.int .i64) 3 w11 w.heap.size (fun _=>True) (.slice (some ⟨go9,0,none⟩) x3_1.length co9) y188:=(by rw [hw,Ny188.out];exact HP10.1);clear HP10;have n0_:=Aside0.mk (hp_);have n1_:=Aside0.mk ((by rw [hw];exact below_set (HB.out) GB9.out : Below w.heap.size w w11));clear HO_3;clear HB;have HO_3:=n0_;have HB:=n1_;clear n0_ n1_;clear hg hw hp_))
        go_roundg k1
        case measure=>have:=HK1.out;omega
        case rel=>exact ⟨(y188),(wrap64 (x4_1 + 1)),(by first|rfl|(simp;done)|(simp [*];done)),H',⟨by have:=HK1.out;omega⟩,⟨by (with_reducible repeat (first|apply Kd.R_alloc|apply Kd.R_drewN|apply Kd.R_drew));exact HO_3.out⟩,⟨by repeat (first|(with_reducible first|exact HB.out|apply below_alloc|apply pw_below_drewN|apply below_drew1)|exact HB.out)⟩⟩
       ·rw [if_neg c8] at H
        exact absurd H (by simp)
      ·rw [if_neg c7] at H
       exact absurd H (by simp)
     ·rw [if_neg c6] at H
      have c6b0 : decide (x4_1 < (l0.length : Int)) = false:=decide_eq_false c6
      clear c6
      obtain rfl:=Option.some.inj H
      go_wp2
      go_ret
      exact ⟨_,by first|rfl|(simp [errW_none,errW_some] <;> rfl)|(simp [*,errW_none,errW_some] <;> rfl),by (with_reducible repeat (first|apply Kd.R_alloc|apply Kd.R_drewN|apply Kd.R_drew));exact HO_3.out,by repeat (first|(with_reducible first|exact HB.out|apply below_alloc|apply pw_below_drewN|apply below_drew1)|exact HB.out)⟩
  ·rw [if_neg c3] at H
   exact absurd H (by simp)
 ·rw [if_neg c2] at H
  exact absurd H (by simp)
def laws_toReNode.f (k : Nat) (a0_0 : Int) (a0_1 : Bool) (a0_2 : ByteArray) (l0_3 : List Int) : Option (Int × Bool × ByteArray × List Int):=(laws_toIntS.f k l0_3).bind fun t192=>(some (a0_0,a0_1,a0_2,t192))
set_option maxHeartbeats 8000000 in
set_option maxRecDepth 100000 in
theorem laws_toReNode.calls (k : Nat) (a0_0 : Int) (a0_1 : Bool) (a0_2 : ByteArray) (A0_3 : Option Addr) (c0_3 : Nat) (l0_3 : List Int) (r1 : Int) (r2 : Bool) (r3 : ByteArray) (r4 : List Int) (w : World) (hr0_3 : Kd.C (Kd.int .i64) w A0_3 l0_3.length l0_3) (hc0_3 : l0_3.length ≤ c0_3) (h : laws_toReNode.f k a0_0 a0_1 a0_2 l0_3 = some (r1,r2,r3,r4)) :
  Calls Tryd.prog 40 #[.agg #[.int .i64 a0_0,.bool a0_1,.string a0_2,.slice A0_3 l0_3.length c0_3]] w fun e w'=>∃ v3_ : Value,e = .returned (.agg #[.int .i64 r1,.bool r2,.string r3,v3_]) ∧ Kd.R (Kd.int .i64) 3 w' w.heap.size (fun _=>True) v3_ r4 ∧ Below w.heap.size w w':=by
 have hu56:=Tryd.underlying56
 have hu49:=Tryd.underlying49
 have HR0_3:=Aside0.mk hr0_3
 have HC0_3:=Aside0.mk hc0_3
 clear hr0_3 hc0_3
 have HB:=Aside0.mk (Below.refl w.heap.size w)
 have H : ((laws_toIntS.f k l0_3).bind fun t192=>(some (a0_0,a0_1,a0_2,t192))) = some (r1,r2,r3,r4):=h
 clear h
 replace H:=Option.bind_eq_some_iff.mp H
 obtain ⟨t192,A20,H⟩:=H
 replace H : (some (a0_0,a0_1,a0_2,t192)) = some (r1,r2,r3,r4):=H
 have A2:=Aside0.mk A20
 clear A20
 simp only [Option.some.injEq,Prod.mk.injEq] at H
 obtain ⟨rfl,rfl,rfl,rfl⟩:=H
 go_enter Tryd.func40,Tryd.ntmps40
 go_wp2_with (first|((with_reducible refine gate_dst (N:=1) rfl ?_);refine box_event ?hg (N:=1) ?hd (cs:=#[.int .i64 a0_0,.bool a0_1,.string a0_2,.slice A0_3 l0_3.length c0_3]) (t:=56) ?hr ?_;(case hd=>rfl);(case hg=>rfl);(case hr=>first|(go_simp;done)|(go_simp;rfl));intro gb189 hg w3 hbox hb;have n0_:=Aside0.mk (below_step (by repeat (first|(with_reducible first|exact HB.out|apply below_alloc|apply pw_below_drewN|apply below_drew1)|exact HB.out)) hb);have n1_:=Aside0.mk (hbox);have n2_:=Aside0.mk ((by rw [hg];exact (below_size (by repeat (first|(with_reducible first|exact HB.out|apply below_alloc|apply pw_below_drewN|apply below_drew1)|exact HB.out))) : w.heap.size ≤ gb189));have n3_:=Aside0.mk ((by rw [hg];exact (below_size (by repeat (first|(with_reducible first|exact HB.out|apply below_alloc|apply pw_below_drewN|apply below_drew1)|exact HB.out))) : w.heap.size ≤ gb189));clear HB;have HB:=n0_;have BK189:=n1_;have GW189:=n2_;have GE189:=n3_;clear n0_ n1_ n2_ n3_;clear hb hbox hg)|((with_reducible refine gate_dst (N:=2) rfl ?_);refine box_event ?hg (N:=2) ?hd (cs:=#[.int .i64 0,.bool false,.string (⟨#[]⟩ : ByteArray),.slice none 0 0]) (t:=49) ?hr ?_;(case hd=>rfl);(case hg=>rfl);(case hr=>first|(go_simp;done)|(go_simp;rfl));intro gb190 hg w4 hbox hb;have n0_:=Aside0.mk (blk_below (g:=gb189) (o:=.cells #[.int .i64 a0_0,.bool a0_1,.string a0_2,.slice A0_3 l0_3.length c0_3] 56 (0,0)) (by (with_reducible repeat (first|refine blk_drewN ?_ _|refine blk_drew ?_|refine blk_alloc ?_ _));exact BK189.out) hb);have n1_:=Aside0.mk (below_step (by repeat (first|(with_reducible first|exact HB.out|apply below_alloc|apply pw_below_drewN|apply below_drew1|refine below_set ?_ GE189.out)|exact HB.out)) hb);have n2_:=Aside0.mk (hbox);have n3_:=Aside0.mk ((by rw [hg];exact (below_size (by repeat (first|(with_reducible first|exact HB.out|apply below_alloc|apply pw_below_drewN|apply below_drew1|refine below_set ?_ GE189.out)|exact HB.out))) : w.heap.size ≤ gb190));have n4_:=Aside0.mk ((by rw [hg];exact (below_size (by repeat (first|(with_reducible first|exact HB.out|apply below_alloc|apply pw_below_drewN|apply below_drew1|refine below_set ?_ GE189.out)|exact HB.out))) : w.heap.size ≤ gb190));have n5_:=Aside0.mk ((by rw [hg];exact Nat.ne_of_lt (blk_lt (g:=gb189) (o:=.cells #[.int .i64 a0_0,.bool a0_1,.string a0_2,.slice A0_3 l0_3.length c0_3] 56 (0,0)) (by (with_reducible repeat (first|refine blk_drewN ?_ _|refine blk_drew ?_|refine blk_alloc ?_ _));exact BK189.out)) : gb189 ≠ gb190));have n6_:=Aside0.mk ((by rw [hg];exact Nat.ne_of_gt (blk_lt (g:=gb189) (o:=.cells #[.int .i64 a0_0,.bool a0_1,.string a0_2,.slice A0_3 l0_3.length c0_3] 56 (0,0)) (by (with_reducible repeat (first|refine blk_drewN ?_ _|refine blk_drew ?_|refine blk_alloc ?_ _));exact BK189.out)) : gb190 ≠ gb189));clear BK189;clear HB;have BK189:=n0_;have HB:=n1_;have BK190:=n2_;have GW190:=n3_;have GE190:=n4_;have NB189_190:=n5_;have NB190_189:=n6_;clear n0_ n1_ n2_ n3_ n4_ n5_ n6_;clear hb hbox hg)|((with_reducible refine gate_dst (N:=3) rfl ?_);refine box_event ?hg (N:=3) ?hd (cs:=#[.int .i64 0,.bool false,.string (⟨#[]⟩ : ByteArray),.slice none 0 0]) (t:=49) ?hr ?_;(case hd=>rfl);(case hg=>rfl);(case hr=>first|(go_simp;done)|(go_simp;rfl));intro gb191 hg w5 hbox hb;have n0_:=Aside0.mk (blk_below (g:=gb189) (o:=.cells #[.int .i64 a0_0,.bool a0_1,.string a0_2,.slice A0_3 l0_3.length c0_3] 56 (0,0)) (by (with_reducible repeat (first|refine blk_drewN ?_ _|refine blk_drew ?_|refine blk_alloc ?_ _));exact BK189.out) hb);have n1_:=Aside0.mk (blk_below (g:=gb190) (o:=.cells #[.int .i64 0,.bool false,.string (⟨#[]⟩ : ByteArray),.slice none 0 0] 49 (0,0)) (by (with_reducible repeat (first|refine blk_drewN ?_ _|refine blk_drew ?_|refine blk_alloc ?_ _));exact BK190.out) hb);have n2_:=Aside0.mk (below_step (by repeat (first|(with_reducible first|exact HB.out|apply below_alloc|apply pw_below_drewN|apply below_drew1|refine below_set ?_ GE189.out|refine below_set ?_ GE190.out)|exact HB.out)) hb);have n3_:=Aside0.mk (hbox);have n4_:=Aside0.mk ((by rw [hg];exact (below_size (by repeat (first|(with_reducible first|exact HB.out|apply below_alloc|apply pw_below_drewN|apply below_drew1|refine below_set ?_ GE189.out|refine below_set ?_ GE190.out)|exact HB.out))) : w.heap.size ≤ gb191));have n5_:=Aside0.mk ((by rw [hg];exact (below_size (by repeat (first|(with_reducible first|exact HB.out|apply below_alloc|apply pw_below_drewN|apply below_drew1|refine below_set ?_ GE189.out|refine below_set ?_ GE190.out)|exact HB.out))) : w.heap.size ≤ gb191));have n6_:=Aside0.mk ((by rw [hg];exact Nat.ne_of_lt (blk_lt (g:=gb189) (o:=.cells #[.int .i64 a0_0,.bool a0_1,.string a0_2,.slice A0_3 l0_3.length c0_3] 56 (0,0)) (by (with_reducible repeat (first|refine blk_drewN ?_ _|refine blk_drew ?_|refine blk_alloc ?_ _));exact BK189.out)) : gb189 ≠ gb191));have n7_:=Aside0.mk ((by rw [hg];exact Nat.ne_of_gt (blk_lt (g:=gb189) (o:=.cells #[.int .i64 a0_0,.bool a0_1,.string a0_2,.slice A0_3 l0_3.length c0_3] 56 (0,0)) (by (with_reducible repeat (first|refine blk_drewN ?_ _|refine blk_drew ?_|refine blk_alloc ?_ _));exact BK189.out)) : gb191 ≠ gb189));have n8_:=Aside0.mk ((by rw [hg];exact Nat.ne_of_lt (blk_lt (g:=gb190) (o:=.cells #[.int .i64 0,.bool false,.string (⟨#[]⟩ : ByteArray),.slice none 0 0] 49 (0,0)) (by (with_reducible repeat (first|refine blk_drewN ?_ _|refine blk_drew ?_|refine blk_alloc ?_ _));exact BK190.out)) : gb190 ≠ gb191));have n9_:=Aside0.mk ((by rw [hg];exact Nat.ne_of_gt (blk_lt (g:=gb190) (o:=.cells #[.int .i64 0,.bool false,.string (⟨#[]⟩ : ByteArray),.slice none 0 0] 49 (0,0)) (by (with_reducible repeat (first|refine blk_drewN ?_ _|refine blk_drew ?_|refine blk_alloc ?_ _));exact BK190.out)) : gb191 ≠ gb190));clear BK189;clear BK190;clear HB;have BK189:=n0_;have BK190:=n1_;have HB:=n2_;have BK191:=n3_;have GW191:=n4_;have GE191:=n5_;have NB189_191:=n6_;have NB191_189:=n7_;have NB190_191:=n8_;have NB191_190:=n9_;clear n0_ n1_ n2_ n3_ n4_ n5_ n6_ n7_ n8_ n9_;clear hb hbox hg;have hnb6:=NB189_190.out;have hnc6:=NB190_189.out;have hnb7:=NB189_191.out;have hnc7:=NB191_189.out;have hcz8_0 : w5.cell? ⟨gb189,0,none⟩ = some (.int .i64 a0_0):=(blk_cell BK189.out 0).trans rfl;have hcz8_1 : w5.cell? ⟨gb189,1,none⟩ = some (.bool a0_1):=(blk_cell BK189.out 1).trans rfl;have hcz8_2 : w5.cell? ⟨gb189,2,none⟩ = some (.string a0_2):=(blk_cell BK189.out 2).trans rfl;have hcz8_3 : w5.cell? ⟨gb189,3,none⟩ = some (.slice A0_3 l0_3.length c0_3):=(blk_cell BK189.out 3).trans rfl;have hfz8_0:=blk_frozen BK189.out 0;have hfz8_1:=blk_frozen BK189.out 1;have hfz8_2:=blk_frozen BK189.out 2;have hfz8_3:=blk_frozen BK189.out 3;have hnb9:=NB191_190.out;have hnc9:=NB190_191.out;have hcz10_0 : w5.cell? ⟨gb191,0,none⟩ = some (.int .i64 0):=(blk_cell BK191.out 0).trans rfl;have hcz10_1 : w5.cell? ⟨gb191,1,none⟩ = some (.bool false):=(blk_cell BK191.out 1).trans rfl;have hcz10_2 : w5.cell? ⟨gb191,2,none⟩ = some (.string (⟨#[]⟩ : ByteArray)):=(blk_cell BK191.out 2).trans rfl;have hcz10_3 : w5.cell? ⟨gb191,3,none⟩ = some (.slice none 0 0):=(blk_cell BK191.out 3).trans rfl;have hfz10_0:=blk_frozen BK191.out 0;have hfz10_1:=blk_frozen BK191.out 1;have hfz10_2:=blk_frozen BK191.out 2;have hfz10_3:=blk_frozen BK191.out 3)|((with_reducible refine gate_callee (f:=59) rfl ?_);refine goesL_ (some 15) rfl rfl Tryd.func59 (by kernel_rfl) rfl #[.slice A0_3 l0_3.length c0_3] rfl (by (try simp only [List.map_toArray,List.map_cons,List.map_nil]);first|done|rfl|(simp only [List.length_drop,List.length_take];rfl)) ?_;(with_reducible refine (laws_toIntS.calls k _ _ l0_3 t192 _ ?side1 ?side2 A2.out).mono ?_);(case side1=>exact Kd.C_below HR0_3.out (by repeat (first|(with_reducible first|exact HB.out|apply below_alloc|apply pw_below_drewN|apply below_drew1|refine below_set ?_ GE189.out|refine below_set ?_ GE190.out|refine below_set ?_ GE191.out)|exact HB.out)));(case side2=>exact HC0_3.out);rintro e w11 ⟨v193,rfl,ho0,hb⟩;refine ⟨_,rfl,?_⟩;have n0_:=Aside0.mk (Kd.R_lower ho0 (below_size (by repeat (first|(with_reducible first|exact HB.out|apply below_alloc|apply pw_below_drewN|apply below_drew1|refine below_set ?_ GE189.out|refine below_set ?_ GE190.out|refine below_set ?_ GE191.out)|exact HB.out))));have n1_:=Aside0.mk (blk_below (g:=gb189) (o:=.cells #[.int .i64 a0_0,.bool a0_1,.string a0_2,.slice A0_3 l0_3.length c0_3] 56 (0,0)) (by (with_reducible repeat (first|refine blk_drewN ?_ _|refine blk_drew ?_|refine blk_alloc ?_ _));refine blk_far ?_ NB189_191.out _;(with_reducible repeat (first|refine blk_drewN ?_ _|refine blk_drew ?_|refine blk_alloc ?_ _));refine blk_far ?_ NB189_191.out _;(with_reducible repeat (first|refine blk_drewN ?_ _|refine blk_drew ?_|refine blk_alloc ?_ _));refine blk_far ?_ NB189_191.out _;(with_reducible repeat (first|refine blk_drewN ?_ _|refine blk_drew ?_|refine blk_alloc ?_ _));exact BK189.out) hb);have n2_:=Aside0.mk (blk_below (g:=gb190) (o:=.cells #[.int .i64 0,.bool false,.string (⟨#[]⟩ : ByteArray),.slice none 0 0] 49 (0,0)) (by (with_reducible repeat (first|refine blk_drewN ?_ _|refine blk_drew ?_|refine blk_alloc ?_ _));refine blk_far ?_ NB190_191.out _;(with_reducible repeat (first|refine blk_drewN ?_ _|refine blk_drew ?_|refine blk_alloc ?_ _));refine blk_far ?_ NB190_191.out _;(with_reducible repeat (first|refine blk_drewN ?_ _|refine blk_drew ?_|refine blk_alloc ?_ _));refine blk_far ?_ NB190_191.out _;(with_reducible repeat (first|refine blk_drewN ?_ _|refine blk_drew ?_|refine blk_alloc ?_ _));exact BK190.out) hb);have n3_:=Aside0.mk (blk_below (g:=gb191) (o:=.cells #[.int .i64 a0_0,.bool a0_1,.string a0_2,.slice none 0 0] 49 (0,0)) (by (with_reducible repeat (first|refine blk_drewN ?_ _|refine blk_drew ?_|refine blk_alloc ?_ _));refine blk_put (cs:=#[.int .i64 a0_0,.bool a0_1,.string (⟨#[]⟩ : ByteArray),.slice none 0 0]) ?_ 2 _ rfl;(with_reducible repeat (first|refine blk_drewN ?_ _|refine blk_drew ?_|refine blk_alloc ?_ _));refine blk_put (cs:=#[.int .i64 a0_0,.bool false,.string (⟨#[]⟩ : ByteArray),.slice none 0 0]) ?_ 1 _ rfl;(with_reducible repeat (first|refine blk_drewN ?_ _|refine blk_drew ?_|refine blk_alloc ?_ _));refine blk_put (cs:=#[.int .i64 0,.bool false,.string (⟨#[]⟩ : ByteArray),.slice none 0 0]) ?_ 0 _ rfl;(with_reducible repeat (first|refine blk_drewN ?_ _|refine blk_drew ?_|refine blk_alloc ?_ _));exact BK191.out) hb);have n4_:=Aside0.mk (below_step (by repeat (first|(with_reducible first|exact HB.out|apply below_alloc|apply pw_below_drewN|apply below_drew1|refine below_set ?_ GE189.out|refine below_set ?_ GE190.out|refine below_set ?_ GE191.out)|exact HB.out)) hb);clear BK189;clear BK190;clear BK191;clear HB;have HO194:=n0_;have BK189:=n1_;have BK190:=n2_;have BK191:=n3_;have HB:=n4_;clear n0_ n1_ n2_ n3_ n4_;(try clear hb);(try clear hb2);(try clear hk);(try clear hi);(try clear ho0);obtain ⟨Ao12,co12,eo12⟩:=Kd.R_slice HO194.out;subst eo12;have hcz13_0 : w11.cell? ⟨gb191,0,none⟩ = some (.int .i64 a0_0):=(blk_cell BK191.out 0).trans rfl;have hcz13_1 : w11.cell? ⟨gb191,1,none⟩ = some (.bool a0_1):=(blk_cell BK191.out 1).trans rfl;have hcz13_2 : w11.cell? ⟨gb191,2,none⟩ = some (.string a0_2):=(blk_cell BK191.out 2).trans rfl;have hcz13_3 : w11.cell? ⟨gb191,3,none⟩ = some (.slice none 0 0):=(blk_cell BK191.out 3).trans rfl;have hfz13_0:=blk_frozen BK191.out 0;have hfz13_1:=blk_frozen BK191.out 1;have hfz13_2:=blk_frozen BK191.out 2;have hfz13_3:=blk_frozen BK191.out 3;have hcz14_0 : w11.cell? ⟨gb190,0,none⟩ = some (.int .i64 0):=(blk_cell BK190.out 0).trans rfl;have hcz14_1 : w11.cell? ⟨gb190,1,none⟩ = some (.bool false):=(blk_cell BK190.out 1).trans rfl;have hcz14_2 : w11.cell? ⟨gb190,2,none⟩ = some (.string (⟨#[]⟩ : ByteArray)):=(blk_cell BK190.out 2).trans rfl;have hcz14_3 : w11.cell? ⟨gb190,3,none⟩ = some (.slice none 0 0):=(blk_cell BK190.out 3).trans rfl;have hfz14_0:=blk_frozen BK190.out 0;have hfz14_1:=blk_frozen BK190.out 1;have hfz14_2:=blk_frozen BK190.out 2;have hfz14_3:=blk_frozen BK190.out 3))
 refine bodyPost_ret (results_cell_row rfl _ _ gb190 49 #[.int .i64 a0_0,.bool a0_1,.string a0_2,.slice Ao12 t192.length co12] (0,0) _ rfl (by (with_reducible repeat (first|refine blk_drewN ?_ _|refine blk_drew ?_|refine blk_alloc ?_ _));refine blk_put (cs:=#[.int .i64 a0_0,.bool a0_1,.string a0_2,.slice none 0 0]) ?_ 3 _ rfl;(with_reducible repeat (first|refine blk_drewN ?_ _|refine blk_drew ?_|refine blk_alloc ?_ _));refine blk_put (cs:=#[.int .i64 a0_0,.bool a0_1,.string (⟨#[]⟩ : ByteArray),.slice none 0 0]) ?_ 2 _ rfl;(with_reducible repeat (first|refine blk_drewN ?_ _|refine blk_drew ?_|refine blk_alloc ?_ _));refine blk_put (cs:=#[.int .i64 a0_0,.bool false,.string (⟨#[]⟩ : ByteArray),.slice none 0 0]) ?_ 1 _ rfl;(with_reducible repeat (first|refine blk_drewN ?_ _|refine blk_drew ?_|refine blk_alloc ?_ _));refine blk_put (cs:=#[.int .i64 0,.bool false,.string (⟨#[]⟩ : ByteArray),.slice none 0 0]) ?_ 0 _ rfl;(with_reducible repeat (first|refine blk_drewN ?_ _|refine blk_drew ?_|refine blk_alloc ?_ _));refine blk_far ?_ NB190_191.out _;(with_reducible repeat (first|refine blk_drewN ?_ _|refine blk_drew ?_|refine blk_alloc ?_ _));exact BK190.out) Tryd.underlying49 rfl (by kernel_rfl)) rfl ?_
 exact ⟨_,by first|rfl|(simp [errW_none,errW_some] <;> rfl)|(simp [*,errW_none,errW_some] <;> rfl),by (with_reducible repeat (first|apply Kd.R_alloc|apply Kd.R_drewN|apply Kd.R_drew));exact Kd.R_mono (Kd.R_far (p:=⟨gb190,3,none⟩) (Kd.R_far (p:=⟨gb190,2,none⟩) (Kd.R_far (p:=⟨gb190,1,none⟩) (Kd.R_far (p:=⟨gb190,0,none⟩) (Kd.R_far (p:=⟨gb191,3,none⟩) (Kd.R_types (Kd.R_types HO194.out BK191.out (by decide)) BK190.out (by decide)) (fun _ hk=>by first|exact hk.1.2|exact hk.2) (.slice Ao12 t192.length co12)) (fun _ hk=>hk.2) (.int .i64 a0_0)) (fun _ hk=>hk.2) (.bool a0_1)) (fun _ hk=>hk.2) (.string a0_2)) (fun _ hk=>hk.2) (.slice Ao12 t192.length co12)) (fun _ hk=>trivial),by repeat (first|(with_reducible first|exact HB.out|apply below_alloc|apply pw_below_drewN|apply below_drew1|refine below_set ?_ GE189.out|refine below_set ?_ GE190.out|refine below_set ?_ GE191.out)|exact HB.out)⟩
def laws_toReNodeS.l0 : Nat → List (S56) → List (S49) → Int → Option ((List (S49)))
 | 0,_,_,_=>none
 | k + 1,x0,x3,x4=>if x4 < (x0.length : Int) then (if 0 ≤ x4 then ((laws_toReNode.f k ((rd_T56 x0 x4).f0) ((rd_T56 x0 x4).f1) ((rd_T56 x0 x4).f2) ((rd_T56 x0 x4).f3)).bind fun bt199=>(if x4 < (x3.length : Int) then (laws_toReNodeS.l0 k x0 (x3.set (x4 : Int).toNat (⟨bt199.1,bt199.2.1,bt199.2.2.1,bt199.2.2.2⟩ : S49)) (wrap64 (x4 + 1))) else (none))) else (none)) else (some x3)
def laws_toReNodeS.f (k : Nat) (l0 : List (S56)) : Option ((List (S49))):=if 0 ≤ (l0.length : Int) then (if ((l0.length : Int) : Int).toNat ≤ 5026338869833 then (laws_toReNodeS.l0 k l0 (List.replicate ((l0.length : Int) : Int).toNat z49) 0) else (none)) else (none)
set_option maxHeartbeats 8000000 in
set_option maxRecDepth 100000 in
theorem laws_toReNodeS.calls (k : Nat) (A0 : Option Addr) (c0 : Nat) (l0 : List (S56)) (r : List (S49)) (w : World) (hr0 : Kd.C k56 w A0 l0.length l0) (hc0 : l0.length ≤ c0) (h : laws_toReNodeS.f k l0 = some r) :
  Calls Tryd.prog 13 #[.slice A0 l0.length c0] w fun e w'=>∃ v0_ : Value,e = .returned (v0_) ∧ Kd.S k49 49 w' w.heap.size (fun _=>True) v0_ r ∧ Below w.heap.size w w':=by
 have hu56:=Tryd.underlying56
 have hu49:=Tryd.underlying49
 have HR0:=Aside0.mk hr0
 have HC0:=Aside0.mk hc0
 clear hr0 hc0
 have HB:=Aside0.mk (Below.refl w.heap.size w)
 have H : (if 0 ≤ (l0.length : Int) then (if ((l0.length : Int) : Int).toNat ≤ 5026338869833 then (laws_toReNodeS.l0 k l0 (List.replicate ((l0.length : Int) : Int).toNat z49) 0) else (none)) else (none)) = some r:=h
 clear h
 by_cases c2 : 0 ≤ (l0.length : Int)
 ·rw [if_pos c2] at H
  have c2b0:=eq_true c2
  have c2b1 : decide (0 ≤ (l0.length : Int)) = true:=decide_eq_true c2
  clear c2
  by_cases c3 : ((l0.length : Int) : Int).toNat ≤ 5026338869833
  ·rw [if_pos c3] at H
   have c3b0:=eq_true c3
   have c3b1 : decide (((l0.length : Int) : Int).toNat ≤ 5026338869833) = true:=decide_eq_true c3
   clear c3
   obtain ⟨y195,hy195⟩ : ∃ y_ : List (S49),y_ = (List.replicate ((l0.length : Int) : Int).toNat z49):=⟨_,rfl⟩
   replace H : (laws_toReNodeS.l0 k l0 y195 0) = some r:=by first|(rw [hy195];with_reducible exact H)|(have H2_:=(Option.bind_some _ _).symm.trans H;rw [hy195];with_reducible exact H2_)|(have H2_:=(Option.bind_some _ _).symm.trans H;with_reducible exact H2_)|with_reducible exact H|(rw [hy195];exact H)|exact H
   have Ny195:=Aside0.mk hy195
   clear hy195
   have H':=Aside0.mk H
   clear H
   go_enter Tryd.func13,Tryd.ntmps13
   go_wp2_with (first|((with_reducible refine gate_dst (N:=7) rfl ?_);refine Kd.S_make k49 _ 49 rfl (N:=7) rfl 26 _ _ rfl (l0.length : Int) rfl rfl Tryd.underlying26 (.agg #[(.int .i64 0),(.bool false),(.string ⟨#[]⟩),(.slice none 0 0)]) 56 info49 rfl (by decide) (by omega) z49 (ok:=fun _=>True) (okp:=fun _=>True) (k49_mkM _ _ _ z49 (Kd.R_nil _ _ _ _ _)) (fun _ hk=>hk) trivial (of_decide_eq_true (by first|(with_reducible assumption)|assumption)) (Nat.le_trans (Nat.mul_le_mul_right _ (of_decide_eq_true (by first|(with_reducible assumption)|assumption) : (l0.length : Int).toNat ≤ 5026338869833)) (by omega)) (Below.refl _ _) (Nat.le_refl _) ?_;intro v196 w4 ho5 hb hg_ hnew_;clear hg_ hnew_;(first|rw [← Ny195.out] at ho5|(simp only [Int.reduceToNat] at ho5;rw [← Ny195.out] at ho5));have n0_:=Aside0.mk (Kd.S_lower ho5 (below_size (by repeat (first|(with_reducible first|exact HB.out|apply below_alloc|apply pw_below_drewN|apply below_drew1)|exact HB.out))));have n1_:=Aside0.mk (below_step (by repeat (first|(with_reducible first|exact HB.out|apply below_alloc|apply pw_below_drewN|apply below_drew1)|exact HB.out)) hb);clear HB;have HO197:=n0_;have HB:=n1_;clear n0_ n1_;clear hb ho5))
   go_loopg [4] k (fun kq v4 w'=>∃ (x3_1 : List (S49)) (x4_1 : Int),v4 = .int .i64 x4_1 ∧ Aside0 (laws_toReNodeS.l0 kq l0 x3_1 x4_1 = some r) ∧ Aside0 (kq ≤ k) ∧ Aside0 (Kd.S k49 49 w' w.heap.size (fun _=>True) v196 x3_1) ∧ Aside0 (Below w.heap.size w w'))
   case atStart=>exact ⟨(y195),(0),(by first|rfl|(simp;done)|(simp [*];done)),H',⟨Nat.le_refl _⟩,⟨by (with_reducible repeat (first|apply Kd.S_alloc|apply Kd.S_drewN|apply Kd.S_drew));exact HO197.out⟩,⟨by repeat (first|(with_reducible first|exact HB.out|apply below_alloc|apply pw_below_drewN|apply below_drew1)|exact HB.out)⟩⟩
   case round =>
    clear H'
    try clear c1
    try clear c2
    try clear c2b0
    try clear c2b1
    try clear p2
    try clear c3
    try clear c3b0
    try clear c3b1
    obtain ⟨x3_1,x4_1,rfl,HA,HK1,HO_3,HB⟩:=hrel
    cases gk with
    | zero=>exact absurd HA.out (by simp [laws_toReNodeS.l0])
    | succ k1 =>
     have H:=HA.out
     clear HA
     simp only [laws_toReNodeS.l0] at H
     by_cases c6 : x4_1 < (l0.length : Int)
     ·rw [if_pos c6] at H
      have c6b0 : decide (x4_1 < (l0.length : Int)) = true:=decide_eq_true c6
      clear c6
      by_cases c7 : 0 ≤ x4_1
      ·rw [if_pos c7] at H
       have c7b0 : decide (0 ≤ x4_1) = true:=decide_eq_true c7
       clear c7
       replace H:=Option.bind_eq_some_iff.mp H
       obtain ⟨⟨t199,t200,t201,t202⟩,A80,H⟩:=H
       replace H : (if x4_1 < (x3_1.length : Int) then (laws_toReNodeS.l0 k1 l0 (x3_1.set (x4_1 : Int).toNat (⟨t199,t200,t201,t202⟩ : S49)) (wrap64 (x4_1 + 1))) else (none)) = some r:=H
       have A8:=Aside0.mk A80
       clear A80
       by_cases c9 : x4_1 < (x3_1.length : Int)
       ·rw [if_pos c9] at H
        have c9b0 : decide (x4_1 < (x3_1.length : Int)) = true:=decide_eq_true c9
        clear c9
        obtain ⟨y205,hy205⟩ : ∃ y_ : List (S49),y_ = (x3_1.set (x4_1 : Int).toNat (⟨t199,t200,t201,t202⟩ : S49)):=⟨_,rfl⟩
        replace H : (laws_toReNodeS.l0 k1 l0 y205 (wrap64 (x4_1 + 1))) = some r:=by first|(rw [hy205];with_reducible exact H)|(have H2_:=(Option.bind_some _ _).symm.trans H;rw [hy205];with_reducible exact H2_)|(have H2_:=(Option.bind_some _ _).symm.trans H;with_reducible exact H2_)|with_reducible exact H|(rw [hy205];exact H)|exact H
        have Ny205:=Aside0.mk hy205
        clear hy205
        have H':=Aside0.mk H
        clear H
        have p198 : 0 ≤ (x4_1 : Int):=of_decide_eq_true (by first|(with_reducible assumption)|assumption)
        have q198 : x4_1 < (l0.length : Int):=of_decide_eq_true (by first|(with_reducible assumption)|assumption)
        obtain ⟨ad198,A198_3,c198_3,e198,hx198_0,hx198_1,hx198_2,hx198_3,hl198_3,hi198_3⟩:=at_T56 HR0.out x4_1 p198 q198
        cases e198
        replace hx198_0:=(HB.out.cell (World.block_lt_of_cell? w _ hx198_0)).trans hx198_0
        replace hx198_1:=(HB.out.cell (World.block_lt_of_cell? w _ hx198_1)).trans hx198_1
        replace hx198_2:=(HB.out.cell (World.block_lt_of_cell? w _ hx198_2)).trans hx198_2
        replace hx198_3:=(HB.out.cell (World.block_lt_of_cell? w _ hx198_3)).trans hx198_3
        have HR198_3:=Aside0.mk hi198_3
        have HC198_3:=Aside0.mk hl198_3
        clear hi198_3 hl198_3
        replace p198:=eq_true p198
        replace q198:=eq_true q198
        go_wp2_with (first|((with_reducible refine gate_callee (f:=40) rfl ?_);refine goesL_ (some 20) rfl rfl Tryd.func40 (by kernel_rfl) rfl #[.agg #[.int .i64 ((rd_T56 l0 x4_1).f0),.bool ((rd_T56 l0 x4_1).f1),.string ((rd_T56 l0 x4_1).f2),.slice A198_3 ((rd_T56 l0 x4_1).f3).length c198_3]] rfl (by (try simp only [List.map_toArray,List.map_cons,List.map_nil]);first|done|rfl|(simp only [List.length_drop,List.length_take];rfl)) ?_;(with_reducible refine (laws_toReNode.calls k1 ((rd_T56 l0 x4_1).f0) ((rd_T56 l0 x4_1).f1) ((rd_T56 l0 x4_1).f2) _ _ ((rd_T56 l0 x4_1).f3) t199 t200 t201 t202 _ ?side1 ?side2 A8.out).mono ?_);(case side1=>repeat (first|exact (Kd.C_below HR198_3.out HB.out)|(with_reducible refine Kd.C_alloc ?_ _)|(with_reducible refine Kd.C_drewN ?_ _)|(with_reducible refine Kd.C_drew ?_)));(case side2=>exact HC198_3.out);rintro e w11 ⟨v203,rfl,ho0,hb⟩;refine ⟨_,rfl,?_⟩;have n0_:=Aside0.mk (Kd.S_elder' (by (with_reducible repeat (first|apply Kd.S_alloc|apply Kd.S_drewN|apply Kd.S_drew));exact HO_3.out) (Kd.R_base ho0) hb);have n1_:=Aside0.mk (Kd.R_lower ho0 (below_size (by repeat (first|(with_reducible first|exact HB.out|apply below_alloc|apply pw_below_drewN|apply below_drew1)|exact HB.out))));have n2_:=Aside0.mk (below_step (by repeat (first|(with_reducible first|exact HB.out|apply below_alloc|apply pw_below_drewN|apply below_drew1)|exact HB.out)) hb);clear HO_3;clear HB;have HO_3:=n0_;have HO204:=n1_;have HB:=n2_;clear n0_ n1_ n2_;(try clear hb);(try clear hb2);(try clear hk);(try clear hi);(try clear ho0);have p10 : 0 ≤ (x4_1 : Int):=of_decide_eq_true (by first|(with_reducible assumption)|assumption);have q10 : (x4_1 : Int) < ((x3_1.length : Int) : Int):=of_decide_eq_true (by first|(with_reducible assumption)|assumption);obtain ⟨go10,co10,eo10,gb10,gl10,cl10,HG10⟩:=Kd.S_form HO_3.out (by omega);(first|cases eo10|(injection eo10 with ea_ en_ ec_;(first|subst ea_|(injection ea_ with ea_;subst ea_));subst ec_;clear en_));have GB10:=Aside0.mk gb10;have GG10:=Aside0.mk HG10;clear gb10 gl10 HG10;obtain ⟨_,ce10,hcl10,hM10,hcc10,hfr10,_,_⟩:=Kd.S_elem HO_3.out z49 (x4_1 : Int) p10 q10;obtain ⟨ve10_3,rfl,ge10_3⟩:=k49_openM hM10;have hx10_0 : w11.cell? ⟨go10,(x4_1 : Int).toNat * 4,none⟩ = some (.int .i64 ((rd_T49 x3_1 x4_1).f0)):=hcc10 0 _ rfl;have hx10_1 : w11.cell? ⟨go10,(x4_1 : Int).toNat * 4 + 1,none⟩ = some (.bool ((rd_T49 x3_1 x4_1).f1)):=hcc10 1 _ rfl;have hx10_2 : w11.cell? ⟨go10,(x4_1 : Int).toNat * 4 + 2,none⟩ = some (.string ((rd_T49 x3_1 x4_1).f2)):=hcc10 2 _ rfl;have hx10_3 : w11.cell? ⟨go10,(x4_1 : Int).toNat * 4 + 3,none⟩ = some (ve10_3):=hcc10 3 _ rfl;have hf10_0 : w11.frozen? ⟨go10,(x4_1 : Int).toNat * 4,none⟩ = false:=hfr10 0;have hf10_1 : w11.frozen? ⟨go10,(x4_1 : Int).toNat * 4 + 1,none⟩ = false:=hfr10 1;have hf10_2 : w11.frozen? ⟨go10,(x4_1 : Int).toNat * 4 + 2,none⟩ = false:=hfr10 2;have hf10_3 : w11.frozen? ⟨go10,(x4_1 : Int).toNat * 4 + 3,none⟩ = false:=hfr10 3;clear hcl10 hcc10 hfr10 hM10;replace p10:=eq_true p10;replace q10:=eq_true q10;have n_:=Aside0.mk (Kd.S_mono (ok':=(fun k_=>some k_ ≠ (v203 : Value).ownBlock)) HO_3.out (fun k_ hk=>hk.2));clear HO_3;have HO_3:=n_;clear n_;have HX12:=Aside0.mk (show Kd.S k49 49 w11 w.heap.size (fun k_=>((fun _=>True)) k_ ∧ ¬ ((fun k_=>some k_ = (v203 : Value).ownBlock)) k_) (.slice (some ⟨go10,0,none⟩) x3_1.length co10) x3_1 from (by (with_reducible repeat (first|apply Kd.S_alloc|apply Kd.S_drewN|apply Kd.S_drew));exact Kd.S_mono HO_3.out (fun k_ hk=>⟨trivial,fun e_=>hk e_⟩)));obtain ⟨oki12,ce12,hcl12,hM12,hcc12,hfr12,hoki12,hH12⟩:=Kd.S_elem HX12.out z49 (x4_1 : Int) (of_decide_eq_true (by first|(with_reducible assumption)|assumption)) (by have h_ : (x4_1 : Int) < ((x3_1.length : Int) : Int):=of_decide_eq_true (by first|(with_reducible assumption)|assumption);first|exact h_|(have e_:=(Kd.S_reads' HO_3.out).1;omega)|simpa using h_);obtain ⟨ve12_3,rfl,ge12_3⟩:=k49_openM hM12;have HP12:=Kd.S_seg hH12 (of_decide_eq_true (by first|(with_reducible assumption)|assumption)) (by have h_ : (x4_1 : Int) < ((x3_1.length : Int) : Int):=of_decide_eq_true (by first|(with_reducible assumption)|assumption);first|exact h_|(have e_:=(Kd.S_reads' HO_3.out).1;omega)|simpa using h_) (seg:=[.int .i64 t199,.bool t200,.string t201,v203]) (j:=0) (show 4 ≤ 4 from by decide) (x':=(⟨t199,t200,t201,t202⟩ : S49)) (k49_mkM _ _ _ (⟨t199,t200,t201,t202⟩ : S49) (Kd.R_mono (Kd.R_tight rfl (Kd.R_mono (ok':=fun k_=>((fun _=>True)) k_ ∧ k_ ≠ go10) (Kd.R_apart' (HO204.out) (Kd.S_typed HO_3.out) (by decide)) (fun k_ hk=>⟨trivial,fun e_=>(hk.2) (by rw [e_];rfl)⟩))) (fun _ h_=>Or.inr (h_)))) (fun _ hk=>hk) (fun k_ hk_=>((Kd.R_mono (ok':=fun k_=>((fun _=>True)) k_ ∧ k_ ≠ go10) (Kd.R_apart' (HO204.out) (Kd.S_typed HO_3.out) (by decide)) (fun k_ hk=>⟨trivial,fun e_=>(hk.2) (by rw [e_];rfl)⟩))).1 k_ hk_.symm);have hx12_0:=hcc12 0 _ rfl;(try simp only [show (k49).sz = 4 from rfl,Nat.mul_one,Nat.add_zero] at hx12_0);have hf12_0:=hfr12 0;(try simp only [show (k49).sz = 4 from rfl,Nat.mul_one,Nat.add_zero] at hf12_0);have hx12_1:=hcc12 1 _ rfl;(try simp only [show (k49).sz = 4 from rfl,Nat.mul_one,Nat.add_zero] at hx12_1);have hf12_1:=hfr12 1;(try simp only [show (k49).sz = 4 from rfl,Nat.mul_one,Nat.add_zero] at hf12_1);have hx12_2:=hcc12 2 _ rfl;(try simp only [show (k49).sz = 4 from rfl,Nat.mul_one,Nat.add_zero] at hx12_2);have hf12_2:=hfr12 2;(try simp only [show (k49).sz = 4 from rfl,Nat.mul_one,Nat.add_zero] at hf12_2);have hx12_3:=hcc12 3 _ rfl;(try simp only [show (k49).sz = 4 from rfl,Nat.mul_one,Nat.add_zero] at hx12_3);have hf12_3:=hfr12 3;(try simp only [show (k49).sz = 4 from rfl,Nat.mul_one,Nat.add_zero] at hf12_3);clear hcl12 hcc12 hfr12 hM12 hoki12 hH12)|((with_reducible refine gate_store (t:=49) (p:=21) rfl ?_);refine store_event (t:=49) (p:=21) (v:=?vo_w13) (w1:=((((w11.setCell ⟨go10,(x4_1 : Int).toNat * 4,none⟩ (.int .i64 t199)).setCell ⟨go10,(x4_1 : Int).toNat * 4 + 1,none⟩ (.bool t200)).setCell ⟨go10,(x4_1 : Int).toNat * 4 + 2,none⟩ (.string t201)).setCell ⟨go10,(x4_1 : Int).toNat * 4 + 3,none⟩ (v203))) ?hg ?ho ?hn ?hr ?_;(case ho=>rfl);(case hg=>rfl);(case hn=>rfl);(case hr=>first|(go_simp;done)|(go_simp;rfl)|(obtain ⟨A_,c_,rfl⟩:=Kd.R_slice HO204.out;(first|(go_simp;done)|(go_simp;rfl))));intro w13 hw;have hg : w11.grownBy w13 (some go10):=(by rw [hw];exact HP12.2);have hp_ : Kd.S k49 49 w13 w.heap.size (fun _=>True) (.slice (some ⟨go10,0,none⟩) x3_1.length co10) y205:=(by rw [hw,Ny205.out];exact HP12.1);clear HP12;have n0_:=Aside0.mk (hp_);have n1_:=Aside0.mk ((by rw [hw];exact below_set (below_set (below_set (below_set (HB.out) GB10.out) GB10.out) GB10.out) GB10.out : Below w.heap.size w w13));clear HO_3;clear HB;clear HO204;have HO_3:=n0_;have HB:=n1_;clear n0_ n1_;clear hg hw hp_))
        go_roundg k1
        case measure=>have:=HK1.out;omega
        case rel=>exact ⟨(y205),(wrap64 (x4_1 + 1)),(by first|rfl|(simp;done)|(simp [*];done)),H',⟨by have:=HK1.out;omega⟩,⟨by (with_reducible repeat (first|apply Kd.S_alloc|apply Kd.S_drewN|apply Kd.S_drew));exact HO_3.out⟩,⟨by repeat (first|(with_reducible first|exact HB.out|apply below_alloc|apply pw_below_drewN|apply below_drew1)|exact HB.out)⟩⟩
       ·rw [if_neg c9] at H
        exact absurd H (by simp)
      ·rw [if_neg c7] at H
       exact absurd H (by simp)
     ·rw [if_neg c6] at H
      have c6b0 : decide (x4_1 < (l0.length : Int)) = false:=decide_eq_false c6
      clear c6
      obtain rfl:=Option.some.inj H
      go_wp2
      go_ret
      exact ⟨_,by first|rfl|(simp [errW_none,errW_some] <;> rfl)|(simp [*,errW_none,errW_some] <;> rfl),by (with_reducible repeat (first|apply Kd.S_alloc|apply Kd.S_drewN|apply Kd.S_drew));exact HO_3.out,by repeat (first|(with_reducible first|exact HB.out|apply below_alloc|apply pw_below_drewN|apply below_drew1)|exact HB.out)⟩
  ·rw [if_neg c3] at H
   exact absurd H (by simp)
 ·rw [if_neg c2] at H
  exact absurd H (by simp)
def laws_eqIntS.l0 : Nat → List Int → List Int → Int → Option (Bool)
 | 0,_,_,_=>none
 | k + 1,x0,x1,x5=>if x5 < (x0.length : Int) then (if 0 ≤ x5 then (if x5 < (x1.length : Int) then (if (rd x0 x5) = (rd x1 x5) then (laws_eqIntS.l0 k x0 x1 (wrap64 (x5 + 1))) else (some false)) else (none)) else (none)) else (some true)
def laws_eqIntS.f (k : Nat) (l0 : List Int) (l1 : List Int) : Option (Bool):=if (l0.length : Int) = (l1.length : Int) then (laws_eqIntS.l0 k l0 l1 0) else (some false)
set_option maxHeartbeats 8000000 in
set_option maxRecDepth 100000 in
theorem laws_eqIntS.calls (k : Nat) (A0 : Option Addr) (c0 : Nat) (l0 : List Int) (A1 : Option Addr) (c1 : Nat) (l1 : List Int) (r : Bool) (w : World) (hr0 : Kd.C (Kd.int .i64) w A0 l0.length l0) (hc0 : l0.length ≤ c0) (hr1 : Kd.C (Kd.int .i64) w A1 l1.length l1) (hc1 : l1.length ≤ c1) (h : laws_eqIntS.f k l0 l1 = some r) :
  Calls Tryd.prog 20 #[.slice A0 l0.length c0,.slice A1 l1.length c1] w fun e w'=>e = .returned (.bool r) ∧ Drawn0 w w':=by
 have HR0:=Aside0.mk hr0
 have HC0:=Aside0.mk hc0
 clear hr0 hc0
 have HR1:=Aside0.mk hr1
 have HC1:=Aside0.mk hc1
 clear hr1 hc1
 have H : (if (l0.length : Int) = (l1.length : Int) then (laws_eqIntS.l0 k l0 l1 0) else (some false)) = some r:=h
 clear h
 by_cases c3 : (l0.length : Int) = (l1.length : Int)
 ·rw [if_pos c3] at H
  have c3b0 : ((l0.length : Int) == (l1.length : Int)) = true:=beq_iff_eq.mpr c3
  have c3b1 : ((l0.length : Int) != (l1.length : Int)) = false:=bne_eq_false_iff_eq.mpr c3
  have c3b2 : (l0.length == l1.length) = true:=by first|simpa using c3|(simp at c3 ⊢;omega)
  clear c3
  have H':=Aside0.mk H
  clear H
  go_enter Tryd.func20,Tryd.ntmps20
  go_wp2
  repeat (go_quiet (fail);try go_wp2)
  go_loopg [5] k (fun kq v5 w'=>∃ (x5_1 : Int),v5 = .int .i64 x5_1 ∧ Aside0 (laws_eqIntS.l0 kq l0 l1 x5_1 = some r) ∧ Aside0 (kq ≤ k) ∧ Drawn0 w w')
  case atStart=>exact ⟨(0),(by first|rfl|(simp;done)|(simp [*];done)),H',⟨Nat.le_refl _⟩,by repeat (first|exact Drawn0.refl _|apply Drawn0.step)⟩
  case round =>
   clear H'
   try clear c1
   try clear c2
   try clear p2
   try clear c3
   try clear c3b0
   try clear c3b1
   try clear c3b2
   obtain ⟨x5_1,rfl,HA,HK1,⟨m1,rfl⟩⟩:=hrel
   cases gk with
   | zero=>exact absurd HA.out (by simp [laws_eqIntS.l0])
   | succ k1 =>
    have H:=HA.out
    clear HA
    simp only [laws_eqIntS.l0] at H
    by_cases c4 : x5_1 < (l0.length : Int)
    ·rw [if_pos c4] at H
     have c4b0 : decide (x5_1 < (l0.length : Int)) = true:=decide_eq_true c4
     clear c4
     by_cases c5 : 0 ≤ x5_1
     ·rw [if_pos c5] at H
      have c5b0 : decide (0 ≤ x5_1) = true:=decide_eq_true c5
      clear c5
      by_cases c6 : x5_1 < (l1.length : Int)
      ·rw [if_pos c6] at H
       have c6b0 : decide (x5_1 < (l1.length : Int)) = true:=decide_eq_true c6
       clear c6
       by_cases c7 : (rd l0 x5_1) = (rd l1 x5_1)
       ·rw [if_pos c7] at H
        have c7b0 : ((rd l0 x5_1) == (rd l1 x5_1)) = true:=beq_iff_eq.mpr c7
        have c7b1 : ((rd l0 x5_1) != (rd l1 x5_1)) = false:=bne_eq_false_iff_eq.mpr c7
        clear c7
        have H':=Aside0.mk H
        clear H
        have p206 : 0 ≤ (x5_1 : Int):=of_decide_eq_true (by first|(with_reducible assumption)|assumption)
        have q206 : x5_1 < (l0.length : Int):=of_decide_eq_true (by first|(with_reducible assumption)|assumption)
        obtain ⟨ad206,e206,hx206_0⟩:=Kd.at_int HR0.out x5_1 p206 q206
        cases e206
        replace p206:=eq_true p206
        replace q206:=eq_true q206
        have p207 : 0 ≤ (x5_1 : Int):=of_decide_eq_true (by first|(with_reducible assumption)|assumption)
        have q207 : x5_1 < (l1.length : Int):=of_decide_eq_true (by first|(with_reducible assumption)|assumption)
        obtain ⟨ad207,e207,hx207_0⟩:=Kd.at_int HR1.out x5_1 p207 q207
        cases e207
        replace p207:=eq_true p207
        replace q207:=eq_true q207
        go_wp2
        repeat (go_quiet (fail);try go_wp2)
        go_roundg k1
        case measure=>have:=HK1.out;omega
        case rel=>exact ⟨(wrap64 (x5_1 + 1)),(by first|rfl|(simp;done)|(simp [*];done)),H',⟨by have:=HK1.out;omega⟩,by repeat (first|exact Drawn0.refl _|apply Drawn0.step)⟩
       ·rw [if_neg c7] at H
        have c7b0 : ((rd l0 x5_1) == (rd l1 x5_1)) = false:=beq_eq_false_iff_ne.mpr c7
        have c7b1 : ((rd l0 x5_1) != (rd l1 x5_1)) = true:=bne_iff_ne.mpr c7
        obtain rfl:=Option.some.inj H
        have p206 : 0 ≤ (x5_1 : Int):=of_decide_eq_true (by first|(with_reducible assumption)|assumption)
        have q206 : x5_1 < (l0.length : Int):=of_decide_eq_true (by first|(with_reducible assumption)|assumption)
        obtain ⟨ad206,e206,hx206_0⟩:=Kd.at_int HR0.out x5_1 p206 q206
        cases e206
        replace p206:=eq_true p206
        replace q206:=eq_true q206
        have p207 : 0 ≤ (x5_1 : Int):=of_decide_eq_true (by first|(with_reducible assumption)|assumption)
        have q207 : x5_1 < (l1.length : Int):=of_decide_eq_true (by first|(with_reducible assumption)|assumption)
        obtain ⟨ad207,e207,hx207_0⟩:=Kd.at_int HR1.out x5_1 p207 q207
        cases e207
        replace p207:=eq_true p207
        replace q207:=eq_true q207
        go_wp2
        repeat (go_quiet (fail);try go_wp2)
        go_ret
        exact ⟨by first|rfl|(simp;done)|(simp [*];done),by repeat (first|exact Drawn0.refl _|apply Drawn0.step)⟩
      ·rw [if_neg c6] at H
       exact absurd H (by simp)
     ·rw [if_neg c5] at H
      exact absurd H (by simp)
    ·rw [if_neg c4] at H
     have c4b0 : decide (x5_1 < (l0.length : Int)) = false:=decide_eq_false c4
     clear c4
     obtain rfl:=Option.some.inj H
     go_wp2
     repeat (go_quiet (fail);try go_wp2)
     go_ret
     exact ⟨by first|rfl|(simp;done)|(simp [*];done),by repeat (first|exact Drawn0.refl _|apply Drawn0.step)⟩
 ·rw [if_neg c3] at H
  have c3b0 : ((l0.length : Int) == (l1.length : Int)) = false:=beq_eq_false_iff_ne.mpr c3
  have c3b1 : ((l0.length : Int) != (l1.length : Int)) = true:=bne_iff_ne.mpr c3
  have c3b2 : (l0.length == l1.length) = false:=by first|simpa using c3|(simp at c3 ⊢;omega)
  obtain rfl:=Option.some.inj H
  go_enter Tryd.func20,Tryd.ntmps20
  go_wp2
  repeat (go_quiet (fail);try go_wp2)
  go_ret
  exact ⟨by first|rfl|(simp;done)|(simp [*];done),by repeat (first|exact Drawn0.refl _|apply Drawn0.step)⟩
def laws_eqReNode.f (k : Nat) (a0_0 : Int) (a0_1 : Bool) (a0_2 : ByteArray) (l0_3 : List Int) (a1_0 : Int) (a1_1 : Bool) (a1_2 : ByteArray) (l1_3 : List Int) : Option (Bool):=if a0_0 = a1_0 then (if (a0_1 != a1_1) = true then (some false) else (if a0_2.toList = a1_2.toList then ((laws_eqIntS.f k l0_3 l1_3).bind fun t210=>(if t210 = true then (some true) else (some false))) else (some false))) else (some false)
set_option maxHeartbeats 8000000 in
set_option maxRecDepth 100000 in
theorem laws_eqReNode.calls (k : Nat) (a0_0 : Int) (a0_1 : Bool) (a0_2 : ByteArray) (A0_3 : Option Addr) (c0_3 : Nat) (l0_3 : List Int) (a1_0 : Int) (a1_1 : Bool) (a1_2 : ByteArray) (A1_3 : Option Addr) (c1_3 : Nat) (l1_3 : List Int) (r : Bool) (w : World) (hr0_3 : Kd.C (Kd.int .i64) w A0_3 l0_3.length l0_3) (hc0_3 : l0_3.length ≤ c0_3) (hr1_3 : Kd.C (Kd.int .i64) w A1_3 l1_3.length l1_3) (hc1_3 : l1_3.length ≤ c1_3) (h : laws_eqReNode.f k a0_0 a0_1 a0_2 l0_3 a1_0 a1_1 a1_2 l1_3 = some r) :
  Calls Tryd.prog 43 #[.agg #[.int .i64 a0_0,.bool a0_1,.string a0_2,.slice A0_3 l0_3.length c0_3],.agg #[.int .i64 a1_0,.bool a1_1,.string a1_2,.slice A1_3 l1_3.length c1_3]] w fun e w'=>e = .returned (.bool r) ∧ Below w.heap.size w w':=by
 have hu49:=Tryd.underlying49
 have HR0_3:=Aside0.mk hr0_3
 have HC0_3:=Aside0.mk hc0_3
 clear hr0_3 hc0_3
 have HR1_3:=Aside0.mk hr1_3
 have HC1_3:=Aside0.mk hc1_3
 clear hr1_3 hc1_3
 have HB:=Aside0.mk (Below.refl w.heap.size w)
 have H : (if a0_0 = a1_0 then (if (a0_1 != a1_1) = true then (some false) else (if a0_2.toList = a1_2.toList then ((laws_eqIntS.f k l0_3 l1_3).bind fun t210=>(if t210 = true then (some true) else (some false))) else (some false))) else (some false)) = some r:=h
 clear h
 by_cases c3 : a0_0 = a1_0
 ·rw [if_pos c3] at H
  have c3b0 : (a0_0 == a1_0) = true:=beq_iff_eq.mpr c3
  have c3b1 : (a0_0 != a1_0) = false:=bne_eq_false_iff_eq.mpr c3
  clear c3
  by_cases c4 : (a0_1 != a1_1) = true
  ·rw [if_pos c4] at H
   have c4b0 : (a0_1 != a1_1) = true:=c4
   (try (have c4b1 : decide (a0_1 = a1_1) = false:=by simpa using c4))
   (try (have c4b2 : (a0_1 == a1_1) = false:=by simpa using c4))
   (try (have c4b3 : ¬ (a0_1 = a1_1):=by simpa using c4))
   clear c4
   obtain rfl:=Option.some.inj H
   go_enter Tryd.func43,Tryd.ntmps43
   go_wp2_with (first|((with_reducible refine gate_dst (N:=2) rfl ?_);refine box_event ?hg (N:=2) ?hd (cs:=#[.int .i64 a0_0,.bool a0_1,.string a0_2,.slice A0_3 l0_3.length c0_3]) (t:=49) ?hr ?_;(case hd=>rfl);(case hg=>rfl);(case hr=>first|(go_simp;done)|(go_simp;rfl));intro gb208 hg w5 hbox hb;have n0_:=Aside0.mk (below_step (by repeat (first|(with_reducible first|exact HB.out|apply below_alloc|apply pw_below_drewN|apply below_drew1)|exact HB.out)) hb);have n1_:=Aside0.mk (hbox);have n2_:=Aside0.mk ((by rw [hg];exact (below_size (by repeat (first|(with_reducible first|exact HB.out|apply below_alloc|apply pw_below_drewN|apply below_drew1)|exact HB.out))) : w.heap.size ≤ gb208));have n3_:=Aside0.mk ((by rw [hg];exact (below_size (by repeat (first|(with_reducible first|exact HB.out|apply below_alloc|apply pw_below_drewN|apply below_drew1)|exact HB.out))) : w.heap.size ≤ gb208));clear HB;have HB:=n0_;have BK208:=n1_;have GW208:=n2_;have GE208:=n3_;clear n0_ n1_ n2_ n3_;clear hb hbox hg)|((with_reducible refine gate_dst (N:=3) rfl ?_);refine box_event ?hg (N:=3) ?hd (cs:=#[.int .i64 a1_0,.bool a1_1,.string a1_2,.slice A1_3 l1_3.length c1_3]) (t:=49) ?hr ?_;(case hd=>rfl);(case hg=>rfl);(case hr=>first|(go_simp;done)|(go_simp;rfl));intro gb209 hg w6 hbox hb;have n0_:=Aside0.mk (blk_below (g:=gb208) (o:=.cells #[.int .i64 a0_0,.bool a0_1,.string a0_2,.slice A0_3 l0_3.length c0_3] 49 (0,0)) (by (with_reducible repeat (first|refine blk_drewN ?_ _|refine blk_drew ?_|refine blk_alloc ?_ _));exact BK208.out) hb);have n1_:=Aside0.mk (below_step (by repeat (first|(with_reducible first|exact HB.out|apply below_alloc|apply pw_below_drewN|apply below_drew1|refine below_set ?_ GE208.out)|exact HB.out)) hb);have n2_:=Aside0.mk (hbox);have n3_:=Aside0.mk ((by rw [hg];exact (below_size (by repeat (first|(with_reducible first|exact HB.out|apply below_alloc|apply pw_below_drewN|apply below_drew1|refine below_set ?_ GE208.out)|exact HB.out))) : w.heap.size ≤ gb209));have n4_:=Aside0.mk ((by rw [hg];exact (below_size (by repeat (first|(with_reducible first|exact HB.out|apply below_alloc|apply pw_below_drewN|apply below_drew1|refine below_set ?_ GE208.out)|exact HB.out))) : w.heap.size ≤ gb209));have n5_:=Aside0.mk ((by rw [hg];exact Nat.ne_of_lt (blk_lt (g:=gb208) (o:=.cells #[.int .i64 a0_0,.bool a0_1,.string a0_2,.slice A0_3 l0_3.length c0_3] 49 (0,0)) (by (with_reducible repeat (first|refine blk_drewN ?_ _|refine blk_drew ?_|refine blk_alloc ?_ _));exact BK208.out)) : gb208 ≠ gb209));have n6_:=Aside0.mk ((by rw [hg];exact Nat.ne_of_gt (blk_lt (g:=gb208) (o:=.cells #[.int .i64 a0_0,.bool a0_1,.string a0_2,.slice A0_3 l0_3.length c0_3] 49 (0,0)) (by (with_reducible repeat (first|refine blk_drewN ?_ _|refine blk_drew ?_|refine blk_alloc ?_ _));exact BK208.out)) : gb209 ≠ gb208));clear BK208;clear HB;have BK208:=n0_;have HB:=n1_;have BK209:=n2_;have GW209:=n3_;have GE209:=n4_;have NB208_209:=n5_;have NB209_208:=n6_;clear n0_ n1_ n2_ n3_ n4_ n5_ n6_;clear hb hbox hg;have hnb7:=NB208_209.out;have hnc7:=NB209_208.out;have hcz8_0 : w6.cell? ⟨gb208,0,none⟩ = some (.int .i64 a0_0):=(blk_cell BK208.out 0).trans rfl;have hcz8_1 : w6.cell? ⟨gb208,1,none⟩ = some (.bool a0_1):=(blk_cell BK208.out 1).trans rfl;have hcz8_2 : w6.cell? ⟨gb208,2,none⟩ = some (.string a0_2):=(blk_cell BK208.out 2).trans rfl;have hcz8_3 : w6.cell? ⟨gb208,3,none⟩ = some (.slice A0_3 l0_3.length c0_3):=(blk_cell BK208.out 3).trans rfl;have hfz8_0:=blk_frozen BK208.out 0;have hfz8_1:=blk_frozen BK208.out 1;have hfz8_2:=blk_frozen BK208.out 2;have hfz8_3:=blk_frozen BK208.out 3;have hcz9_0 : w6.cell? ⟨gb209,0,none⟩ = some (.int .i64 a1_0):=(blk_cell BK209.out 0).trans rfl;have hcz9_1 : w6.cell? ⟨gb209,1,none⟩ = some (.bool a1_1):=(blk_cell BK209.out 1).trans rfl;have hcz9_2 : w6.cell? ⟨gb209,2,none⟩ = some (.string a1_2):=(blk_cell BK209.out 2).trans rfl;have hcz9_3 : w6.cell? ⟨gb209,3,none⟩ = some (.slice A1_3 l1_3.length c1_3):=(blk_cell BK209.out 3).trans rfl;have hfz9_0:=blk_frozen BK209.out 0;have hfz9_1:=blk_frozen BK209.out 1;have hfz9_2:=blk_frozen BK209.out 2;have hfz9_3:=blk_frozen BK209.out 3))
   go_ret
   exact ⟨by first|rfl|(simp [errW_none,errW_some] <;> rfl)|(simp [*,errW_none,errW_some] <;> rfl),by repeat (first|(with_reducible first|exact HB.out|apply below_alloc|apply pw_below_drewN|apply below_drew1|refine below_set ?_ GE208.out|refine below_set ?_ GE209.out)|exact HB.out)⟩
  ·rw [if_neg c4] at H
   have c4b0 : (a0_1 != a1_1) = false:=by simpa using c4
   (try (have c4b1 : decide (a0_1 = a1_1) = true:=by simpa using c4))
   (try (have c4b2 : (a0_1 == a1_1) = true:=by simpa using c4))
   clear c4
   by_cases c10 : a0_2.toList = a1_2.toList
   ·rw [if_pos c10] at H
    have c10b0 : (a0_2.toList == a1_2.toList) = true:=beq_iff_eq.mpr c10
    have c10b1 : (a0_2.toList != a1_2.toList) = false:=bne_eq_false_iff_eq.mpr c10
    clear c10
    replace H:=Option.bind_eq_some_iff.mp H
    obtain ⟨t210,A110,H⟩:=H
    replace H : (if t210 = true then (some true) else (some false)) = some r:=H
    have A11:=Aside0.mk A110
    clear A110
    by_cases c12 : t210 = true
    ·subst c12
     have H1 : (some true) = some r:=by rw [if_pos rfl] at H;exact H
     clear H
     have H:=H1
     clear H1
     obtain rfl:=Option.some.inj H
     go_enter Tryd.func43,Tryd.ntmps43
     go_wp2_with (first|((with_reducible refine gate_dst (N:=2) rfl ?_);refine box_event ?hg (N:=2) ?hd (cs:=#[.int .i64 a0_0,.bool a0_1,.string a0_2,.slice A0_3 l0_3.length c0_3]) (t:=49) ?hr ?_;(case hd=>rfl);(case hg=>rfl);(case hr=>first|(go_simp;done)|(go_simp;rfl));intro gb208 hg w13 hbox hb;have n0_:=Aside0.mk (below_step (by repeat (first|(with_reducible first|exact HB.out|apply below_alloc|apply pw_below_drewN|apply below_drew1)|exact HB.out)) hb);have n1_:=Aside0.mk (hbox);have n2_:=Aside0.mk ((by rw [hg];exact (below_size (by repeat (first|(with_reducible first|exact HB.out|apply below_alloc|apply pw_below_drewN|apply below_drew1)|exact HB.out))) : w.heap.size ≤ gb208));have n3_:=Aside0.mk ((by rw [hg];exact (below_size (by repeat (first|(with_reducible first|exact HB.out|apply below_alloc|apply pw_below_drewN|apply below_drew1)|exact HB.out))) : w.heap.size ≤ gb208));clear HB;have HB:=n0_;have BK208:=n1_;have GW208:=n2_;have GE208:=n3_;clear n0_ n1_ n2_ n3_;clear hb hbox hg)|((with_reducible refine gate_dst (N:=3) rfl ?_);refine box_event ?hg (N:=3) ?hd (cs:=#[.int .i64 a1_0,.bool a1_1,.string a1_2,.slice A1_3 l1_3.length c1_3]) (t:=49) ?hr ?_;(case hd=>rfl);(case hg=>rfl);(case hr=>first|(go_simp;done)|(go_simp;rfl));intro gb209 hg w14 hbox hb;have n0_:=Aside0.mk (blk_below (g:=gb208) (o:=.cells #[.int .i64 a0_0,.bool a0_1,.string a0_2,.slice A0_3 l0_3.length c0_3] 49 (0,0)) (by (with_reducible repeat (first|refine blk_drewN ?_ _|refine blk_drew ?_|refine blk_alloc ?_ _));exact BK208.out) hb);have n1_:=Aside0.mk (below_step (by repeat (first|(with_reducible first|exact HB.out|apply below_alloc|apply pw_below_drewN|apply below_drew1|refine below_set ?_ GE208.out)|exact HB.out)) hb);have n2_:=Aside0.mk (hbox);have n3_:=Aside0.mk ((by rw [hg];exact (below_size (by repeat (first|(with_reducible first|exact HB.out|apply below_alloc|apply pw_below_drewN|apply below_drew1|refine below_set ?_ GE208.out)|exact HB.out))) : w.heap.size ≤ gb209));have n4_:=Aside0.mk ((by rw [hg];exact (below_size (by repeat (first|(with_reducible first|exact HB.out|apply below_alloc|apply pw_below_drewN|apply below_drew1|refine below_set ?_ GE208.out)|exact HB.out))) : w.heap.size ≤ gb209));have n5_:=Aside0.mk ((by rw [hg];exact Nat.ne_of_lt (blk_lt (g:=gb208) (o:=.cells #[.int .i64 a0_0,.bool a0_1,.string a0_2,.slice A0_3 l0_3.length c0_3] 49 (0,0)) (by (with_reducible repeat (first|refine blk_drewN ?_ _|refine blk_drew ?_|refine blk_alloc ?_ _));exact BK208.out)) : gb208 ≠ gb209));have n6_:=Aside0.mk ((by rw [hg];exact Nat.ne_of_gt (blk_lt (g:=gb208) (o:=.cells #[.int .i64 a0_0,.bool a0_1,.string a0_2,.slice A0_3 l0_3.length c0_3] 49 (0,0)) (by (with_reducible repeat (first|refine blk_drewN ?_ _|refine blk_drew ?_|refine blk_alloc ?_ _));exact BK208.out)) : gb209 ≠ gb208));clear BK208;clear HB;have BK208:=n0_;have HB:=n1_;have BK209:=n2_;have GW209:=n3_;have GE209:=n4_;have NB208_209:=n5_;have NB209_208:=n6_;clear n0_ n1_ n2_ n3_ n4_ n5_ n6_;clear hb hbox hg;have hnb15:=NB208_209.out;have hnc15:=NB209_208.out;have hcz16_0 : w14.cell? ⟨gb208,0,none⟩ = some (.int .i64 a0_0):=(blk_cell BK208.out 0).trans rfl;have hcz16_1 : w14.cell? ⟨gb208,1,none⟩ = some (.bool a0_1):=(blk_cell BK208.out 1).trans rfl;have hcz16_2 : w14.cell? ⟨gb208,2,none⟩ = some (.string a0_2):=(blk_cell BK208.out 2).trans rfl;have hcz16_3 : w14.cell? ⟨gb208,3,none⟩ = some (.slice A0_3 l0_3.length c0_3):=(blk_cell BK208.out 3).trans rfl;have hfz16_0:=blk_frozen BK208.out 0;have hfz16_1:=blk_frozen BK208.out 1;have hfz16_2:=blk_frozen BK208.out 2;have hfz16_3:=blk_frozen BK208.out 3;have hcz17_0 : w14.cell? ⟨gb209,0,none⟩ = some (.int .i64 a1_0):=(blk_cell BK209.out 0).trans rfl;have hcz17_1 : w14.cell? ⟨gb209,1,none⟩ = some (.bool a1_1):=(blk_cell BK209.out 1).trans rfl;have hcz17_2 : w14.cell? ⟨gb209,2,none⟩ = some (.string a1_2):=(blk_cell BK209.out 2).trans rfl;have hcz17_3 : w14.cell? ⟨gb209,3,none⟩ = some (.slice A1_3 l1_3.length c1_3):=(blk_cell BK209.out 3).trans rfl;have hfz17_0:=blk_frozen BK209.out 0;have hfz17_1:=blk_frozen BK209.out 1;have hfz17_2:=blk_frozen BK209.out 2;have hfz17_3:=blk_frozen BK209.out 3)|((with_reducible refine gate_callee (f:=20) rfl ?_);refine goesL_ (some 24) rfl rfl Tryd.func20 (by kernel_rfl) rfl #[.slice A0_3 l0_3.length c0_3,.slice A1_3 l1_3.length c1_3] rfl (by (try simp only [List.map_toArray,List.map_cons,List.map_nil]);first|done|rfl|(simp only [List.length_drop,List.length_take];rfl)) ?_;(with_reducible refine (laws_eqIntS.calls k _ _ l0_3 _ _ l1_3 true _ ?side1 ?side2 ?side3 ?side4 A11.out).mono ?_);(case side1=>repeat (first|exact (Kd.C_below HR0_3.out HB.out)|(with_reducible refine Kd.C_alloc ?_ _)|(with_reducible refine Kd.C_drewN ?_ _)|(with_reducible refine Kd.C_drew ?_)));(case side2=>exact HC0_3.out);(case side3=>repeat (first|exact (Kd.C_below HR1_3.out HB.out)|(with_reducible refine Kd.C_alloc ?_ _)|(with_reducible refine Kd.C_drewN ?_ _)|(with_reducible refine Kd.C_drew ?_)));(case side4=>exact HC1_3.out);rintro e w' ⟨rfl,⟨nd,rfl⟩⟩;refine ⟨_,rfl,?_⟩))
     go_ret
     exact ⟨by first|rfl|(simp [errW_none,errW_some] <;> rfl)|(simp [*,errW_none,errW_some] <;> rfl),by repeat (first|(with_reducible first|exact HB.out|apply below_alloc|apply pw_below_drewN|apply below_drew1|refine below_set ?_ GE208.out|refine below_set ?_ GE209.out)|exact HB.out)⟩
    ·replace c12:=Bool.eq_false_iff.mpr c12
     subst c12
     have H1 : (some false) = some r:=by rw [if_neg (show ¬ (false = true) by decide)] at H;exact H
     clear H
     have H:=H1
     clear H1
     obtain rfl:=Option.some.inj H
     go_enter Tryd.func43,Tryd.ntmps43
     go_wp2_with (first|((with_reducible refine gate_dst (N:=2) rfl ?_);refine box_event ?hg (N:=2) ?hd (cs:=#[.int .i64 a0_0,.bool a0_1,.string a0_2,.slice A0_3 l0_3.length c0_3]) (t:=49) ?hr ?_;(case hd=>rfl);(case hg=>rfl);(case hr=>first|(go_simp;done)|(go_simp;rfl));intro gb208 hg w18 hbox hb;have n0_:=Aside0.mk (below_step (by repeat (first|(with_reducible first|exact HB.out|apply below_alloc|apply pw_below_drewN|apply below_drew1)|exact HB.out)) hb);have n1_:=Aside0.mk (hbox);have n2_:=Aside0.mk ((by rw [hg];exact (below_size (by repeat (first|(with_reducible first|exact HB.out|apply below_alloc|apply pw_below_drewN|apply below_drew1)|exact HB.out))) : w.heap.size ≤ gb208));have n3_:=Aside0.mk ((by rw [hg];exact (below_size (by repeat (first|(with_reducible first|exact HB.out|apply below_alloc|apply pw_below_drewN|apply below_drew1)|exact HB.out))) : w.heap.size ≤ gb208));clear HB;have HB:=n0_;have BK208:=n1_;have GW208:=n2_;have GE208:=n3_;clear n0_ n1_ n2_ n3_;clear hb hbox hg)|((with_reducible refine gate_dst (N:=3) rfl ?_);refine box_event ?hg (N:=3) ?hd (cs:=#[.int .i64 a1_0,.bool a1_1,.string a1_2,.slice A1_3 l1_3.length c1_3]) (t:=49) ?hr ?_;(case hd=>rfl);(case hg=>rfl);(case hr=>first|(go_simp;done)|(go_simp;rfl));intro gb209 hg w19 hbox hb;have n0_:=Aside0.mk (blk_below (g:=gb208) (o:=.cells #[.int .i64 a0_0,.bool a0_1,.string a0_2,.slice A0_3 l0_3.length c0_3] 49 (0,0)) (by (with_reducible repeat (first|refine blk_drewN ?_ _|refine blk_drew ?_|refine blk_alloc ?_ _));exact BK208.out) hb);have n1_:=Aside0.mk (below_step (by repeat (first|(with_reducible first|exact HB.out|apply below_alloc|apply pw_below_drewN|apply below_drew1|refine below_set ?_ GE208.out)|exact HB.out)) hb);have n2_:=Aside0.mk (hbox);have n3_:=Aside0.mk ((by rw [hg];exact (below_size (by repeat (first|(with_reducible first|exact HB.out|apply below_alloc|apply pw_below_drewN|apply below_drew1|refine below_set ?_ GE208.out)|exact HB.out))) : w.heap.size ≤ gb209));have n4_:=Aside0.mk ((by rw [hg];exact (below_size (by repeat (first|(with_reducible first|exact HB.out|apply below_alloc|apply pw_below_drewN|apply below_drew1|refine below_set ?_ GE208.out)|exact HB.out))) : w.heap.size ≤ gb209));have n5_:=Aside0.mk ((by rw [hg];exact Nat.ne_of_lt (blk_lt (g:=gb208) (o:=.cells #[.int .i64 a0_0,.bool a0_1,.string a0_2,.slice A0_3 l0_3.length c0_3] 49 (0,0)) (by (with_reducible repeat (first|refine blk_drewN ?_ _|refine blk_drew ?_|refine blk_alloc ?_ _));exact BK208.out)) : gb208 ≠ gb209));have n6_:=Aside0.mk ((by rw [hg];exact Nat.ne_of_gt (blk_lt (g:=gb208) (o:=.cells #[.int .i64 a0_0,.bool a0_1,.string a0_2,.slice A0_3 l0_3.length c0_3] 49 (0,0)) (by (with_reducible repeat (first|refine blk_drewN ?_ _|refine blk_drew ?_|refine blk_alloc ?_ _));exact BK208.out)) : gb209 ≠ gb208));clear BK208;clear HB;have BK208:=n0_;have HB:=n1_;have BK209:=n2_;have GW209:=n3_;have GE209:=n4_;have NB208_209:=n5_;have NB209_208:=n6_;clear n0_ n1_ n2_ n3_ n4_ n5_ n6_;clear hb hbox hg;have hnb20:=NB208_209.out;have hnc20:=NB209_208.out;have hcz21_0 : w19.cell? ⟨gb208,0,none⟩ = some (.int .i64 a0_0):=(blk_cell BK208.out 0).trans rfl;have hcz21_1 : w19.cell? ⟨gb208,1,none⟩ = some (.bool a0_1):=(blk_cell BK208.out 1).trans rfl;have hcz21_2 : w19.cell? ⟨gb208,2,none⟩ = some (.string a0_2):=(blk_cell BK208.out 2).trans rfl;have hcz21_3 : w19.cell? ⟨gb208,3,none⟩ = some (.slice A0_3 l0_3.length c0_3):=(blk_cell BK208.out 3).trans rfl;have hfz21_0:=blk_frozen BK208.out 0;have hfz21_1:=blk_frozen BK208.out 1;have hfz21_2:=blk_frozen BK208.out 2;have hfz21_3:=blk_frozen BK208.out 3;have hcz22_0 : w19.cell? ⟨gb209,0,none⟩ = some (.int .i64 a1_0):=(blk_cell BK209.out 0).trans rfl;have hcz22_1 : w19.cell? ⟨gb209,1,none⟩ = some (.bool a1_1):=(blk_cell BK209.out 1).trans rfl;have hcz22_2 : w19.cell? ⟨gb209,2,none⟩ = some (.string a1_2):=(blk_cell BK209.out 2).trans rfl;have hcz22_3 : w19.cell? ⟨gb209,3,none⟩ = some (.slice A1_3 l1_3.length c1_3):=(blk_cell BK209.out 3).trans rfl;have hfz22_0:=blk_frozen BK209.out 0;have hfz22_1:=blk_frozen BK209.out 1;have hfz22_2:=blk_frozen BK209.out 2;have hfz22_3:=blk_frozen BK209.out 3)|((with_reducible refine gate_callee (f:=20) rfl ?_);refine goesL_ (some 24) rfl rfl Tryd.func20 (by kernel_rfl) rfl #[.slice A0_3 l0_3.length c0_3,.slice A1_3 l1_3.length c1_3] rfl (by (try simp only [List.map_toArray,List.map_cons,List.map_nil]);first|done|rfl|(simp only [List.length_drop,List.length_take];rfl)) ?_;(with_reducible refine (laws_eqIntS.calls k _ _ l0_3 _ _ l1_3 false _ ?side1 ?side2 ?side3 ?side4 A11.out).mono ?_);(case side1=>repeat (first|exact (Kd.C_below HR0_3.out HB.out)|(with_reducible refine Kd.C_alloc ?_ _)|(with_reducible refine Kd.C_drewN ?_ _)|(with_reducible refine Kd.C_drew ?_)));(case side2=>exact HC0_3.out);(case side3=>repeat (first|exact (Kd.C_below HR1_3.out HB.out)|(with_reducible refine Kd.C_alloc ?_ _)|(with_reducible refine Kd.C_drewN ?_ _)|(with_reducible refine Kd.C_drew ?_)));(case side4=>exact HC1_3.out);rintro e w' ⟨rfl,⟨nd,rfl⟩⟩;refine ⟨_,rfl,?_⟩))
     go_ret
     exact ⟨by first|rfl|(simp [errW_none,errW_some] <;> rfl)|(simp [*,errW_none,errW_some] <;> rfl),by repeat (first|(with_reducible first|exact HB.out|apply below_alloc|apply pw_below_drewN|apply below_drew1|refine below_set ?_ GE208.out|refine below_set ?_ GE209.out)|exact HB.out)⟩
   ·rw [if_neg c10] at H
    have c10b0 : (a0_2.toList == a1_2.toList) = false:=beq_eq_false_iff_ne.mpr c10
    have c10b1 : (a0_2.toList != a1_2.toList) = true:=bne_iff_ne.mpr c10
    obtain rfl:=Option.some.inj H
    go_enter Tryd.func43,Tryd.ntmps43
    go_wp2_with (first|((with_reducible refine gate_dst (N:=2) rfl ?_);refine box_event ?hg (N:=2) ?hd (cs:=#[.int .i64 a0_0,.bool a0_1,.string a0_2,.slice A0_3 l0_3.length c0_3]) (t:=49) ?hr ?_;(case hd=>rfl);(case hg=>rfl);(case hr=>first|(go_simp;done)|(go_simp;rfl));intro gb208 hg w23 hbox hb;have n0_:=Aside0.mk (below_step (by repeat (first|(with_reducible first|exact HB.out|apply below_alloc|apply pw_below_drewN|apply below_drew1)|exact HB.out)) hb);have n1_:=Aside0.mk (hbox);have n2_:=Aside0.mk ((by rw [hg];exact (below_size (by repeat (first|(with_reducible first|exact HB.out|apply below_alloc|apply pw_below_drewN|apply below_drew1)|exact HB.out))) : w.heap.size ≤ gb208));have n3_:=Aside0.mk ((by rw [hg];exact (below_size (by repeat (first|(with_reducible first|exact HB.out|apply below_alloc|apply pw_below_drewN|apply below_drew1)|exact HB.out))) : w.heap.size ≤ gb208));clear HB;have HB:=n0_;have BK208:=n1_;have GW208:=n2_;have GE208:=n3_;clear n0_ n1_ n2_ n3_;clear hb hbox hg)|((with_reducible refine gate_dst (N:=3) rfl ?_);refine box_event ?hg (N:=3) ?hd (cs:=#[.int .i64 a1_0,.bool a1_1,.string a1_2,.slice A1_3 l1_3.length c1_3]) (t:=49) ?hr ?_;(case hd=>rfl);(case hg=>rfl);(case hr=>first|(go_simp;done)|(go_simp;rfl));intro gb209 hg w24 hbox hb;have n0_:=Aside0.mk (blk_below (g:=gb208) (o:=.cells #[.int .i64 a0_0,.bool a0_1,.string a0_2,.slice A0_3 l0_3.length c0_3] 49 (0,0)) (by (with_reducible repeat (first|refine blk_drewN ?_ _|refine blk_drew ?_|refine blk_alloc ?_ _));exact BK208.out) hb);have n1_:=Aside0.mk (below_step (by repeat (first|(with_reducible first|exact HB.out|apply below_alloc|apply pw_below_drewN|apply below_drew1|refine below_set ?_ GE208.out)|exact HB.out)) hb);have n2_:=Aside0.mk (hbox);have n3_:=Aside0.mk ((by rw [hg];exact (below_size (by repeat (first|(with_reducible first|exact HB.out|apply below_alloc|apply pw_below_drewN|apply below_drew1|refine below_set ?_ GE208.out)|exact HB.out))) : w.heap.size ≤ gb209));have n4_:=Aside0.mk ((by rw [hg];exact (below_size (by repeat (first|(with_reducible first|exact HB.out|apply below_alloc|apply pw_below_drewN|apply below_drew1|refine below_set ?_ GE208.out)|exact HB.out))) : w.heap.size ≤ gb209));have n5_:=Aside0.mk ((by rw [hg];exact Nat.ne_of_lt (blk_lt (g:=gb208) (o:=.cells #[.int .i64 a0_0,.bool a0_1,.string a0_2,.slice A0_3 l0_3.length c0_3] 49 (0,0)) (by (with_reducible repeat (first|refine blk_drewN ?_ _|refine blk_drew ?_|refine blk_alloc ?_ _));exact BK208.out)) : gb208 ≠ gb209));have n6_:=Aside0.mk ((by rw [hg];exact Nat.ne_of_gt (blk_lt (g:=gb208) (o:=.cells #[.int .i64 a0_0,.bool a0_1,.string a0_2,.slice A0_3 l0_3.length c0_3] 49 (0,0)) (by (with_reducible repeat (first|refine blk_drewN ?_ _|refine blk_drew ?_|refine blk_alloc ?_ _));exact BK208.out)) : gb209 ≠ gb208));clear BK208;clear HB;have BK208:=n0_;have HB:=n1_;have BK209:=n2_;have GW209:=n3_;have GE209:=n4_;have NB208_209:=n5_;have NB209_208:=n6_;clear n0_ n1_ n2_ n3_ n4_ n5_ n6_;clear hb hbox hg;have hnb25:=NB208_209.out;have hnc25:=NB209_208.out;have hcz26_0 : w24.cell? ⟨gb208,0,none⟩ = some (.int .i64 a0_0):=(blk_cell BK208.out 0).trans rfl;have hcz26_1 : w24.cell? ⟨gb208,1,none⟩ = some (.bool a0_1):=(blk_cell BK208.out 1).trans rfl;have hcz26_2 : w24.cell? ⟨gb208,2,none⟩ = some (.string a0_2):=(blk_cell BK208.out 2).trans rfl;have hcz26_3 : w24.cell? ⟨gb208,3,none⟩ = some (.slice A0_3 l0_3.length c0_3):=(blk_cell BK208.out 3).trans rfl;have hfz26_0:=blk_frozen BK208.out 0;have hfz26_1:=blk_frozen BK208.out 1;have hfz26_2:=blk_frozen BK208.out 2;have hfz26_3:=blk_frozen BK208.out 3;have hcz27_0 : w24.cell? ⟨gb209,0,none⟩ = some (.int .i64 a1_0):=(blk_cell BK209.out 0).trans rfl;have hcz27_1 : w24.cell? ⟨gb209,1,none⟩ = some (.bool a1_1):=(blk_cell BK209.out 1).trans rfl;have hcz27_2 : w24.cell? ⟨gb209,2,none⟩ = some (.string a1_2):=(blk_cell BK209.out 2).trans rfl;have hcz27_3 : w24.cell? ⟨gb209,3,none⟩ = some (.slice A1_3 l1_3.length c1_3):=(blk_cell BK209.out 3).trans rfl;have hfz27_0:=blk_frozen BK209.out 0;have hfz27_1:=blk_frozen BK209.out 1;have hfz27_2:=blk_frozen BK209.out 2;have hfz27_3:=blk_frozen BK209.out 3))
    go_ret
    exact ⟨by first|rfl|(simp [errW_none,errW_some] <;> rfl)|(simp [*,errW_none,errW_some] <;> rfl),by repeat (first|(with_reducible first|exact HB.out|apply below_alloc|apply pw_below_drewN|apply below_drew1|refine below_set ?_ GE208.out|refine below_set ?_ GE209.out)|exact HB.out)⟩
 ·rw [if_neg c3] at H
  have c3b0 : (a0_0 == a1_0) = false:=beq_eq_false_iff_ne.mpr c3
  have c3b1 : (a0_0 != a1_0) = true:=bne_iff_ne.mpr c3
  obtain rfl:=Option.some.inj H
  go_enter Tryd.func43,Tryd.ntmps43
  go_wp2_with (first|((with_reducible refine gate_dst (N:=2) rfl ?_);refine box_event ?hg (N:=2) ?hd (cs:=#[.int .i64 a0_0,.bool a0_1,.string a0_2,.slice A0_3 l0_3.length c0_3]) (t:=49) ?hr ?_;(case hd=>rfl);(case hg=>rfl);(case hr=>first|(go_simp;done)|(go_simp;rfl));intro gb208 hg w28 hbox hb;have n0_:=Aside0.mk (below_step (by repeat (first|(with_reducible first|exact HB.out|apply below_alloc|apply pw_below_drewN|apply below_drew1)|exact HB.out)) hb);have n1_:=Aside0.mk (hbox);have n2_:=Aside0.mk ((by rw [hg];exact (below_size (by repeat (first|(with_reducible first|exact HB.out|apply below_alloc|apply pw_below_drewN|apply below_drew1)|exact HB.out))) : w.heap.size ≤ gb208));have n3_:=Aside0.mk ((by rw [hg];exact (below_size (by repeat (first|(with_reducible first|exact HB.out|apply below_alloc|apply pw_below_drewN|apply below_drew1)|exact HB.out))) : w.heap.size ≤ gb208));clear HB;have HB:=n0_;have BK208:=n1_;have GW208:=n2_;have GE208:=n3_;clear n0_ n1_ n2_ n3_;clear hb hbox hg)|((with_reducible refine gate_dst (N:=3) rfl ?_);refine box_event ?hg (N:=3) ?hd (cs:=#[.int .i64 a1_0,.bool a1_1,.string a1_2,.slice A1_3 l1_3.length c1_3]) (t:=49) ?hr ?_;(case hd=>rfl);(case hg=>rfl);(case hr=>first|(go_simp;done)|(go_simp;rfl));intro gb209 hg w29 hbox hb;have n0_:=Aside0.mk (blk_below (g:=gb208) (o:=.cells #[.int .i64 a0_0,.bool a0_1,.string a0_2,.slice A0_3 l0_3.length c0_3] 49 (0,0)) (by (with_reducible repeat (first|refine blk_drewN ?_ _|refine blk_drew ?_|refine blk_alloc ?_ _));exact BK208.out) hb);have n1_:=Aside0.mk (below_step (by repeat (first|(with_reducible first|exact HB.out|apply below_alloc|apply pw_below_drewN|apply below_drew1|refine below_set ?_ GE208.out)|exact HB.out)) hb);have n2_:=Aside0.mk (hbox);have n3_:=Aside0.mk ((by rw [hg];exact (below_size (by repeat (first|(with_reducible first|exact HB.out|apply below_alloc|apply pw_below_drewN|apply below_drew1|refine below_set ?_ GE208.out)|exact HB.out))) : w.heap.size ≤ gb209));have n4_:=Aside0.mk ((by rw [hg];exact (below_size (by repeat (first|(with_reducible first|exact HB.out|apply below_alloc|apply pw_below_drewN|apply below_drew1|refine below_set ?_ GE208.out)|exact HB.out))) : w.heap.size ≤ gb209));have n5_:=Aside0.mk ((by rw [hg];exact Nat.ne_of_lt (blk_lt (g:=gb208) (o:=.cells #[.int .i64 a0_0,.bool a0_1,.string a0_2,.slice A0_3 l0_3.length c0_3] 49 (0,0)) (by (with_reducible repeat (first|refine blk_drewN ?_ _|refine blk_drew ?_|refine blk_alloc ?_ _));exact BK208.out)) : gb208 ≠ gb209));have n6_:=Aside0.mk ((by rw [hg];exact Nat.ne_of_gt (blk_lt (g:=gb208) (o:=.cells #[.int .i64 a0_0,.bool a0_1,.string a0_2,.slice A0_3 l0_3.length c0_3] 49 (0,0)) (by (with_reducible repeat (first|refine blk_drewN ?_ _|refine blk_drew ?_|refine blk_alloc ?_ _));exact BK208.out)) : gb209 ≠ gb208));clear BK208;clear HB;have BK208:=n0_;have HB:=n1_;have BK209:=n2_;have GW209:=n3_;have GE209:=n4_;have NB208_209:=n5_;have NB209_208:=n6_;clear n0_ n1_ n2_ n3_ n4_ n5_ n6_;clear hb hbox hg;have hnb30:=NB208_209.out;have hnc30:=NB209_208.out;have hcz31_0 : w29.cell? ⟨gb208,0,none⟩ = some (.int .i64 a0_0):=(blk_cell BK208.out 0).trans rfl;have hcz31_1 : w29.cell? ⟨gb208,1,none⟩ = some (.bool a0_1):=(blk_cell BK208.out 1).trans rfl;have hcz31_2 : w29.cell? ⟨gb208,2,none⟩ = some (.string a0_2):=(blk_cell BK208.out 2).trans rfl;have hcz31_3 : w29.cell? ⟨gb208,3,none⟩ = some (.slice A0_3 l0_3.length c0_3):=(blk_cell BK208.out 3).trans rfl;have hfz31_0:=blk_frozen BK208.out 0;have hfz31_1:=blk_frozen BK208.out 1;have hfz31_2:=blk_frozen BK208.out 2;have hfz31_3:=blk_frozen BK208.out 3;have hcz32_0 : w29.cell? ⟨gb209,0,none⟩ = some (.int .i64 a1_0):=(blk_cell BK209.out 0).trans rfl;have hcz32_1 : w29.cell? ⟨gb209,1,none⟩ = some (.bool a1_1):=(blk_cell BK209.out 1).trans rfl;have hcz32_2 : w29.cell? ⟨gb209,2,none⟩ = some (.string a1_2):=(blk_cell BK209.out 2).trans rfl;have hcz32_3 : w29.cell? ⟨gb209,3,none⟩ = some (.slice A1_3 l1_3.length c1_3):=(blk_cell BK209.out 3).trans rfl;have hfz32_0:=blk_frozen BK209.out 0;have hfz32_1:=blk_frozen BK209.out 1;have hfz32_2:=blk_frozen BK209.out 2;have hfz32_3:=blk_frozen BK209.out 3))
  go_ret
  exact ⟨by first|rfl|(simp [errW_none,errW_some] <;> rfl)|(simp [*,errW_none,errW_some] <;> rfl),by repeat (first|(with_reducible first|exact HB.out|apply below_alloc|apply pw_below_drewN|apply below_drew1|refine below_set ?_ GE208.out|refine below_set ?_ GE209.out)|exact HB.out)⟩
def laws_eqReNodeS.l0 : Nat → List (S49) → List (S49) → Int → Option (Bool)
 | 0,_,_,_=>none
 | k + 1,x0,x1,x5=>if x5 < (x0.length : Int) then (if 0 ≤ x5 then (if x5 < (x1.length : Int) then ((laws_eqReNode.f k ((rd_T49 x0 x5).f0) ((rd_T49 x0 x5).f1) ((rd_T49 x0 x5).f2) ((rd_T49 x0 x5).f3) ((rd_T49 x1 x5).f0) ((rd_T49 x1 x5).f1) ((rd_T49 x1 x5).f2) ((rd_T49 x1 x5).f3)).bind fun t213=>(if t213 = true then (laws_eqReNodeS.l0 k x0 x1 (wrap64 (x5 + 1))) else (some false))) else (none)) else (none)) else (some true)
def laws_eqReNodeS.f (k : Nat) (l0 : List (S49)) (l1 : List (S49)) : Option (Bool):=if (l0.length : Int) = (l1.length : Int) then (laws_eqReNodeS.l0 k l0 l1 0) else (some false)
def laws_eqReNodeS.T6 : Bool × List (List Nat × List Nat):=(true,[([],[]),([],[]),([0,1],[0,1]),([2],[2]),([],[]),([],[]),([4,5],[4,5]),([6],[6]),([3,7],[3,7]),([8],[8])])
def laws_eqReNodeS.B6 : List Nat:=[0,0,3,7,0,0,48,112,255,511]
theorem laws_eqReNodeS.tab6 : rtab .any (opsOf Tryd.f15 6) = laws_eqReNodeS.T6:=by kernel_rfl
theorem laws_eqReNodeS.bits6 : waitsOk laws_eqReNodeS.T6.2 laws_eqReNodeS.B6 = true:=by kernel_rfl
set_option maxHeartbeats 8000000 in
set_option maxRecDepth 100000 in
theorem laws_eqReNodeS.calls (k : Nat) (A0 : Option Addr) (c0 : Nat) (l0 : List (S49)) (A1 : Option Addr) (c1 : Nat) (l1 : List (S49)) (r : Bool) (w : World) (hr0 : Kd.C k49 w A0 l0.length l0) (hc0 : l0.length ≤ c0) (hr1 : Kd.C k49 w A1 l1.length l1) (hc1 : l1.length ≤ c1) (h : laws_eqReNodeS.f k l0 l1 = some r) :
  Calls Tryd.prog 15 #[.slice A0 l0.length c0,.slice A1 l1.length c1] w fun e w'=>e = .returned (.bool r) ∧ Below w.heap.size w w':=by
 have hu49:=Tryd.underlying49
 have HR0:=Aside0.mk hr0
 have HC0:=Aside0.mk hc0
 clear hr0 hc0
 have HR1:=Aside0.mk hr1
 have HC1:=Aside0.mk hc1
 clear hr1 hc1
 have HB:=Aside0.mk (Below.refl w.heap.size w)
 have H : (if (l0.length : Int) = (l1.length : Int) then (laws_eqReNodeS.l0 k l0 l1 0) else (some false)) = some r:=h
 clear h
 by_cases c3 : (l0.length : Int) = (l1.length : Int)
 ·rw [if_pos c3] at H
  have c3b0 : ((l0.length : Int) == (l1.length : Int)) = true:=beq_iff_eq.mpr c3
  have c3b1 : ((l0.length : Int) != (l1.length : Int)) = false:=bne_eq_false_iff_eq.mpr c3
  have c3b2 : (l0.length == l1.length) = true:=by first|simpa using c3|(simp at c3 ⊢;omega)
  clear c3
  have H':=Aside0.mk H
  clear H
  go_enter Tryd.func15,Tryd.ntmps15
  go_wp2
  go_loopg [5] k (fun kq v5 w'=>∃ (x5_1 : Int),v5 = .int .i64 x5_1 ∧ Aside0 (laws_eqReNodeS.l0 kq l0 l1 x5_1 = some r) ∧ Aside0 (kq ≤ k) ∧ Aside0 (Below w.heap.size w w'))
  case atStart=>exact ⟨(0),(by first|rfl|(simp;done)|(simp [*];done)),H',⟨Nat.le_refl _⟩,⟨by repeat (first|(with_reducible first|exact HB.out|apply below_alloc|apply pw_below_drewN|apply below_drew1)|exact HB.out)⟩⟩
  case round =>
   clear H'
   try clear c1
   try clear p2
   try clear c3
   try clear c3b0
   try clear c3b1
   try clear c3b2
   obtain ⟨x5_1,rfl,HA,HK1,HB⟩:=hrel
   cases gk with
   | zero=>exact absurd HA.out (by simp [laws_eqReNodeS.l0])
   | succ k1 =>
    have H:=HA.out
    clear HA
    simp only [laws_eqReNodeS.l0] at H
    by_cases c4 : x5_1 < (l0.length : Int)
    ·rw [if_pos c4] at H
     have c4b0 : decide (x5_1 < (l0.length : Int)) = true:=decide_eq_true c4
     clear c4
     by_cases c5 : 0 ≤ x5_1
     ·rw [if_pos c5] at H
      have c5b0 : decide (0 ≤ x5_1) = true:=decide_eq_true c5
      clear c5
      by_cases c6 : x5_1 < (l1.length : Int)
      ·rw [if_pos c6] at H
       have c6b0 : decide (x5_1 < (l1.length : Int)) = true:=decide_eq_true c6
       clear c6
       replace H:=Option.bind_eq_some_iff.mp H
       obtain ⟨t213,A70,H⟩:=H
       replace H : (if t213 = true then (laws_eqReNodeS.l0 k1 l0 l1 (wrap64 (x5_1 + 1))) else (some false)) = some r:=H
       have A7:=Aside0.mk A70
       clear A70
       by_cases c8 : t213 = true
       ·subst c8
        have H1 : (laws_eqReNodeS.l0 k1 l0 l1 (wrap64 (x5_1 + 1))) = some r:=by rw [if_pos rfl] at H;exact H
        clear H
        have H:=H1
        clear H1
        have H':=Aside0.mk H
        clear H
        try go_wp2
        have n0_:=Aside0.mk (below_drew1 HB.out)
        clear HB
        have HB:=n0_
        clear n0_
        have p211 : 0 ≤ (x5_1 : Int):=of_decide_eq_true (by first|(with_reducible assumption)|assumption)
        have q211 : x5_1 < (l0.length : Int):=of_decide_eq_true (by first|(with_reducible assumption)|assumption)
        obtain ⟨ad211,A211_3,c211_3,e211,hx211_0,hx211_1,hx211_2,hx211_3,hl211_3,hi211_3⟩:=at_T49 HR0.out x5_1 p211 q211
        have hw211_3:=hx211_3
        have hw211_2:=hx211_2
        have hw211_1:=hx211_1
        have hw211_0:=hx211_0
        cases e211
        replace hx211_0:=(HB.out.cell (World.block_lt_of_cell? w _ hx211_0)).trans hx211_0
        replace hx211_1:=(HB.out.cell (World.block_lt_of_cell? w _ hx211_1)).trans hx211_1
        replace hx211_2:=(HB.out.cell (World.block_lt_of_cell? w _ hx211_2)).trans hx211_2
        replace hx211_3:=(HB.out.cell (World.block_lt_of_cell? w _ hx211_3)).trans hx211_3
        have HR211_3:=Aside0.mk hi211_3
        have HC211_3:=Aside0.mk hl211_3
        clear hi211_3 hl211_3
        replace p211:=eq_true p211
        replace q211:=eq_true q211
        have p212 : 0 ≤ (x5_1 : Int):=of_decide_eq_true (by first|(with_reducible assumption)|assumption)
        have q212 : x5_1 < (l1.length : Int):=of_decide_eq_true (by first|(with_reducible assumption)|assumption)
        obtain ⟨ad212,A212_3,c212_3,e212,hx212_0,hx212_1,hx212_2,hx212_3,hl212_3,hi212_3⟩:=at_T49 HR1.out x5_1 p212 q212
        have hw212_3:=hx212_3
        have hw212_2:=hx212_2
        have hw212_1:=hx212_1
        have hw212_0:=hx212_0
        cases e212
        replace hx212_0:=(HB.out.cell (World.block_lt_of_cell? w _ hx212_0)).trans hx212_0
        replace hx212_1:=(HB.out.cell (World.block_lt_of_cell? w _ hx212_1)).trans hx212_1
        replace hx212_2:=(HB.out.cell (World.block_lt_of_cell? w _ hx212_2)).trans hx212_2
        replace hx212_3:=(HB.out.cell (World.block_lt_of_cell? w _ hx212_3)).trans hx212_3
        have HR212_3:=Aside0.mk hi212_3
        have HC212_3:=Aside0.mk hl212_3
        clear hi212_3 hl212_3
        replace p212:=eq_true p212
        replace q212:=eq_true q212
        refine start_ (n:=10) (S:=fun w'=>w'.cell? (ad211.add ((x5_1).toNat * 4)) = some (.int .i64 ((rd_T49 l0 x5_1).f0)) ∧ w'.cell? ⟨(ad211.add ((x5_1).toNat * 4)).block,(ad211.add ((x5_1).toNat * 4)).off + 1,none⟩ = some (.bool ((rd_T49 l0 x5_1).f1)) ∧ w'.cell? ⟨(ad211.add ((x5_1).toNat * 4)).block,(ad211.add ((x5_1).toNat * 4)).off + 2,none⟩ = some (.string ((rd_T49 l0 x5_1).f2)) ∧ w'.cell? ⟨(ad211.add ((x5_1).toNat * 4)).block,(ad211.add ((x5_1).toNat * 4)).off + 3,none⟩ = some (.slice A211_3 ((rd_T49 l0 x5_1).f3).length c211_3) ∧ w'.cell? (ad212.add ((x5_1).toNat * 4)) = some (.int .i64 ((rd_T49 l1 x5_1).f0)) ∧ w'.cell? ⟨(ad212.add ((x5_1).toNat * 4)).block,(ad212.add ((x5_1).toNat * 4)).off + 1,none⟩ = some (.bool ((rd_T49 l1 x5_1).f1)) ∧ w'.cell? ⟨(ad212.add ((x5_1).toNat * 4)).block,(ad212.add ((x5_1).toNat * 4)).off + 2,none⟩ = some (.string ((rd_T49 l1 x5_1).f2)) ∧ w'.cell? ⟨(ad212.add ((x5_1).toNat * 4)).block,(ad212.add ((x5_1).toNat * 4)).off + 3,none⟩ = some (.slice A212_3 ((rd_T49 l1 x5_1).f3).length c212_3)) (ds:=[]) #[false,false,false,false,false,false,false,false,false,false] (by kernel_rfl) rfl rfl ⟨((HB.out.cell (World.block_lt_of_cell? w _ hw211_0)).trans hw211_0),((HB.out.cell (World.block_lt_of_cell? w _ hw211_1)).trans hw211_1),((HB.out.cell (World.block_lt_of_cell? w _ hw211_2)).trans hw211_2),((HB.out.cell (World.block_lt_of_cell? w _ hw211_3)).trans hw211_3),((HB.out.cell (World.block_lt_of_cell? w _ hw212_0)).trans hw212_0),((HB.out.cell (World.block_lt_of_cell? w _ hw212_1)).trans hw212_1),((HB.out.cell (World.block_lt_of_cell? w _ hw212_2)).trans hw212_2),((HB.out.cell (World.block_lt_of_cell? w _ hw212_3)).trans hw212_3)⟩ (fun hHeld=>?_);refine with_tabW laws_eqReNodeS.tab6 laws_eqReNodeS.bits6 (fun HT_ HW_=>?_)
        generalize wr.drew = w9 at HB HR211_3 HR212_3 hx211_0 hx211_1 hx211_2 hx211_3 hx212_0 hx212_1 hx212_2 hx212_3 hHeld ⊢
        refine pure_ (i:=0) (N:=some 17) (v:=?_) (a':=?_) #[true,false,false,false,false,false,false,false,false,false] rfl rfl (any_of HT_.out (by kernel_rfl)) (fun _ _ _ h=>h) (Or.inl ⟨by rfl,?_⟩) ?_ ?_
        rotate_left
        ·intro w'
         go_simp
         first|with_reducible rfl|(rw [if_neg (by simp only [ByteArray.size_append,ByteArray.size_extract,eq_iff_iff,iff_true,iff_false] at *;omega)];try with_reducible rfl)
        rotate_left
        ·simp only [Act.put,List.setIfInBounds_toArray,List.set_cons_zero,List.set_cons_succ,i64_w,i32_w]
         rfl
        refine pure_ (i:=1) (N:=some 18) (v:=?_) (a':=?_) #[true,true,false,false,false,false,false,false,false,false] rfl rfl (any_of HT_.out (by kernel_rfl)) (fun _ _ _ h=>h) (Or.inl ⟨by rfl,?_⟩) ?_ ?_
        rotate_left
        ·intro w'
         go_simp
         first|with_reducible rfl|(rw [if_neg (by simp only [ByteArray.size_append,ByteArray.size_extract,eq_iff_iff,iff_true,iff_false] at *;omega)];try with_reducible rfl)
        rotate_left
        ·simp only [Act.put,List.setIfInBounds_toArray,List.set_cons_zero,List.set_cons_succ,i64_w,i32_w]
         rfl
        refine pure_ (i:=2) (N:=some 19) (v:=?_) (a':=?_) #[true,true,true,false,false,false,false,false,false,false] rfl rfl (any_of HT_.out (by kernel_rfl)) (fun _ _ _ h=>h) (Or.inl ⟨by rfl,?_⟩) ?_ ?_
        rotate_left
        ·intro w'
         go_simp
         first|with_reducible rfl|(rw [if_neg (by simp only [ByteArray.size_append,ByteArray.size_extract,eq_iff_iff,iff_true,iff_false] at *;omega)];try with_reducible rfl)
        rotate_left
        ·simp only [Act.put,List.setIfInBounds_toArray,List.set_cons_zero,List.set_cons_succ,i64_w,i32_w]
         rfl
        refine pure_ (i:=4) (N:=some 21) (v:=?_) (a':=?_) #[true,true,true,false,true,false,false,false,false,false] rfl rfl (any_of HT_.out (by kernel_rfl)) (fun _ _ _ h=>h) (Or.inl ⟨by rfl,?_⟩) ?_ ?_
        rotate_left
        ·intro w'
         go_simp
         first|with_reducible rfl|(rw [if_neg (by simp only [ByteArray.size_append,ByteArray.size_extract,eq_iff_iff,iff_true,iff_false] at *;omega)];try with_reducible rfl)
        rotate_left
        ·simp only [Act.put,List.setIfInBounds_toArray,List.set_cons_zero,List.set_cons_succ,i64_w,i32_w]
         rfl
        refine pure_ (i:=5) (N:=some 22) (v:=?_) (a':=?_) #[true,true,true,false,true,true,false,false,false,false] rfl rfl (any_of HT_.out (by kernel_rfl)) (fun _ _ _ h=>h) (Or.inl ⟨by rfl,?_⟩) ?_ ?_
        rotate_left
        ·intro w'
         go_simp
         first|with_reducible rfl|(rw [if_neg (by simp only [ByteArray.size_append,ByteArray.size_extract,eq_iff_iff,iff_true,iff_false] at *;omega)];try with_reducible rfl)
        rotate_left
        ·simp only [Act.put,List.setIfInBounds_toArray,List.set_cons_zero,List.set_cons_succ,i64_w,i32_w]
         rfl
        refine pure_ (i:=6) (N:=some 23) (v:=?_) (a':=?_) #[true,true,true,false,true,true,true,false,false,false] rfl rfl (any_of HT_.out (by kernel_rfl)) (fun _ _ _ h=>h) (Or.inl ⟨by rfl,?_⟩) ?_ ?_
        rotate_left
        ·intro w'
         go_simp
         first|with_reducible rfl|(rw [if_neg (by simp only [ByteArray.size_append,ByteArray.size_extract,eq_iff_iff,iff_true,iff_false] at *;omega)];try with_reducible rfl)
        rotate_left
        ·simp only [Act.put,List.setIfInBounds_toArray,List.set_cons_zero,List.set_cons_succ,i64_w,i32_w]
         rfl
        refine take_ (i:=3) (N:=some 20) (v:=?_) (a':=?_) #[true,true,true,true,true,true,true,false,false,false] rfl rfl (take_ofW HT_.out HW_.out (by kernel_rfl)) (fun _ _ _ h=>h) (Or.inl ⟨by rfl,?_⟩) hHeld ?_ ?_
        rotate_left
        ·rintro w' ⟨s0,s1,s2,s3,s4,s5,s6,s7⟩
         go_simp
         first|with_reducible rfl|(rw [if_neg (by simp only [ByteArray.size_append,ByteArray.size_extract,eq_iff_iff,iff_true,iff_false] at *;omega)];try with_reducible rfl)
        rotate_left
        ·simp only [Act.put,List.setIfInBounds_toArray,List.set_cons_zero,List.set_cons_succ,i64_w,i32_w]
         rfl
        refine take_ (i:=7) (N:=some 24) (v:=?_) (a':=?_) #[true,true,true,true,true,true,true,true,false,false] rfl rfl (take_ofW HT_.out HW_.out (by kernel_rfl)) (fun _ _ _ h=>h) (Or.inl ⟨by rfl,?_⟩) hHeld ?_ ?_
        rotate_left
        ·rintro w' ⟨s0,s1,s2,s3,s4,s5,s6,s7⟩
         go_simp
         first|with_reducible rfl|(rw [if_neg (by simp only [ByteArray.size_append,ByteArray.size_extract,eq_iff_iff,iff_true,iff_false] at *;omega)];try with_reducible rfl)
        rotate_left
        ·simp only [Act.put,List.setIfInBounds_toArray,List.set_cons_zero,List.set_cons_succ,i64_w,i32_w]
         rfl
        refine one_ (i:=8) (N:=some 25) #[true,true,true,true,true,true,true,true,true,false] rfl rfl (one_of HT_.out (by kernel_rfl)) (by decide) (fun K hK=>?_)
        refine goes_ Tryd.func43 (by kernel_rfl) rfl #[.agg #[.int .i64 ((rd_T49 l0 x5_1).f0),.bool ((rd_T49 l0 x5_1).f1),.string ((rd_T49 l0 x5_1).f2),.slice A211_3 ((rd_T49 l0 x5_1).f3).length c211_3],.agg #[.int .i64 ((rd_T49 l1 x5_1).f0),.bool ((rd_T49 l1 x5_1).f1),.string ((rd_T49 l1 x5_1).f2),.slice A212_3 ((rd_T49 l1 x5_1).f3).length c212_3]] (by rfl) rfl rfl (by (try simp only [List.map_toArray,List.map_cons,List.map_nil]);first|done|rfl|(simp only [List.length_drop,List.length_take];rfl)) ?_
        with_reducible refine (laws_eqReNode.calls k1 ((rd_T49 l0 x5_1).f0) ((rd_T49 l0 x5_1).f1) ((rd_T49 l0 x5_1).f2) _ _ ((rd_T49 l0 x5_1).f3) ((rd_T49 l1 x5_1).f0) ((rd_T49 l1 x5_1).f1) ((rd_T49 l1 x5_1).f2) _ _ ((rd_T49 l1 x5_1).f3) true _ ?side1 ?side2 ?side3 ?side4 A7.out).mono ?_
        (case side1=>repeat (first|exact (Kd.C_below HR211_3.out HB.out)|(with_reducible refine Kd.C_alloc ?_ _)|(with_reducible refine Kd.C_drewN ?_ _)|(with_reducible refine Kd.C_drew ?_)))
        (case side2=>exact HC211_3.out)
        (case side3=>repeat (first|exact (Kd.C_below HR212_3.out HB.out)|(with_reducible refine Kd.C_alloc ?_ _)|(with_reducible refine Kd.C_drewN ?_ _)|(with_reducible refine Kd.C_drew ?_)))
        (case side4=>exact HC212_3.out)
        rintro e w10 ⟨rfl,hb⟩
        refine ⟨_,rfl,?_⟩
        have n0_:=Aside0.mk (below_step (by repeat (first|(with_reducible first|exact HB.out|apply below_alloc|apply pw_below_drewN|apply below_drew1)|exact HB.out)) hb)
        clear HB
        have HB:=n0_
        clear n0_
        (try clear hb)
        (try clear hb2)
        (try clear hk)
        (try clear hi)
        refine hK.out _ _ ⟨((HB.out.cell (World.block_lt_of_cell? w _ hw211_0)).trans hw211_0),((HB.out.cell (World.block_lt_of_cell? w _ hw211_1)).trans hw211_1),((HB.out.cell (World.block_lt_of_cell? w _ hw211_2)).trans hw211_2),((HB.out.cell (World.block_lt_of_cell? w _ hw211_3)).trans hw211_3),((HB.out.cell (World.block_lt_of_cell? w _ hw212_0)).trans hw212_0),((HB.out.cell (World.block_lt_of_cell? w _ hw212_1)).trans hw212_1),((HB.out.cell (World.block_lt_of_cell? w _ hw212_2)).trans hw212_2),((HB.out.cell (World.block_lt_of_cell? w _ hw212_3)).trans hw212_3)⟩ (fun hHeld=>?_)
        clear hK K
        refine norm_ (a':=?_) ?_ ?_
        rotate_left
        ·show Act.put _ (some 25) _ = _
         simp only [Act.put,List.setIfInBounds_toArray,List.set_cons_zero,List.set_cons_succ,i64_w,i32_w]
         rfl
        refine pure_ (i:=9) (N:=some 26) (v:=?_) (a':=?_) #[true,true,true,true,true,true,true,true,true,true] rfl rfl (any_of HT_.out (by kernel_rfl)) (fun _ _ _ h=>h) (Or.inl ⟨by rfl,?_⟩) ?_ ?_
        rotate_left
        ·intro w'
         go_simp
         first|with_reducible rfl|(rw [if_neg (by simp only [ByteArray.size_append,ByteArray.size_extract,eq_iff_iff,iff_true,iff_false] at *;omega)];try with_reducible rfl)
        rotate_left
        ·simp only [Act.put,List.setIfInBounds_toArray,List.set_cons_zero,List.set_cons_succ,i64_w,i32_w]
         rfl
        refine done_ (done_of HT_.out (by kernel_rfl)) ?_
        try go_wp2
        go_roundg k1
        case measure=>have:=HK1.out;omega
        case rel=>exact ⟨(wrap64 (x5_1 + 1)),(by first|rfl|(simp;done)|(simp [*];done)),H',⟨by have:=HK1.out;omega⟩,⟨by repeat (first|(with_reducible first|exact HB.out|apply below_alloc|apply pw_below_drewN|apply below_drew1)|exact HB.out)⟩⟩
       ·replace c8:=Bool.eq_false_iff.mpr c8
        subst c8
        have H1 : (some false) = some r:=by rw [if_neg (show ¬ (false = true) by decide)] at H;exact H
        clear H
        have H:=H1
        clear H1
        obtain rfl:=Option.some.inj H
        try go_wp2
        have n0_:=Aside0.mk (below_drew1 HB.out)
        clear HB
        have HB:=n0_
        clear n0_
        have p211 : 0 ≤ (x5_1 : Int):=of_decide_eq_true (by first|(with_reducible assumption)|assumption)
        have q211 : x5_1 < (l0.length : Int):=of_decide_eq_true (by first|(with_reducible assumption)|assumption)
        obtain ⟨ad211,A211_3,c211_3,e211,hx211_0,hx211_1,hx211_2,hx211_3,hl211_3,hi211_3⟩:=at_T49 HR0.out x5_1 p211 q211
        have hw211_3:=hx211_3
        have hw211_2:=hx211_2
        have hw211_1:=hx211_1
        have hw211_0:=hx211_0
        cases e211
        replace hx211_0:=(HB.out.cell (World.block_lt_of_cell? w _ hx211_0)).trans hx211_0
        replace hx211_1:=(HB.out.cell (World.block_lt_of_cell? w _ hx211_1)).trans hx211_1
        replace hx211_2:=(HB.out.cell (World.block_lt_of_cell? w _ hx211_2)).trans hx211_2
        replace hx211_3:=(HB.out.cell (World.block_lt_of_cell? w _ hx211_3)).trans hx211_3
        have HR211_3:=Aside0.mk hi211_3
        have HC211_3:=Aside0.mk hl211_3
        clear hi211_3 hl211_3
        replace p211:=eq_true p211
        replace q211:=eq_true q211
        have p212 : 0 ≤ (x5_1 : Int):=of_decide_eq_true (by first|(with_reducible assumption)|assumption)
        have q212 : x5_1 < (l1.length : Int):=of_decide_eq_true (by first|(with_reducible assumption)|assumption)
        obtain ⟨ad212,A212_3,c212_3,e212,hx212_0,hx212_1,hx212_2,hx212_3,hl212_3,hi212_3⟩:=at_T49 HR1.out x5_1 p212 q212
        have hw212_3:=hx212_3
        have hw212_2:=hx212_2
        have hw212_1:=hx212_1
        have hw212_0:=hx212_0
        cases e212
        replace hx212_0:=(HB.out.cell (World.block_lt_of_cell? w _ hx212_0)).trans hx212_0
        replace hx212_1:=(HB.out.cell (World.block_lt_of_cell? w _ hx212_1)).trans hx212_1
        replace hx212_2:=(HB.out.cell (World.block_lt_of_cell? w _ hx212_2)).trans hx212_2
        replace hx212_3:=(HB.out.cell (World.block_lt_of_cell? w _ hx212_3)).trans hx212_3
        have HR212_3:=Aside0.mk hi212_3
        have HC212_3:=Aside0.mk hl212_3
        clear hi212_3 hl212_3
        replace p212:=eq_true p212
        replace q212:=eq_true q212
        refine start_ (n:=10) (S:=fun w'=>w'.cell? (ad211.add ((x5_1).toNat * 4)) = some (.int .i64 ((rd_T49 l0 x5_1).f0)) ∧ w'.cell? ⟨(ad211.add ((x5_1).toNat * 4)).block,(ad211.add ((x5_1).toNat * 4)).off + 1,none⟩ = some (.bool ((rd_T49 l0 x5_1).f1)) ∧ w'.cell? ⟨(ad211.add ((x5_1).toNat * 4)).block,(ad211.add ((x5_1).toNat * 4)).off + 2,none⟩ = some (.string ((rd_T49 l0 x5_1).f2)) ∧ w'.cell? ⟨(ad211.add ((x5_1).toNat * 4)).block,(ad211.add ((x5_1).toNat * 4)).off + 3,none⟩ = some (.slice A211_3 ((rd_T49 l0 x5_1).f3).length c211_3) ∧ w'.cell? (ad212.add ((x5_1).toNat * 4)) = some (.int .i64 ((rd_T49 l1 x5_1).f0)) ∧ w'.cell? ⟨(ad212.add ((x5_1).toNat * 4)).block,(ad212.add ((x5_1).toNat * 4)).off + 1,none⟩ = some (.bool ((rd_T49 l1 x5_1).f1)) ∧ w'.cell? ⟨(ad212.add ((x5_1).toNat * 4)).block,(ad212.add ((x5_1).toNat * 4)).off + 2,none⟩ = some (.string ((rd_T49 l1 x5_1).f2)) ∧ w'.cell? ⟨(ad212.add ((x5_1).toNat * 4)).block,(ad212.add ((x5_1).toNat * 4)).off + 3,none⟩ = some (.slice A212_3 ((rd_T49 l1 x5_1).f3).length c212_3)) (ds:=[]) #[false,false,false,false,false,false,false,false,false,false] (by kernel_rfl) rfl rfl ⟨((HB.out.cell (World.block_lt_of_cell? w _ hw211_0)).trans hw211_0),((HB.out.cell (World.block_lt_of_cell? w _ hw211_1)).trans hw211_1),((HB.out.cell (World.block_lt_of_cell? w _ hw211_2)).trans hw211_2),((HB.out.cell (World.block_lt_of_cell? w _ hw211_3)).trans hw211_3),((HB.out.cell (World.block_lt_of_cell? w _ hw212_0)).trans hw212_0),((HB.out.cell (World.block_lt_of_cell? w _ hw212_1)).trans hw212_1),((HB.out.cell (World.block_lt_of_cell? w _ hw212_2)).trans hw212_2),((HB.out.cell (World.block_lt_of_cell? w _ hw212_3)).trans hw212_3)⟩ (fun hHeld=>?_);refine with_tabW laws_eqReNodeS.tab6 laws_eqReNodeS.bits6 (fun HT_ HW_=>?_)
        generalize wr.drew = w11 at HB HR211_3 HR212_3 hx211_0 hx211_1 hx211_2 hx211_3 hx212_0 hx212_1 hx212_2 hx212_3 hHeld ⊢
        refine pure_ (i:=0) (N:=some 17) (v:=?_) (a':=?_) #[true,false,false,false,false,false,false,false,false,false] rfl rfl (any_of HT_.out (by kernel_rfl)) (fun _ _ _ h=>h) (Or.inl ⟨by rfl,?_⟩) ?_ ?_
        rotate_left
        ·intro w'
         go_simp
         first|with_reducible rfl|(rw [if_neg (by simp only [ByteArray.size_append,ByteArray.size_extract,eq_iff_iff,iff_true,iff_false] at *;omega)];try with_reducible rfl)
        rotate_left
        ·simp only [Act.put,List.setIfInBounds_toArray,List.set_cons_zero,List.set_cons_succ,i64_w,i32_w]
         rfl
        refine pure_ (i:=1) (N:=some 18) (v:=?_) (a':=?_) #[true,true,false,false,false,false,false,false,false,false] rfl rfl (any_of HT_.out (by kernel_rfl)) (fun _ _ _ h=>h) (Or.inl ⟨by rfl,?_⟩) ?_ ?_
        rotate_left
        ·intro w'
         go_simp
         first|with_reducible rfl|(rw [if_neg (by simp only [ByteArray.size_append,ByteArray.size_extract,eq_iff_iff,iff_true,iff_false] at *;omega)];try with_reducible rfl)
        rotate_left
        ·simp only [Act.put,List.setIfInBounds_toArray,List.set_cons_zero,List.set_cons_succ,i64_w,i32_w]
         rfl
        refine pure_ (i:=2) (N:=some 19) (v:=?_) (a':=?_) #[true,true,true,false,false,false,false,false,false,false] rfl rfl (any_of HT_.out (by kernel_rfl)) (fun _ _ _ h=>h) (Or.inl ⟨by rfl,?_⟩) ?_ ?_
        rotate_left
        ·intro w'
         go_simp
         first|with_reducible rfl|(rw [if_neg (by simp only [ByteArray.size_append,ByteArray.size_extract,eq_iff_iff,iff_true,iff_false] at *;omega)];try with_reducible rfl)
        rotate_left
        ·simp only [Act.put,List.setIfInBounds_toArray,List.set_cons_zero,List.set_cons_succ,i64_w,i32_w]
         rfl
        refine pure_ (i:=4) (N:=some 21) (v:=?_) (a':=?_) #[true,true,true,false,true,false,false,false,false,false] rfl rfl (any_of HT_.out (by kernel_rfl)) (fun _ _ _ h=>h) (Or.inl ⟨by rfl,?_⟩) ?_ ?_
        rotate_left
        ·intro w'
         go_simp
         first|with_reducible rfl|(rw [if_neg (by simp only [ByteArray.size_append,ByteArray.size_extract,eq_iff_iff,iff_true,iff_false] at *;omega)];try with_reducible rfl)
        rotate_left
        ·simp only [Act.put,List.setIfInBounds_toArray,List.set_cons_zero,List.set_cons_succ,i64_w,i32_w]
         rfl
        refine pure_ (i:=5) (N:=some 22) (v:=?_) (a':=?_) #[true,true,true,false,true,true,false,false,false,false] rfl rfl (any_of HT_.out (by kernel_rfl)) (fun _ _ _ h=>h) (Or.inl ⟨by rfl,?_⟩) ?_ ?_
        rotate_left
        ·intro w'
         go_simp
         first|with_reducible rfl|(rw [if_neg (by simp only [ByteArray.size_append,ByteArray.size_extract,eq_iff_iff,iff_true,iff_false] at *;omega)];try with_reducible rfl)
        rotate_left
        ·simp only [Act.put,List.setIfInBounds_toArray,List.set_cons_zero,List.set_cons_succ,i64_w,i32_w]
         rfl
        refine pure_ (i:=6) (N:=some 23) (v:=?_) (a':=?_) #[true,true,true,false,true,true,true,false,false,false] rfl rfl (any_of HT_.out (by kernel_rfl)) (fun _ _ _ h=>h) (Or.inl ⟨by rfl,?_⟩) ?_ ?_
        rotate_left
        ·intro w'
         go_simp
         first|with_reducible rfl|(rw [if_neg (by simp only [ByteArray.size_append,ByteArray.size_extract,eq_iff_iff,iff_true,iff_false] at *;omega)];try with_reducible rfl)
        rotate_left
        ·simp only [Act.put,List.setIfInBounds_toArray,List.set_cons_zero,List.set_cons_succ,i64_w,i32_w]
         rfl
        refine take_ (i:=3) (N:=some 20) (v:=?_) (a':=?_) #[true,true,true,true,true,true,true,false,false,false] rfl rfl (take_ofW HT_.out HW_.out (by kernel_rfl)) (fun _ _ _ h=>h) (Or.inl ⟨by rfl,?_⟩) hHeld ?_ ?_
        rotate_left
        ·rintro w' ⟨s0,s1,s2,s3,s4,s5,s6,s7⟩
         go_simp
         first|with_reducible rfl|(rw [if_neg (by simp only [ByteArray.size_append,ByteArray.size_extract,eq_iff_iff,iff_true,iff_false] at *;omega)];try with_reducible rfl)
        rotate_left
        ·simp only [Act.put,List.setIfInBounds_toArray,List.set_cons_zero,List.set_cons_succ,i64_w,i32_w]
         rfl
        refine take_ (i:=7) (N:=some 24) (v:=?_) (a':=?_) #[true,true,true,true,true,true,true,true,false,false] rfl rfl (take_ofW HT_.out HW_.out (by kernel_rfl)) (fun _ _ _ h=>h) (Or.inl ⟨by rfl,?_⟩) hHeld ?_ ?_
        rotate_left
        ·rintro w' ⟨s0,s1,s2,s3,s4,s5,s6,s7⟩
         go_simp
         first|with_reducible rfl|(rw [if_neg (by simp only [ByteArray.size_append,ByteArray.size_extract,eq_iff_iff,iff_true,iff_false] at *;omega)];try with_reducible rfl)
        rotate_left
        ·simp only [Act.put,List.setIfInBounds_toArray,List.set_cons_zero,List.set_cons_succ,i64_w,i32_w]
         rfl
        refine one_ (i:=8) (N:=some 25) #[true,true,true,true,true,true,true,true,true,false] rfl rfl (one_of HT_.out (by kernel_rfl)) (by decide) (fun K hK=>?_)
        refine goes_ Tryd.func43 (by kernel_rfl) rfl #[.agg #[.int .i64 ((rd_T49 l0 x5_1).f0),.bool ((rd_T49 l0 x5_1).f1),.string ((rd_T49 l0 x5_1).f2),.slice A211_3 ((rd_T49 l0 x5_1).f3).length c211_3],.agg #[.int .i64 ((rd_T49 l1 x5_1).f0),.bool ((rd_T49 l1 x5_1).f1),.string ((rd_T49 l1 x5_1).f2),.slice A212_3 ((rd_T49 l1 x5_1).f3).length c212_3]] (by rfl) rfl rfl (by (try simp only [List.map_toArray,List.map_cons,List.map_nil]);first|done|rfl|(simp only [List.length_drop,List.length_take];rfl)) ?_
        with_reducible refine (laws_eqReNode.calls k1 ((rd_T49 l0 x5_1).f0) ((rd_T49 l0 x5_1).f1) ((rd_T49 l0 x5_1).f2) _ _ ((rd_T49 l0 x5_1).f3) ((rd_T49 l1 x5_1).f0) ((rd_T49 l1 x5_1).f1) ((rd_T49 l1 x5_1).f2) _ _ ((rd_T49 l1 x5_1).f3) false _ ?side1 ?side2 ?side3 ?side4 A7.out).mono ?_
        (case side1=>repeat (first|exact (Kd.C_below HR211_3.out HB.out)|(with_reducible refine Kd.C_alloc ?_ _)|(with_reducible refine Kd.C_drewN ?_ _)|(with_reducible refine Kd.C_drew ?_)))
        (case side2=>exact HC211_3.out)
        (case side3=>repeat (first|exact (Kd.C_below HR212_3.out HB.out)|(with_reducible refine Kd.C_alloc ?_ _)|(with_reducible refine Kd.C_drewN ?_ _)|(with_reducible refine Kd.C_drew ?_)))
        (case side4=>exact HC212_3.out)
        rintro e w12 ⟨rfl,hb⟩
        refine ⟨_,rfl,?_⟩
        have n0_:=Aside0.mk (below_step (by repeat (first|(with_reducible first|exact HB.out|apply below_alloc|apply pw_below_drewN|apply below_drew1)|exact HB.out)) hb)
        clear HB
        have HB:=n0_
        clear n0_
        (try clear hb)
        (try clear hb2)
        (try clear hk)
        (try clear hi)
        refine hK.out _ _ ⟨((HB.out.cell (World.block_lt_of_cell? w _ hw211_0)).trans hw211_0),((HB.out.cell (World.block_lt_of_cell? w _ hw211_1)).trans hw211_1),((HB.out.cell (World.block_lt_of_cell? w _ hw211_2)).trans hw211_2),((HB.out.cell (World.block_lt_of_cell? w _ hw211_3)).trans hw211_3),((HB.out.cell (World.block_lt_of_cell? w _ hw212_0)).trans hw212_0),((HB.out.cell (World.block_lt_of_cell? w _ hw212_1)).trans hw212_1),((HB.out.cell (World.block_lt_of_cell? w _ hw212_2)).trans hw212_2),((HB.out.cell (World.block_lt_of_cell? w _ hw212_3)).trans hw212_3)⟩ (fun hHeld=>?_)
        clear hK K
        refine norm_ (a':=?_) ?_ ?_
        rotate_left
        ·show Act.put _ (some 25) _ = _
         simp only [Act.put,List.setIfInBounds_toArray,List.set_cons_zero,List.set_cons_succ,i64_w,i32_w]
         rfl
        refine pure_ (i:=9) (N:=some 26) (v:=?_) (a':=?_) #[true,true,true,true,true,true,true,true,true,true] rfl rfl (any_of HT_.out (by kernel_rfl)) (fun _ _ _ h=>h) (Or.inl ⟨by rfl,?_⟩) ?_ ?_
        rotate_left
        ·intro w'
         go_simp
         first|with_reducible rfl|(rw [if_neg (by simp only [ByteArray.size_append,ByteArray.size_extract,eq_iff_iff,iff_true,iff_false] at *;omega)];try with_reducible rfl)
        rotate_left
        ·simp only [Act.put,List.setIfInBounds_toArray,List.set_cons_zero,List.set_cons_succ,i64_w,i32_w]
         rfl
        refine done_ (done_of HT_.out (by kernel_rfl)) ?_
        try go_wp2
        go_ret
        exact ⟨by first|rfl|(simp [errW_none,errW_some] <;> rfl)|(simp [*,errW_none,errW_some] <;> rfl),by repeat (first|(with_reducible first|exact HB.out|apply below_alloc|apply pw_below_drewN|apply below_drew1)|exact HB.out)⟩
      ·rw [if_neg c6] at H
       exact absurd H (by simp)
     ·rw [if_neg c5] at H
      exact absurd H (by simp)
    ·rw [if_neg c4] at H
     have c4b0 : decide (x5_1 < (l0.length : Int)) = false:=decide_eq_false c4
     clear c4
     obtain rfl:=Option.some.inj H
     go_wp2
     go_ret
     exact ⟨by first|rfl|(simp [errW_none,errW_some] <;> rfl)|(simp [*,errW_none,errW_some] <;> rfl),by repeat (first|(with_reducible first|exact HB.out|apply below_alloc|apply pw_below_drewN|apply below_drew1)|exact HB.out)⟩
 ·rw [if_neg c3] at H
  have c3b0 : ((l0.length : Int) == (l1.length : Int)) = false:=beq_eq_false_iff_ne.mpr c3
  have c3b1 : ((l0.length : Int) != (l1.length : Int)) = true:=bne_iff_ne.mpr c3
  have c3b2 : (l0.length == l1.length) = false:=by first|simpa using c3|(simp at c3 ⊢;omega)
  obtain rfl:=Option.some.inj H
  go_enter Tryd.func15,Tryd.ntmps15
  go_wp2
  go_ret
  exact ⟨by first|rfl|(simp [errW_none,errW_some] <;> rfl)|(simp [*,errW_none,errW_some] <;> rfl),by repeat (first|(with_reducible first|exact HB.out|apply below_alloc|apply pw_below_drewN|apply below_drew1)|exact HB.out)⟩
end Go.Proofs.YtlakdfbfkbndiaaDoor.Q
set_option linter.unusedVariables false
namespace Go.Proofs.YtlakdfbfkbndiaaDoor.Q
open Go.RowKit Go.Proofs.YtlakdfbfkbndiaaDoor.Re Go.Proofs.YtlakdfbfkbndiaaDoorW.PrintWords Go.Proofs.YtlakdfbfkbndiaaDoorW.PrintLast Go.Proofs.YtlakdfbfkbndiaaDoorW.PrintMore
def EndsFacts (k : Nat) (l0 : List S56) (s : ByteArray) (i : Int) : Prop := ∃ z, laws_szReNodeS.f k l0 1048576 = some z ∧ (z < 0 ∨ 0 ≤ z ∧ ∃ (m : List S49) (r r' : List Int) (q k1 : Int), laws_toReNodeS.f k l0 = some m ∧ spec_ReEnds.f k m s i = some r ∧ impl_ReEnds.f m s i = some r ∧ laws_eqIntS.f k r r = some true ∧ laws_eqReNodeS.f k m m = some true ∧ laws_markReNodeS.f m 1 = some q ∧ 0 ≤ q ∧ laws_markIntS.f k r 1 = some (k1, r') ∧ laws_heldIntS.f k r' 1 = some k1 ∧ 0 ≤ k1)
open Classical in
noncomputable def laws_FnExactReEnds.f (k : Nat) (l0 : List S56) (s : ByteArray) (i : Int) : Option Bool := if (s.size : Int) > 1048576 ∨ ((s.size : Int) ≤ 1048576 ∧ EndsFacts k l0 s i) then some true else none
set_option maxHeartbeats 8000000 in
set_option maxRecDepth 100000 in
theorem laws_FnExactReEnds.calls (k : Nat) (A0 : Option Addr) (c0 : Nat) (l0 : List S56) (a1 : ByteArray) (a2 : Int) (r : Bool) (w : World) (hr0 : Kd.C k56 w A0 l0.length l0) (hc0 : l0.length ≤ c0) (h : laws_FnExactReEnds.f k l0 a1 a2 = some r) (hT : Tabs w) :
    Calls Tryd.prog 5 #[.slice A0 l0.length c0, .string a1, .int .i64 a2] w fun e w' => e = .returned (.bool r) ∧ Below w.heap.size w w' := by
  unfold laws_FnExactReEnds.f at h
  split at h
  case isFalse => cases h
  rename_i hh
  obtain rfl := Option.some.inj h
  clear h
  have HT := Aside0.mk hT
  have HR := Aside0.mk hr0
  have HC := Aside0.mk hc0
  clear hT hr0 hc0
  rcases hh with hbig | ⟨hsm, z, hz, hh⟩
  · have hb0 : ((1048576 : Int) < (a1.size : Int)) = True := eq_true hbig
    clear hbig
    go_enter Tryd.func5, Tryd.ntmps5
    go_wp2_with fail
    go_ret
    exact ⟨rfl, Below.refl _ _⟩
  · have hb0 : ((1048576 : Int) < (a1.size : Int)) = False := eq_false (by omega)
    have HZ := Aside0.mk hz
    have HH := Aside0.mk hh
    clear hsm hz hh
    go_enter Tryd.func5, Tryd.ntmps5
    go_wp2_with fail
    refine (laws_szReNodeS.calls k _ _ l0 1048576 z w HR.out HC.out HZ.out).mono ?_
    rintro e w1 ⟨rfl, hb1⟩
    dsimp only
    have HB1 := Aside0.mk hb1
    clear hb1
    rcases HH.out with hz0 | ⟨hz0, m, r, r', q, k1, f1, f2, f3, f4, f5, f6, f7, f8, f9, f10⟩
    · have hz1 : (z < 0) = True := eq_true hz0
      clear hz0
      go_wp2_with fail
      go_ret
      exact ⟨rfl, HB1.out⟩
    · have hz1 : (z < 0) = False := eq_false (by omega)
      have HF := Aside0.mk (And.intro f1 (And.intro f2 (And.intro f3 (And.intro f4 (And.intro f5 (And.intro f6 (And.intro f7 (And.intro f8 (And.intro f9 f10)))))))))
      clear hz0 f1 f2 f3 f4 f5 f6 f7 f8 f9 f10 HH
      go_wp2_with fail
      -- the reference's nodes and answer
      refine (laws_toReNodeS.calls k _ _ l0 m w1 (Kd.C_below HR.out HB1.out) HC.out HF.out.1).mono ?_
      rintro e w2 ⟨v2, rfl, hS2, hb2⟩
      dsimp only
      obtain ⟨A2, c2, rfl, hl2, hC2⟩ := Kd.R_reads (Kd.S_R hS2)
      have HB2 := Aside0.mk (HB1.out.trans (Below.mono hb2 HB1.out.size))
      have HC2 := Aside0.mk (And.intro hC2 hl2)
      clear hS2 hb2 hl2 hC2 HB1
      go_wp2_with fail
      refine (spec_ReEnds.calls k _ _ m a1 a2 r w2 HC2.out.1 HC2.out.2 HF.out.2.1).mono ?_
      rintro e w3 ⟨v3, rfl, hR3, hb3⟩
      dsimp only
      obtain ⟨A3, c3, rfl, hl3, -⟩ := Kd.R_reads hR3
      have HR3 := Aside0.mk (Kd.R_mono (ok' := fun k => k < w3.heap.size) (Kd.R_bound hR3) (fun _ hk => hk.2.2.1))
      have HB3 := Aside0.mk (HB2.out.trans (Below.mono hb3 HB2.out.size))
      have HL3 := Aside0.mk hl3
      clear hR3 hl3 hb3 HB2 HC2
      go_wp2_with fail
      -- the program's
      refine (laws_toReNodeS.calls k _ _ l0 m w3 (Kd.C_below HR.out HB3.out) HC.out HF.out.1).mono ?_
      rintro e w4 ⟨v4, rfl, hS4, hb4⟩
      dsimp only
      obtain ⟨A4, c4, rfl, hl4, hC4⟩ := Kd.R_reads (Kd.S_R hS4)
      have HR4 := Aside0.mk (Kd.R_mono (ok' := fun k => w3.heap.size ≤ k ∧ k < w4.heap.size) (Kd.R_bound (Kd.S_R hS4)) (fun _ hk => ⟨hk.2.1, hk.2.2.1⟩))
      have HL4 := Aside0.mk hl4
      have HZ4 := Aside0.mk hb4.size
      have HB4 := Aside0.mk (HB3.out.trans (Below.mono hb4 HB3.out.size))
      have HR3' := Aside0.mk (Kd.R_below HR3.out hb4)
      clear hS4 hb4 hl4 HR3
      go_wp2_with fail
      refine (impl_ReEnds.calls _ _ m a1 a2 r w4 hC4 HL4.out HF.out.2.2.1 (HT.out.below HB4.out)).mono ?_
      rintro e w5 ⟨v5, rfl, hR5, hb5⟩
      dsimp only
      obtain ⟨A5, c5, rfl, hl5, hC5⟩ := Kd.R_reads hR5
      have HR5 := Aside0.mk (Kd.R_mono (ok' := fun k => w4.heap.size ≤ k) (Kd.R_bound hR5) (fun _ hk => hk.2.1))
      have HL5 := Aside0.mk hl5
      have HB5 := Aside0.mk (HB4.out.trans (Below.mono hb5 HB4.out.size))
      have HR3 := Aside0.mk (Kd.R_below HR3'.out hb5)
      have HR4' := Aside0.mk (Kd.R_below HR4.out hb5)
      clear hR5 hl5 hb5 HR3' hC4 HR4
      go_wp2_with fail
      refine (laws_eqIntS.calls k _ _ r _ _ r true w5 hC5 HL5.out (Kd.R_reads' HR3.out).2.2 HL3.out HF.out.2.2.2.1).mono ?_
      rintro e w6 ⟨rfl, m6, rfl⟩
      dsimp only
      have HB6 := Aside0.mk (pw_below_drewN HB5.out m6)
      have HR3' := Aside0.mk (Kd.R_drewN HR3.out m6)
      have HR4 := Aside0.mk (Kd.R_drewN HR4'.out m6)
      have HR5' := Aside0.mk (Kd.R_drewN HR5.out m6)
      clear hC5 HB5 HR3 HR4' HR5
      generalize w5.drewN m6 = w6 at HB6 HR3' HR4 HR5' ⊢
      go_wp2_with fail
      refine (laws_toReNodeS.calls k _ _ l0 m w6 (Kd.C_below HR.out HB6.out) HC.out HF.out.1).mono ?_
      rintro e w7 ⟨v7, rfl, hS7, hb7⟩
      dsimp only
      obtain ⟨A7, c7, rfl, hl7, hC7⟩ := Kd.R_reads (Kd.S_R hS7)
      have HB7 := Aside0.mk (HB6.out.trans (Below.mono hb7 HB6.out.size))
      have HR3 := Aside0.mk (Kd.R_below HR3'.out hb7)
      have HR4' := Aside0.mk (Kd.R_below HR4.out hb7)
      have HR5 := Aside0.mk (Kd.R_below HR5'.out hb7)
      have HC7 := Aside0.mk (And.intro hC7 hl7)
      clear hS7 hb7 hl7 hC7 HR3' HR4 HR5' HB6
      go_wp2_with fail
      refine (laws_eqReNodeS.calls k _ _ m _ _ m true w7 (Kd.R_reads' HR4'.out).2.2 HL4.out HC7.out.1 HC7.out.2 HF.out.2.2.2.2.1).mono ?_
      rintro e w8 ⟨rfl, hb8⟩
      dsimp only
      have HB8 := Aside0.mk (HB7.out.trans (Below.mono hb8 HB7.out.size))
      have HR3' := Aside0.mk (Kd.R_below HR3.out hb8)
      have HR4 := Aside0.mk (Kd.R_below HR4'.out hb8)
      have HR5' := Aside0.mk (Kd.R_below HR5.out hb8)
      clear hb8 HR3 HR4' HR5 HB7 HC7
      go_wp2_with fail
      -- marks are laid into the nodes
      have hq0 : (q < 0) = False := eq_false (by have := HF.out.2.2.2.2.2.2.1; omega)
      refine (laws_markReNodeS.calls (fun k => w3.heap.size ≤ k ∧ k < w4.heap.size) _ m 1 q w w8 HB8.out (Kd.R_lower HR4.out HB3.out.size) HF.out.2.2.2.2.2.1).mono ?_
      rintro e w9 ⟨rfl, hb9, hk9⟩
      dsimp only
      have HB9 := Aside0.mk hb9
      have HR3 := Aside0.mk (Kd.R_step HR3'.out (fun k h1 h2 => hk9.2 k h2 (fun h => by omega)))
      have HR5 := Aside0.mk (Kd.R_step HR5'.out (fun k h1 h2 => hk9.2 k h2 (fun h => by omega)))
      clear hb9 hk9 HR3' HR4 HR5' HB8
      go_wp2_with fail
      refine (laws_eqIntS.calls k _ _ r _ _ r true w9 (Kd.R_reads' HR5.out).2.2 HL5.out (Kd.R_reads' HR3.out).2.2 HL3.out HF.out.2.2.2.1).mono ?_
      rintro e w10 ⟨rfl, m10, rfl⟩
      dsimp only
      have HB10 := Aside0.mk (pw_below_drewN HB9.out m10)
      have HR3' := Aside0.mk (Kd.R_drewN HR3.out m10)
      have HR5' := Aside0.mk (Kd.R_drewN HR5.out m10)
      clear HB9 HR3 HR5
      generalize w9.drewN m10 = w10 at HB10 HR3' HR5' ⊢
      go_wp2_with fail
      -- marks in the answer
      refine (laws_markIntS.calls k (fun k => w4.heap.size ≤ k) _ r 1 k1 r' w w10 HB10.out (Kd.R_lower HR5'.out HB4.out.size) HF.out.2.2.2.2.2.2.2.1).mono ?_
      rintro e w11 ⟨rfl, hR11, hb11, hk11⟩
      dsimp only
      have hlr : r.length = r'.length := (Kd.R_reads' hR11).1
      have HB11 := Aside0.mk hb11
      have HR3 := Aside0.mk (Kd.R_step HR3'.out (fun k h1 h2 => hk11.2 k h2 (fun h => by have := HZ4.out; omega)))
      have HR5 := Aside0.mk hR11
      have HLR := Aside0.mk hlr
      have HL5' := Aside0.mk (hlr ▸ HL5.out : r'.length ≤ c5)
      clear hR11 hb11 hk11 HR3' HR5' HB10 hlr
      go_wp2_with fail
      have hk0 : (k1 < 0) = False := eq_false (by have := HF.out.2.2.2.2.2.2.2.2.2; omega)
      have hcall := laws_heldIntS.calls k A5 c5 r' 1 k1 w11 (HLR.out ▸ (Kd.R_reads' HR5.out).2.2) HL5'.out HF.out.2.2.2.2.2.2.2.2.1
      rw [← HLR.out] at hcall
      refine hcall.mono ?_
      rintro e w12 ⟨rfl, m12, rfl⟩
      dsimp only
      have HB12 := Aside0.mk (pw_below_drewN HB11.out m12)
      have HR3' := Aside0.mk (Kd.R_drewN HR3.out m12)
      have HR5' := Aside0.mk (Kd.R_drewN HR5.out m12)
      clear HB11 HR3 HR5 hcall
      generalize w11.drewN m12 = w12 at HB12 HR3' HR5' ⊢
      go_wp2_with fail
      -- once more
      refine (laws_toReNodeS.calls k _ _ l0 m w12 (Kd.C_below HR.out HB12.out) HC.out HF.out.1).mono ?_
      rintro e w13 ⟨v13, rfl, hS13, hb13⟩
      dsimp only
      obtain ⟨A13, c13, rfl, hl13, hC13⟩ := Kd.R_reads (Kd.S_R hS13)
      have HB13 := Aside0.mk (HB12.out.trans (Below.mono hb13 HB12.out.size))
      have HR3 := Aside0.mk (Kd.R_below HR3'.out hb13)
      have HR5 := Aside0.mk (Kd.R_below HR5'.out hb13)
      clear hS13 hb13 HR3' HR5' HB12
      go_wp2_with fail
      refine (impl_ReEnds.calls _ _ m a1 a2 r w13 hC13 hl13 HF.out.2.2.1 (HT.out.below HB13.out)).mono ?_
      rintro e w14 ⟨v14, rfl, hR14, hb14⟩
      dsimp only
      obtain ⟨A14, c14, rfl, hl14, hC14⟩ := Kd.R_reads hR14
      have HB14 := Aside0.mk (HB13.out.trans (Below.mono hb14 HB13.out.size))
      have HR3' := Aside0.mk (Kd.R_below HR3.out hb14)
      have HR5' := Aside0.mk (Kd.R_below HR5.out hb14)
      have HC14 := Aside0.mk (And.intro hC14 hl14)
      clear hR14 hb14 HR3 HR5 HB13 hC13 hl13 hC14 hl14
      go_wp2_with fail
      refine (laws_eqIntS.calls k _ _ r _ _ r true w14 HC14.out.1 HC14.out.2 (Kd.R_reads' HR3'.out).2.2 HL3.out HF.out.2.2.2.1).mono ?_
      rintro e w15 ⟨rfl, m15, rfl⟩
      dsimp only
      have HB15 := Aside0.mk (pw_below_drewN HB14.out m15)
      have HR5 := Aside0.mk (Kd.R_drewN HR5'.out m15)
      clear HB14 HR3' HR5' HC14
      generalize w14.drewN m15 = w15 at HB15 HR5 ⊢
      go_wp2_with fail
      have hcall := laws_heldIntS.calls k A5 c5 r' 1 k1 w15 (HLR.out ▸ (Kd.R_reads' HR5.out).2.2) HL5'.out HF.out.2.2.2.2.2.2.2.2.1
      rw [← HLR.out] at hcall
      refine hcall.mono ?_
      rintro e w16 ⟨rfl, m16, rfl⟩
      dsimp only
      have HB16 := Aside0.mk (pw_below_drewN HB15.out m16)
      clear HB15 HR5 hcall
      generalize w15.drewN m16 = w16 at HB16 ⊢
      go_wp2_with fail
      go_ret
      exact ⟨rfl, HB16.out⟩
end Go.Proofs.YtlakdfbfkbndiaaDoor.Q
namespace Go.Proofs.YtlakdfbfkbndiaaDoor.Q
open Go Go.ChangeShapes Go.WideShapes Go.Deep Go.Proofs.YtlakdfbfkbndiaaDoorW.PrintWords
structure Opens (P : Program) (t : TypeId) {α : Type} (d : Kd α) (good : α → Prop) : Prop where
  sz : P.cellsOf t = d.sz
  get : ∀ {H : Type} {enc : TypeId × Value → H} {w : World} {fuel : Nat} {cs : List Value} {x : DataW H × List MemPlace},
    DataW.trod enc P w 0 (fun _ => true) true fuel t cs = some x → ∃ a, d.K w a cs ∧ good a
theorem opens_int {P : Program} {t : TypeId} {k : IntKind} (ht : P.underlying t = some (.int k)) (hc : P.cellsOf t = 1) : Opens P t (Kd.int k) (fun n => (Lit.int k n).wf = true) :=
  ⟨hc, fun h => by obtain ⟨n, rfl, _, hw⟩ := DataW.trod_int ht h; exact ⟨n, rfl, hw⟩⟩
theorem opens_bool {P : Program} {t : TypeId} (ht : P.underlying t = some .bool) (hc : P.cellsOf t = 1) : Opens P t Kd.bool (fun _ => True) :=
  ⟨hc, fun h => by obtain ⟨n, rfl, _⟩ := DataW.trod_bool ht h; exact ⟨n, rfl, trivial⟩⟩
theorem opens_string {P : Program} {t : TypeId} (ht : P.underlying t = some .string) (hc : P.cellsOf t = 1) : Opens P t Kd.string (fun s => s.size ≤ maxLen) :=
  ⟨hc, fun h => by obtain ⟨s, rfl, _, hs⟩ := DataW.trod_string ht h; exact ⟨s, rfl, hs⟩⟩
def okInt (k : IntKind) (n : Int) : Prop := (Lit.int k n).wf = true
def okStr (s : ByteArray) : Prop := s.size ≤ maxLen
def okBool (_ : Bool) : Prop := True
theorem open_int_ok {P : Program} {t : TypeId} {k : IntKind} (ht : P.underlying t = some (.int k)) (hc : P.cellsOf t = 1) : Opens P t (Kd.int k) (okInt k) := opens_int ht hc
theorem open_bool_ok {P : Program} {t : TypeId} (ht : P.underlying t = some .bool) (hc : P.cellsOf t = 1) : Opens P t Kd.bool okBool := opens_bool ht hc
theorem open_str_ok {P : Program} {t : TypeId} (ht : P.underlying t = some .string) (hc : P.cellsOf t = 1) : Opens P t Kd.string okStr := opens_string ht hc
theorem list_of {α : Type} (Q : Nat → α → Prop) : ∀ (n : Nat), (∀ i, i < n → ∃ a, Q i a) → ∃ l : List α, l.length = n ∧ ∀ i a, l[i]? = some a → Q i a
  | 0, _ => ⟨[], rfl, fun i a h => by simp at h⟩
  | n + 1, h => by
    obtain ⟨l, hl, hq⟩ := list_of Q n (fun i hi => h i (by omega))
    obtain ⟨a, ha⟩ := h n (by omega)
    refine ⟨l ++ [a], by simp [hl], fun i b hb => ?_⟩
    by_cases hi : i < l.length
    · rw [List.getElem?_append_left hi] at hb; exact hq i b hb
    · rw [List.getElem?_append_right (by omega)] at hb
      have : i - l.length = 0 := by
        have := (List.getElem?_eq_some_iff.1 hb).1
        simp at this; omega
      rw [this] at hb
      simp at hb
      obtain rfl : i = n := by omega
      exact hb ▸ ha
theorem slice_reads {P : Program} {t e : TypeId} {α : Type} {d : Kd α} {good : α → Prop} (ht : P.underlying t = some (.slice e)) (hd : Opens P e d good) {H : Type} {enc : TypeId × Value → H} {w : World} {fuel : Nat} {cs : List Value} {x : DataW H × List MemPlace}
    (h : DataW.trod enc P w 0 (fun _ => true) true fuel t cs = some x) :
    ∃ (A : Option Addr) (c : Nat) (l : List α), cs = [.slice A l.length c] ∧ l.length ≤ c ∧ d.C w A l.length l ∧ l.length ≤ maxLen ∧ ∀ a ∈ l, good a := by
  rcases open_slice ht h with ⟨rfl, _⟩ | ⟨a, len, cap, m, n, D, Pl, rfl, _, hl, hm, hmm, _, hi⟩
  · exact ⟨none, 0, [], rfl, Nat.le_refl _, ⟨rfl, by simp, fun h => by simp at h⟩, by simp, fun a ha => by simp at ha⟩
  · simp only [if_true] at hmm
    obtain ⟨l, hll, hq⟩ := list_of (fun i b => good b ∧ ∃ cs', w.cells? 0 (a.add (i * P.cellsOf e)) (P.cellsOf e) = some cs' ∧ d.K w b cs') len (fun i hil => by
      obtain ⟨cs', hc, ht'⟩ := hi i (by omega)
      obtain ⟨b, hb, hg⟩ := hd.get ht'
      exact ⟨b, hg, cs', hc, hb⟩)
    subst hll
    refine ⟨some a, cap, l, rfl, hl, ⟨rfl, by unfold maxLen at hm; omega, fun _ => ⟨a, rfl, fun j p hj => ?_⟩⟩, by omega, fun b hb => ?_⟩
    · obtain ⟨_, cs', hc, hK⟩ := hq j p hj
      refine ⟨cs', d.K_len hK, hK, fun i u hu => ?_⟩
      rw [hd.sz] at hc
      obtain ⟨_, hcl, hat⟩ := World.cells?_some hc
      have hil : i < d.sz := by
        have := (List.getElem?_eq_some_iff.1 hu).1
        rw [d.K_len hK] at this; exact this
      have h1 := hat i hil
      rw [Go.Deep.add_add] at h1
      exact h1.trans hu
    · obtain ⟨i, hi', rfl⟩ := List.getElem_of_mem hb
      exact (hq i _ (List.getElem?_eq_getElem hi')).1
theorem opens_slice {P : Program} {t e : TypeId} {α : Type} {d : Kd α} {good : α → Prop} (ht : P.underlying t = some (.slice e)) (hc : P.cellsOf t = 1) (hd : Opens P e d good) :
    Opens P t (Kd.slice e d) (fun l => l.length ≤ maxLen ∧ ∀ a ∈ l, good a) :=
  ⟨hc, fun h => by
    obtain ⟨A, c, l, rfl, h1, h2, h3, h4⟩ := slice_reads ht hd h
    exact ⟨l, ⟨A, c, rfl, h1, h2⟩, h3, h4⟩⟩
def OpensF (P : Program) (fs : List Field) {α : Type} (d : Kd α) (good : α → Prop) : Prop :=
  ∀ {H : Type} {enc : TypeId × Value → H} {w : World} {n : Nat} {cs : List Value}, cs.length = fs.length →
    (∀ (i : Nat) (f : Field) (v : Value), fs[i]? = some f → cs[i]? = some v → ∃ y, DataW.trod enc P w 0 (fun _ => true) true n f.type [v] = some y) → ∃ a, d.K w a cs ∧ good a
theorem opensF_one {P : Program} {f : Field} {α : Type} {d : Kd α} {good : α → Prop} (h : Opens P f.type d good) : OpensF P [f] d good := fun {H enc w n cs} hl hf => by
  match cs, hl with
  | [v], _ =>
    obtain ⟨y, hy⟩ := hf 0 f v rfl rfl
    exact h.get hy
theorem opensF_cons {P : Program} {f : Field} {fs : List Field} {α β : Type} {d : Kd α} {d' : Kd β} {good : α → Prop} {good' : β → Prop} (h : Opens P f.type d good) (h' : OpensF P fs d' good') :
    OpensF P (f :: fs) (Kd.pair d d') (fun p => good p.1 ∧ good' p.2) := fun {H enc w n cs} hl hf => by
  match cs, hl with
  | v :: r, hl =>
    obtain ⟨y, hy⟩ := hf 0 f v rfl rfl
    obtain ⟨a, ha, hg⟩ := h.get hy
    obtain ⟨b, hb, hg'⟩ := h' (w := w) (n := n) (cs := r) (by simpa using hl) (fun i f' v' h1 h2 => hf (i + 1) f' v' (by simpa using h1) (by simpa using h2))
    exact ⟨(a, b), ⟨[v], r, rfl, ha, hb⟩, hg, hg'⟩
theorem opens_struct {P : Program} {t : TypeId} {fs : Array Field} {α β : Type} {d : Kd α} {good : α → Prop} (f : β → α) (g : α → β) (hfg : ∀ a, f (g a) = a) (ht : P.underlying t = some (.struct fs)) (hone : oneCellFields P fs = true) (hc : P.cellsOf t = fs.size) (hd : d.sz = fs.size)
    (h : OpensF P fs.toList d good) : Opens P t (Kd.iso d f) (fun b => good (f b)) :=
  ⟨hc.trans hd.symm, fun {H enc w fuel cs x} hx => by
    obtain ⟨ys, n, rfl, hy, hlen, hyl, hf⟩ := DataW.trod_struct ht hx
    obtain ⟨a, ha, hg⟩ := h (enc := enc) (w := w) (n := n) (cs := cs) (by rw [hlen, hc]; simp) (fun i fi v hi hv => by
      have hi' : fs[i]? = some fi := by simpa using hi
      obtain ⟨ho, hk⟩ := hone_of hone i fi hi'
      have hil : i < fs.size := (Array.getElem?_eq_some_iff.1 hi').1
      have h1 := hf i fi hi'
      rw [ho, hk] at h1
      have h2 : (cs.drop i).take 1 = [v] := by
        obtain ⟨hlt, rfl⟩ := List.getElem?_eq_some_iff.1 hv
        rw [List.drop_eq_getElem_cons hlt]; rfl
      rw [h2] at h1
      exact ⟨_, h1.trans (List.getElem?_eq_getElem (by omega))⟩)
    exact ⟨g a, by show d.K w (f (g a)) cs; rw [hfg]; exact ha, by rw [hfg]; exact hg⟩⟩
end Go.Proofs.YtlakdfbfkbndiaaDoor.Q
namespace Go.Proofs.YtlakdfbfkbndiaaDoor.Q
open Go.RowKit Go.Proofs.YtlakdfbfkbndiaaDoor.Re Go.Proofs.YtlakdfbfkbndiaaDoorW.PrintWords Go.Proofs.YtlakdfbfkbndiaaDoorW.PrintLast Go.Proofs.YtlakdfbfkbndiaaDoorW.PrintMore
theorem l2in_l0 (s : ByteArray) (neg : Bool) (c f0 : Int) (f3 : List Int) (hs : s.size ≤ 1099511627776) : ∀ (d i k : Nat), i + 2 * d = s.size → d < k → spec_l2in.l0 k c (i : Int) f0 neg s f3 = some (inFrom s neg c d i)
  | 0, i, 0, _, hk => absurd hk (by omega)
  | 0, i, k + 1, hi, _ => by
    have w1 : wrap64 ((i : Int) + 1) = ((i + 1 : Nat) : Int) := by unfold wrap64; omega
    simp only [spec_l2in.l0]
    rw [w1, if_neg (by omega)]; rfl
  | d + 1, i, 0, _, hk => absurd hk (by omega)
  | d + 1, i, k + 1, hi, hk => by
    have w1 : wrap64 ((i : Int) + 1) = ((i + 1 : Nat) : Int) := by unfold wrap64; omega
    have w2 : wrap64 ((i : Int) + 2) = ((i + 2 : Nat) : Int) := by unfold wrap64; omega
    simp only [spec_l2in.l0, inFrom]
    rw [w1, w2, if_pos (by omega), if_pos (by omega), if_pos (by omega), l2in_l0 s neg c f0 f3 hs d (i + 2) k (by omega) (by omega)]
    by_cases h1 : c ≥ bt s (i : Int)
    · rw [if_pos h1, if_pos (by omega)]
      by_cases h2 : c ≤ bt s ((i + 1 : Nat) : Int)
      · rw [if_pos h2, if_pos ⟨h1, h2⟩]
      · rw [if_neg h2, if_neg (fun h => h2 h.2)]
    · rw [if_neg h1, if_neg (fun h => h1 h.1)]
theorem l2in_eq (x : S49) (c : Int) (he : x.f2.size % 2 = 0) (hs : x.f2.size ≤ 1099511627776) (k : Nat) (hk : 1099511627777 ≤ k) : spec_l2in.f k x.f0 x.f1 x.f2 x.f3 c = some (inS x c) :=
  l2in_l0 x.f2 x.f1 c x.f0 x.f3 hs (x.f2.size / 2) 0 _ (by omega) (by omega)
def falses : List Bool → Nat
  | [] => 0
  | b :: r => (if b = true then 0 else 1) + falses r
theorem falses_set : ∀ (l : List Bool) (q : Nat), q < l.length → l.getD q false = false → falses (l.set q true) + 1 = falses l
  | [], q, h, _ => absurd h (by simp)
  | b :: r, 0, _, h => by
    have h : b = false := h
    subst h
    simp [falses]; omega
  | b :: r, q + 1, h, h2 => by
    have := falses_set r q (by simpa using h) (by simpa using h2)
    simp only [List.set_cons_succ, falses]
    omega
theorem getD_set (l : List Bool) (q p : Nat) (hq : q < l.length) : (l.set q true).getD p false = true ↔ l.getD p false = true ∨ p = q := by
  rw [List.getD_eq_getElem?_getD, List.getD_eq_getElem?_getD, List.getElem?_set]
  by_cases h : q = p
  · subst h; simp [hq]
  · rw [if_neg h]
    constructor
    · exact .inl
    · rintro (h1 | h1)
      · exact h1
      · exact absurd h1.symm h
end Go.Proofs.YtlakdfbfkbndiaaDoor.Q
namespace Go.Proofs.YtlakdfbfkbndiaaDoor.Q
open Go.RowKit Go.Proofs.YtlakdfbfkbndiaaDoor.Re Go.Proofs.YtlakdfbfkbndiaaDoorW.PrintWords Go.Proofs.YtlakdfbfkbndiaaDoorW.PrintLast Go.Proofs.YtlakdfbfkbndiaaDoorW.PrintMore
section
variable (l : List S49) (s : ByteArray)
def epsB (e : Re.Way) (t : Nat) : Bool := decide (e.2.2 < 0) || ((decide ((nodeAt l e.2.2.toNat).f0 = 1) && decide (t = 0)) || (decide ((nodeAt l e.2.2.toNat).f0 = 2) && decide (t = s.size)))
def passL (t : Nat) : List Re.Way → List Bool → Bool → List Bool × Bool
  | [], m, b => (m, b)
  | e :: r, m, b => if (m.getD e.1.toNat false && !m.getD e.2.1.toNat false && epsB l s e t) = true then passL t r (m.set e.2.1.toNat true) true else passL t r m b
structure WaysIn (E : List Re.Way) (N : Nat) : Prop where
  lo : ∀ e, e ∈ E → 0 ≤ e.1 ∧ e.1 < N ∧ 0 ≤ e.2.1 ∧ e.2.1 < N
  node : ∀ e, e ∈ E → e.2.2 < l.length ∧ (0 ≤ e.2.2 → (nodeAt l e.2.2.toNat).f0 < 3 ∧ 0 ≤ (nodeAt l e.2.2.toNat).f0)
  len : E.length ≤ 1000000
  cnt : N ≤ 1000000
  two : 2 ≤ N
end
end Go.Proofs.YtlakdfbfkbndiaaDoor.Q
namespace Go.Proofs.YtlakdfbfkbndiaaDoor.Q
open Go.RowKit Go.Proofs.YtlakdfbfkbndiaaDoor.Re Go.Proofs.YtlakdfbfkbndiaaDoorW.PrintWords Go.Proofs.YtlakdfbfkbndiaaDoorW.PrintLast Go.Proofs.YtlakdfbfkbndiaaDoorW.PrintMore
section
variable (l : List S49) (s : ByteArray)
variable {l s} {E : List Re.Way} {N : Nat}
theorem rd_toE (E : List Re.Way) (i : Nat) (hi : i < E.length) : rd_T85 (E.map toE) (i : Int) = toE (E.getD i (0, 0, 0)) := by
  unfold rd_T85
  rw [Int.toNat_natCast, List.getD_eq_getElem?_getD, List.getD_eq_getElem?_getD, List.getElem?_map, List.getElem?_eq_getElem hi]; rfl
theorem rdOf_get (m : List Bool) (q : Int) (h : 0 ≤ q) : rdOf false m q = m.getD q.toNat false := by
  unfold rdOf
  first | rfl | simp
theorem close_l1 (hW : WaysIn l E N) (hs : s.size ≤ 500) (t : Nat) : ∀ (d i : Nat), i + d = E.length → ∀ (k : Nat) (m : List Bool) (b : Bool), m.length = N →
    spec_l2close.l1 (k + 2 * d + 1) l s (t : Int) m b (i : Int) (E.map toE) (N : Int) = spec_l2close.l0 k l s (t : Int) (passL l s t (E.drop i) m b).1 (passL l s t (E.drop i) m b).2 (E.map toE) (N : Int)
  | 0, i, hi, k, m, b, hm => by
    simp only [spec_l2close.l1]
    rw [if_neg (by rw [List.length_map]; omega), List.drop_eq_nil_of_le (by omega)]
    rfl
  | d + 1, i, hi, k, m, b, hm => by
    have hlt : i < E.length := by omega
    have hd : E.drop i = E.getD i (0, 0, 0) :: E.drop (i + 1) := by
      rw [List.drop_eq_getElem_cons hlt, List.getD_eq_getElem?_getD, List.getElem?_eq_getElem hlt]; rfl
    have hmem : E.getD i (0, 0, 0) ∈ E := by
      rw [List.getD_eq_getElem?_getD, List.getElem?_eq_getElem hlt]; exact List.getElem_mem hlt
    have hr := rd_toE E i hlt
    generalize E.getD i (0, 0, 0) = e at hd hmem hr
    obtain ⟨a0, a1, b0, b1⟩ := hW.lo e hmem
    obtain ⟨n1, n2⟩ := hW.node e hmem
    have hlen := hW.len
    have wi : wrap64 ((i : Int) + 1) = ((i + 1 : Nat) : Int) := by clear n1 n2 hd hmem hr; unfold wrap64; omega
    have q1 : (i : Int) < ((E.map toE).length : Int) := by rw [List.length_map]; exact Int.ofNat_lt.mpr hlt
    have q2 : (0 : Int) ≤ (i : Int) := Int.natCast_nonneg i
    have q3 : e.1 < (m.length : Int) := by rw [hm]; exact a1
    have q4 : e.2.1 < (m.length : Int) := by rw [hm]; exact b1
    clear hlen
    have ih := fun (m : List Bool) (b : Bool) (hm : m.length = N) => close_l1 hW hs t d (i + 1) (by omega) k m b hm
    have e1 : k + 2 * (d + 1) + 1 = (k + 2 * d + 1) + 1 + 1 := by omega
    rw [e1]
    simp only [spec_l2close.l1]
    have hf : (rd_T85 (E.map toE) (i : Int)).f0 = e.1 ∧ (rd_T85 (E.map toE) (i : Int)).f1 = e.2.1 ∧ (rd_T85 (E.map toE) (i : Int)).f2 = e.2.2 := by rw [hr]; exact ⟨rfl, rfl, rfl⟩
    rw [hf.1, hf.2.1, hf.2.2, if_pos q1, if_pos q2, if_pos a0, if_pos q3, rdOf_get m e.1 a0, rdOf_get m e.2.1 b0, hd]
    have key : ∀ q : Bool, q = m.getD e.2.1.toNat false → (m.getD e.1.toNat false = true) → spec_l2close.j2 (k + 2 * d + 1 + 1) l s (t : Int) m b (i : Int) q (E.map toE) (N : Int) e.1 e.2.1 e.2.2 =
        spec_l2close.l0 k l s (t : Int) (passL l s t (e :: E.drop (i + 1)) m b).1 (passL l s t (e :: E.drop (i + 1)) m b).2 (E.map toE) (N : Int) := fun q hq hfrom => by
      simp only [spec_l2close.j2, passL]
      rw [wi, hfrom]
      cases q with
      | true =>
        rw [if_pos rfl, ← hq, if_neg (by simp)]
        exact ih m b hm
      | false =>
        rw [if_neg (by decide), ← hq]
        have hset : (m.set e.2.1.toNat true).length = N := by rw [List.length_set, hm]
        by_cases c1 : e.2.2 < 0
        · rw [if_pos c1, if_pos b0, if_pos q4, if_pos (by simp [epsB, c1])]
          exact ih _ true hset
        · rw [if_neg c1, if_pos (Int.not_lt.mp c1), if_pos n1]
          have hn : rd_T49 l e.2.2 = nodeAt l e.2.2.toNat := by unfold nodeAt rd_T49; rw [Int.toNat_natCast]
          rw [hn]
          by_cases c2 : (nodeAt l e.2.2.toNat).f0 = 1
          · rw [if_pos c2, if_neg (show ¬ (nodeAt l e.2.2.toNat).f0 = 2 by rw [c2]; decide)]
            by_cases c3 : t = 0
            · rw [if_pos (show (t : Int) = 0 by rw [c3]; rfl), if_pos b0, if_pos q4, if_pos (by simp [epsB, c2, c3])]
              exact ih _ true hset
            · rw [if_neg (show ¬ (t : Int) = 0 from fun h => c3 (Int.ofNat.inj h)), if_neg (by simp [epsB, c1, c2, c3])]
              exact ih m b hm
          · rw [if_neg c2]
            by_cases c4 : (nodeAt l e.2.2.toNat).f0 = 2
            · rw [if_pos c4]
              by_cases c3 : t = s.size
              · rw [if_pos (show (t : Int) = (s.size : Int) by rw [c3]), if_pos b0, if_pos q4, if_pos (by simp [epsB, c4, c3])]
                exact ih _ true hset
              · rw [if_neg (show ¬ (t : Int) = (s.size : Int) from fun h => c3 (Int.ofNat.inj h)), if_neg (by simp [epsB, c1, c2, c4, c3])]
                exact ih m b hm
            · rw [if_neg c4, if_neg (by simp [epsB, c1, c2, c4])]
              exact ih m b hm
    by_cases hfrom : m.getD e.1.toNat false = true
    · rw [if_pos hfrom, if_pos b0, if_pos q4]
      exact key _ rfl hfrom
    · rw [if_neg hfrom]
      have hfrom : m.getD e.1.toNat false = false := by simpa using hfrom
      simp only [spec_l2close.j2, passL]
      rw [if_pos trivial, wi, hfrom, if_neg (by simp)]
      exact ih m b hm
end
end Go.Proofs.YtlakdfbfkbndiaaDoor.Q
namespace Go.Proofs.YtlakdfbfkbndiaaDoor.Q
open Go.RowKit Go.Proofs.YtlakdfbfkbndiaaDoor.Re Go.Proofs.YtlakdfbfkbndiaaDoorW.PrintWords Go.Proofs.YtlakdfbfkbndiaaDoorW.PrintLast Go.Proofs.YtlakdfbfkbndiaaDoorW.PrintMore
def Ev {α : Type} (g : Nat → Option α) (r : α) : Prop := ∃ K, ∀ k, K ≤ k → g k = some r
theorem Ev.mk {α : Type} {g : Nat → Option α} {r : α} (h : ∀ k, g k = some r) : Ev g r := ⟨0, fun k _ => h k⟩
theorem Ev.congr {α : Type} {f g : Nat → Option α} {r : α} (h : Ev f r) (e : ∀ k, g k = f k) : Ev g r := by
  obtain ⟨K, hK⟩ := h
  exact ⟨K, fun k hk => (e k).trans (hK k hk)⟩
theorem Ev.succ {α : Type} {g : Nat → Option α} {r : α} (h : Ev (fun k => g (k + 1)) r) : Ev g r := by
  obtain ⟨K, hK⟩ := h
  exact ⟨K + 1, fun k hk => by obtain ⟨j, rfl⟩ : ∃ j, k = j + 1 := ⟨k - 1, by omega⟩; exact hK j (by omega)⟩
theorem Ev.add {α : Type} {g : Nat → Option α} {r : α} (n : Nat) (h : Ev (fun k => g (k + n)) r) : Ev g r := by
  obtain ⟨K, hK⟩ := h
  exact ⟨K + n, fun k hk => by obtain ⟨j, rfl⟩ : ∃ j, k = j + n := ⟨k - n, by omega⟩; exact hK j (by omega)⟩
theorem Ev.up {α : Type} {g : Nat → Option α} {r : α} (n : Nat) (h : Ev g r) : Ev (fun k => g (k + n)) r := by
  obtain ⟨K, hK⟩ := h
  exact ⟨K, fun k hk => hK (k + n) (by omega)⟩
theorem Ev.bind {α β : Type} {f : Nat → Option α} {g : Nat → α → Option β} {a : α} {r : β} (h : Ev f a) (h2 : Ev (fun k => g k a) r) : Ev (fun k => (f k).bind (g k)) r := by
  obtain ⟨K, hK⟩ := h
  obtain ⟨M, hM⟩ := h2
  exact ⟨K + M, fun k hk => by show (f k).bind (g k) = some r; rw [hK k (by omega)]; exact hM k (by omega)⟩
inductive Eps (l : List S49) (s : ByteArray) (E : List Re.Way) (t : Nat) (m : List Bool) : Nat → Prop
  | base {q : Nat} : m.getD q false = true → Eps l s E t m q
  | step {e : Re.Way} : e ∈ E → epsB l s e t = true → Eps l s E t m e.1.toNat → Eps l s E t m e.2.1.toNat
end Go.Proofs.YtlakdfbfkbndiaaDoor.Q
namespace Go.Proofs.YtlakdfbfkbndiaaDoor.Q
open Go.RowKit Go.Proofs.YtlakdfbfkbndiaaDoor.Re Go.Proofs.YtlakdfbfkbndiaaDoorW.PrintWords Go.Proofs.YtlakdfbfkbndiaaDoorW.PrintLast Go.Proofs.YtlakdfbfkbndiaaDoorW.PrintMore
section
variable {l : List S49} {s : ByteArray} {E : List Re.Way} {N : Nat} {t : Nat}
theorem Eps.trans {m m1 : List Bool} (h : ∀ q, m1.getD q false = true → Eps l s E t m q) {q : Nat} (g : Eps l s E t m1 q) : Eps l s E t m q := by
  induction g with
  | base h1 => exact h _ h1
  | step he hb _ ih => exact .step he hb ih
theorem passL_spec (m0 : List Bool) : ∀ (r : List Re.Way) (m : List Bool) (b : Bool), (∀ e, e ∈ r → e ∈ E ∧ e.2.1.toNat < m.length) → (∀ q, m.getD q false = true → Eps l s E t m0 q) →
    (passL l s t r m b).1.length = m.length ∧ (∀ q, m.getD q false = true → (passL l s t r m b).1.getD q false = true) ∧ (∀ q, (passL l s t r m b).1.getD q false = true → Eps l s E t m0 q) ∧
    falses (passL l s t r m b).1 ≤ falses m ∧ ((passL l s t r m b).2 = true → b = true ∨ falses (passL l s t r m b).1 < falses m) ∧
    ((passL l s t r m b).2 = false → b = false ∧ (passL l s t r m b).1 = m ∧ ∀ e, e ∈ r → m.getD e.1.toNat false = true → epsB l s e t = true → m.getD e.2.1.toNat false = true)
  | [], m, b, _, h => ⟨rfl, fun _ h => h, h, Nat.le_refl _, fun h => .inl h, fun h => ⟨h, rfl, fun e he => absurd he List.not_mem_nil⟩⟩
  | e :: r, m, b, hr, h => by
    simp only [passL]
    by_cases c : (m.getD e.1.toNat false && !m.getD e.2.1.toNat false && epsB l s e t) = true
    · rw [if_pos c]
      simp only [Bool.and_eq_true, Bool.not_eq_true'] at c
      obtain ⟨⟨c1, c2⟩, c3⟩ := c
      obtain ⟨hE, hlt⟩ := hr e List.mem_cons_self
      have hm : ∀ q, (m.set e.2.1.toNat true).getD q false = true → Eps l s E t m0 q := fun q hq => by
        rcases (getD_set m _ q hlt).mp hq with h1 | h1
        · exact h q h1
        · rw [h1]; exact .step hE c3 (h _ c1)
      obtain ⟨p1, p2, p3, p4, p5, p6⟩ := passL_spec m0 r (m.set e.2.1.toNat true) true (fun e' he' => by rw [List.length_set]; exact hr e' (List.mem_cons_of_mem _ he')) hm
      have hf := falses_set m _ hlt c2
      refine ⟨by rw [p1, List.length_set], fun q hq => p2 q ((getD_set m _ q hlt).mpr (.inl hq)), p3, by omega, fun _ => .inr (by omega), fun h0 => ?_⟩
      exact absurd (p6 h0).1 (by decide)
    · rw [if_neg c]
      obtain ⟨p1, p2, p3, p4, p5, p6⟩ := passL_spec m0 r m b (fun e' he' => hr e' (List.mem_cons_of_mem _ he')) h
      refine ⟨p1, p2, p3, p4, p5, fun h0 => ?_⟩
      obtain ⟨q1, q2, q3⟩ := p6 h0
      refine ⟨q1, q2, fun e' he' h1 h2 => ?_⟩
      rcases List.mem_cons.mp he' with rfl | h3
      · rw [h1, h2] at c
        cases h4 : m.getD e'.2.1.toNat false with
        | true => rfl
        | false => rw [h4] at c; exact absurd rfl c
      · exact q3 e' h3 h1 h2
theorem close_ev (hW : WaysIn l E N) (hs : s.size ≤ 500) (t : Nat) : ∀ (n : Nat) (m : List Bool), falses m ≤ n → m.length = N →
    ∃ m', m'.length = N ∧ (∀ q, m'.getD q false = true ↔ Eps l s E t m q) ∧ Ev (fun k => spec_l2close.l0 k l s (t : Int) m true (E.map toE) (N : Int)) m' := by
  intro n
  induction n using Nat.strongRecOn with
  | _ n ih =>
    intro m hn hm
    have hr : ∀ e, e ∈ E → e ∈ E ∧ e.2.1.toNat < m.length := fun e he => ⟨he, by have := hW.lo e he; omega⟩
    obtain ⟨p1, p2, p3, p4, p5, p6⟩ := passL_spec (l := l) (s := s) (E := E) (t := t) m E m false hr (fun q hq => .base hq)
    have hstep : ∀ k, spec_l2close.l0 (k + 2 * E.length + 2) l s (t : Int) m true (E.map toE) (N : Int) = spec_l2close.l0 k l s (t : Int) (passL l s t E m false).1 (passL l s t E m false).2 (E.map toE) (N : Int) := fun k => by
      have h1 := close_l1 hW hs t E.length 0 (by omega) k m false hm
      rw [List.drop_zero] at h1
      rw [← h1]
      rw [show k + 2 * E.length + 2 = (k + 2 * E.length + 1) + 1 by omega]
      simp only [spec_l2close.l0, if_true]
      rfl
    generalize passL l s t E m false = r at p1 p2 p3 p4 p5 p6 hstep
    obtain ⟨m1, b1⟩ := r
    dsimp only at p1 p2 p3 p4 p5 p6 hstep
    cases b1 with
    | false =>
      obtain ⟨_, rfl, q3⟩ := p6 rfl
      refine ⟨m1, hm, fun q => ⟨.base, fun h => ?_⟩, ?_⟩
      · induction h with
        | base h => exact h
        | step he hb _ ih => exact q3 _ he ih hb
      · refine Ev.add (2 * E.length + 2) (Ev.succ (Ev.mk fun k => ?_))
        show spec_l2close.l0 (k + 1 + (2 * E.length + 2)) l s (t : Int) m1 true (E.map toE) (N : Int) = some m1
        rw [← Nat.add_assoc, hstep (k + 1)]
        simp [spec_l2close.l0]
    | true =>
      have hlt : falses m1 < falses m := (p5 rfl).resolve_left (by decide)
      obtain ⟨m', g1, g2, g3⟩ := ih (falses m1) (by omega) m1 (Nat.le_refl _) (by omega)
      refine ⟨m', g1, fun q => (g2 q).trans ⟨Eps.trans p3, Eps.trans fun q hq => .base (p2 q hq)⟩, ?_⟩
      refine Ev.add (2 * E.length + 2) (Ev.congr g3 fun k => ?_)
      show spec_l2close.l0 (k + (2 * E.length + 2)) l s (t : Int) m true (E.map toE) (N : Int) = _
      rw [← Nat.add_assoc, hstep k]
def setB (l : List S49) (s : ByteArray) (e : Re.Way) (t : Nat) : Bool := decide (0 ≤ e.2.2) && (decide ((nodeAt l e.2.2.toNat).f0 = 0) && inS (nodeAt l e.2.2.toNat) (bt s t))
def nextL (l : List S49) (s : ByteArray) (t : Nat) (m : List Bool) : List Re.Way → List Bool → List Bool
  | [], x => x
  | e :: r, x => if (m.getD e.1.toNat false && setB l s e t) = true then nextL l s t m r (x.set e.2.1.toNat true) else nextL l s t m r x
theorem nextL_spec (m : List Bool) : ∀ (r : List Re.Way) (x : List Bool), (∀ e, e ∈ r → e.2.1.toNat < x.length) →
    (nextL l s t m r x).length = x.length ∧ ∀ q, (nextL l s t m r x).getD q false = true ↔ x.getD q false = true ∨ ∃ e, e ∈ r ∧ m.getD e.1.toNat false = true ∧ setB l s e t = true ∧ q = e.2.1.toNat
  | [], x, _ => ⟨rfl, fun q => by simp [nextL]⟩
  | e :: r, x, h => by
    simp only [nextL]
    have hlt := h e List.mem_cons_self
    by_cases c : (m.getD e.1.toNat false && setB l s e t) = true
    · rw [if_pos c]
      rw [Bool.and_eq_true] at c
      obtain ⟨p1, p2⟩ := nextL_spec m r (x.set e.2.1.toNat true) (fun e' he' => by rw [List.length_set]; exact h e' (List.mem_cons_of_mem _ he'))
      refine ⟨by rw [p1, List.length_set], fun q => ?_⟩
      rw [p2 q, getD_set x _ q hlt]
      constructor
      · rintro ((h1 | h1) | ⟨e', he', h2⟩)
        · exact .inl h1
        · exact .inr ⟨e, List.mem_cons_self, c.1, c.2, h1⟩
        · exact .inr ⟨e', List.mem_cons_of_mem _ he', h2⟩
      · rintro (h1 | ⟨e', he', h2, h3, h4⟩)
        · exact .inl (.inl h1)
        · rcases List.mem_cons.mp he' with rfl | h5
          · exact .inl (.inr h4)
          · exact .inr ⟨e', h5, h2, h3, h4⟩
    · rw [if_neg c]
      obtain ⟨p1, p2⟩ := nextL_spec m r x (fun e' he' => h e' (List.mem_cons_of_mem _ he'))
      refine ⟨p1, fun q => ?_⟩
      rw [p2 q]
      constructor
      · rintro (h1 | ⟨e', he', h2⟩)
        · exact .inl h1
        · exact .inr ⟨e', List.mem_cons_of_mem _ he', h2⟩
      · rintro (h1 | ⟨e', he', h2, h3, h4⟩)
        · exact .inl h1
        · rcases List.mem_cons.mp he' with rfl | h5
          · exact absurd (by rw [h2, h3]; rfl) c
          · exact .inr ⟨e', h5, h2, h3, h4⟩
end
end Go.Proofs.YtlakdfbfkbndiaaDoor.Q
namespace Go.Proofs.YtlakdfbfkbndiaaDoor.Q
open Go.RowKit Go.Proofs.YtlakdfbfkbndiaaDoor.Re Go.Proofs.YtlakdfbfkbndiaaDoorW.PrintWords Go.Proofs.YtlakdfbfkbndiaaDoorW.PrintLast Go.Proofs.YtlakdfbfkbndiaaDoorW.PrintMore
theorem toList_nil (s : ByteArray) : s.toList = ([] : List UInt8) ↔ s.size = 0 := by
  have h : s.toList.length = s.size := by simp [ByteArray.toList_eq, Array.length_toList]
  constructor
  · intro e; rw [e] at h; exact h.symm
  · intro e; rw [e] at h; exact List.eq_nil_of_length_eq_zero h
def pairsB (s : ByteArray) : Nat → Nat → Bool
  | 0, _ => true
  | d + 1, i => if bt s ((i + 1 : Nat) : Int) < bt s (i : Int) then false else pairsB s d (i + 2)
def nodeB (x : S49) : Bool :=
  if x.f0 = 0 then (if x.f2.size % 2 = 0 ∧ x.f3.length = 0 ∧ ¬ (x.f2.size = 0 ∧ x.f1 = false) then pairsB x.f2 (x.f2.size / 2) 0 else false)
  else if x.f1 = true ∨ x.f2.size ≠ 0 then false
  else if x.f0 = 1 ∨ x.f0 = 2 then decide (x.f3.length = 0)
  else if x.f0 = 3 ∨ x.f0 = 4 then decide (2 ≤ x.f3.length)
  else if x.f0 = 5 ∨ x.f0 = 6 ∨ x.f0 = 7 then decide (x.f3.length = 1)
  else false
theorem implPairs (f0 : Int) (neg : Bool) (s : ByteArray) (f3 : List Int) (hs : s.size ≤ 1099511627776) : ∀ (d i k : Nat), i + 2 * d = s.size → d < k → impl_isReNode.l0 k (i : Int) f0 neg s f3 = some (pairsB s d i)
  | 0, i, 0, _, hk => absurd hk (by omega)
  | 0, i, k + 1, hi, _ => by
    simp only [impl_isReNode.l0]
    rw [if_neg (by omega)]; rfl
  | d + 1, i, 0, _, hk => absurd hk (by omega)
  | d + 1, i, k + 1, hi, hk => by
    have w1 : wrap64 ((i : Int) + 1) = ((i + 1 : Nat) : Int) := by unfold wrap64; omega
    have w2 : wrap64 ((i : Int) + 2) = ((i + 2 : Nat) : Int) := by unfold wrap64; omega
    simp only [impl_isReNode.l0, pairsB]
    rw [w1, w2, if_pos (by omega), if_pos (by omega), if_pos (by omega), if_pos (by omega), implPairs f0 neg s f3 hs d (i + 2) k (by omega) (by omega)]
    split <;> rfl
theorem specPairs (f0 : Int) (neg : Bool) (s : ByteArray) (f3 : List Int) (hs : s.size ≤ 1099511627776) : ∀ (d i k : Nat), i + 2 * d = s.size → d < k → spec_l2pairs.l0 k (i : Int) f0 neg s f3 = some (pairsB s d i)
  | 0, i, 0, _, hk => absurd hk (by omega)
  | 0, i, k + 1, hi, _ => by
    have w1 : wrap64 ((i : Int) + 1) = ((i + 1 : Nat) : Int) := by unfold wrap64; omega
    simp only [spec_l2pairs.l0]
    rw [w1, if_neg (by omega)]; rfl
  | d + 1, i, 0, _, hk => absurd hk (by omega)
  | d + 1, i, k + 1, hi, hk => by
    have w1 : wrap64 ((i : Int) + 1) = ((i + 1 : Nat) : Int) := by unfold wrap64; omega
    have w2 : wrap64 ((i : Int) + 2) = ((i + 2 : Nat) : Int) := by unfold wrap64; omega
    simp only [spec_l2pairs.l0, pairsB]
    rw [w1, w2, if_pos (by omega), if_pos (by omega), if_pos (by omega), if_pos (by omega), specPairs f0 neg s f3 hs d (i + 2) k (by omega) (by omega)]
    split <;> rfl
theorem implNode_ev (x : S49) (hs : x.f2.size ≤ 1099511627776) : Ev (fun k => impl_isReNode.f k x.f0 x.f1 x.f2 x.f3) (nodeB x) := by
  obtain ⟨f0, neg, s, f3⟩ := x
  dsimp only at hs ⊢
  refine ⟨s.size + 10, fun k hk => ?_⟩
  obtain ⟨k, rfl⟩ : ∃ j, k = j + 5 := ⟨k - 5, by omega⟩
  have hj3 : ∀ b, impl_isReNode.j3 (k + 5) b f0 neg s f3 = if b = true then some false else impl_isReNode.l0 (k + 4) 0 f0 neg s f3 := fun b => by simp only [impl_isReNode.j3]
  have e0 : (s.toList != ([] : List UInt8)) = decide (s.size ≠ 0) := by
    by_cases c : s.size = 0
    · rw [(toList_nil s).mpr c]; simp [c]
    · rw [decide_eq_true c]; exact bne_iff_ne.mpr fun h => c ((toList_nil s).mp h)
  show impl_isReNode.f (k + 5) f0 neg s f3 = _
  unfold impl_isReNode.f nodeB
  dsimp only
  by_cases h0 : f0 = 0
  · rw [if_pos h0, if_pos h0]
    by_cases h2 : s.size % 2 = 0
    · rw [if_pos (by omega)]
      by_cases h3 : f3.length = 0
      · rw [if_neg (by omega)]
        by_cases h4 : s.size = 0
        · rw [if_pos ((toList_nil s).mpr h4), hj3]
          cases neg with
          | false => rw [Bool.not_false, if_pos rfl, if_neg (fun h => h.2.2 ⟨h4, rfl⟩)]
          | true =>
            rw [Bool.not_true, if_neg (by decide), if_pos ⟨h2, h3, fun h => absurd h.2 (by decide)⟩]
            exact implPairs f0 true s f3 hs (s.size / 2) 0 (k + 4) (by omega) (by omega)
        · rw [if_neg (fun h => h4 ((toList_nil s).mp h)), hj3, if_neg (by decide), if_pos ⟨h2, h3, fun h => h4 h.1⟩]
          exact implPairs f0 neg s f3 hs (s.size / 2) 0 (k + 4) (by omega) (by omega)
      · rw [if_pos (by omega), hj3, if_pos rfl, if_neg (fun h => h3 h.2.1)]
    · rw [if_neg (by omega), hj3, if_pos rfl, if_neg (fun h => h2 h.1)]
  · rw [if_neg h0, if_neg h0, e0]
    have hj0 : ∀ b, impl_isReNode.j0 (k + 5) b f0 neg s f3 = if b = true then some false else if f0 = 1 ∨ f0 = 2 then some (decide (f3.length = 0)) else if f0 = 3 ∨ f0 = 4 then some (decide (2 ≤ f3.length)) else if f0 = 5 ∨ f0 = 6 ∨ f0 = 7 then some (decide (f3.length = 1)) else some false := fun b => by
      have l0 : ((f3.length : Int) == 0) = decide (f3.length = 0) := by
        by_cases c : f3.length = 0 <;> simp [c]
      have l1 : ((f3.length : Int) == 1) = decide (f3.length = 1) := by
        by_cases c : f3.length = 1
        · simp [c]
        · rw [decide_eq_false c]; exact beq_eq_false_iff_ne.mpr fun h => c (by omega)
      have l2 : decide ((f3.length : Int) ≥ 2) = decide (2 ≤ f3.length) := by
        by_cases c : 2 ≤ f3.length
        · rw [decide_eq_true c]; exact decide_eq_true (by omega)
        · rw [decide_eq_false c]; exact decide_eq_false (by omega)
      simp only [impl_isReNode.j0, impl_isReNode.j1, impl_isReNode.j2, l0, l1, l2]
      cases b with
      | true => rfl
      | false =>
        simp only [Bool.false_eq_true, if_false]
        by_cases c1 : f0 = 1
        · subst c1; rfl
        by_cases c2 : f0 = 2
        · subst c2; rfl
        by_cases c3 : f0 = 3
        · subst c3; rfl
        by_cases c4 : f0 = 4
        · subst c4; rfl
        by_cases c5 : f0 = 5
        · subst c5; rfl
        by_cases c6 : f0 = 6
        · subst c6; rfl
        by_cases c7 : f0 = 7
        · subst c7; rfl
        simp [c1, c2, c3, c4, c5, c6, c7]
    cases neg with
    | true => rw [if_pos rfl, hj0, if_pos rfl, if_pos (.inl rfl)]
    | false =>
      rw [if_neg (by decide), hj0]
      by_cases c : s.size = 0
      · rw [decide_eq_false (show ¬ s.size ≠ 0 from fun h => h c), if_neg (by decide), if_neg (show ¬ (false = true ∨ s.size ≠ 0) from fun h => h.elim (by decide) (fun h => h c))]
        split
        · rfl
        · split
          · rfl
          · split <;> rfl
      · rw [decide_eq_true c, if_pos rfl, if_pos (.inr c)]
theorem specNode_ev (x : S49) (hs : x.f2.size ≤ 1099511627776) : Ev (fun k => spec_l2kidsOk.f k x.f0 x.f1 x.f2 x.f3) (nodeB x) := by
  obtain ⟨f0, neg, s, f3⟩ := x
  dsimp only at hs ⊢
  refine ⟨s.size + 10, fun k hk => ?_⟩
  obtain ⟨k, rfl⟩ : ∃ j, k = j + 5 := ⟨k - 5, by omega⟩
  have hj0 : ∀ b, spec_l2pairs.j0 (k + 5) b f0 neg s f3 = if b = true then some false else spec_l2pairs.l0 (k + 4) 0 f0 neg s f3 := fun b => by simp only [spec_l2pairs.j0]
  have e0 : (s.toList == ([] : List UInt8)) = decide (s.size = 0) := by
    by_cases c : s.size = 0
    · rw [(toList_nil s).mpr c]; simp [c]
    · rw [decide_eq_false c]; exact beq_eq_false_iff_ne.mpr fun h => c ((toList_nil s).mp h)
  show spec_l2kidsOk.f (k + 5) f0 neg s f3 = _
  unfold spec_l2kidsOk.f nodeB
  dsimp only
  by_cases h0 : f0 = 0
  · rw [if_pos h0, if_pos h0]
    by_cases h3 : f3.length = 0
    · rw [if_pos (by omega)]
      unfold spec_l2pairs.f
      by_cases h2 : s.size % 2 = 0
      · rw [if_neg (by omega)]
        by_cases h4 : s.size = 0
        · rw [if_pos (by omega), hj0]
          cases neg with
          | false => rw [Bool.not_false, if_pos rfl, if_neg (fun h => h.2.2 ⟨h4, rfl⟩)]; rfl
          | true =>
            rw [Bool.not_true, if_neg (by decide), if_pos ⟨h2, h3, fun h => absurd h.2 (by decide)⟩, show (0 : Int) = ((0 : Nat) : Int) from rfl, specPairs f0 true s f3 hs (s.size / 2) 0 (k + 4) (by omega) (by omega)]; rfl
        · rw [if_neg (by omega), hj0, if_neg (by decide), if_pos ⟨h2, h3, fun h => h4 h.1⟩, show (0 : Int) = ((0 : Nat) : Int) from rfl, specPairs f0 neg s f3 hs (s.size / 2) 0 (k + 4) (by omega) (by omega)]; rfl
      · rw [if_pos (by omega), hj0, if_pos rfl, if_neg (fun h => h2 h.1)]; rfl
    · rw [if_neg (by omega), if_neg (fun h => h3 h.2.1)]
  · rw [if_neg h0, if_neg h0]
    have l0 : ((f3.length : Int) = 0) ↔ (f3.length = 0) := by omega
    have l1 : ((f3.length : Int) = 1) ↔ (f3.length = 1) := by omega
    have l2 : ((f3.length : Int) ≥ 2) ↔ (2 ≤ f3.length) := by omega
    have fin : ∀ (p : Prop) [Decidable p], (if p then (if neg = true then some false else some (s.toList == ([] : List UInt8))) else some false) = some (if neg = true ∨ s.size ≠ 0 then false else decide p) := fun p _ => by
      rw [e0]
      cases neg <;> by_cases c : s.size = 0 <;> by_cases d : p <;> simp [c, d]
    have res : ∀ b, b = decide (f0 = 1 ∨ f0 = 2) → spec_l2kidsOk.j0 (k + 5) f0 b f0 neg s f3 = some (if neg = true ∨ s.size ≠ 0 then false else if f0 = 1 ∨ f0 = 2 then decide (f3.length = 0) else if f0 = 3 ∨ f0 = 4 then decide (2 ≤ f3.length) else if f0 = 5 ∨ f0 = 6 ∨ f0 = 7 then decide (f3.length = 1) else false) := fun b hb => by
      simp only [spec_l2kidsOk.j0, spec_l2kidsOk.j1, fin, l0, l1, l2, hb]
      by_cases c1 : f0 = 1
      · subst c1; rfl
      by_cases c2 : f0 = 2
      · subst c2; rfl
      by_cases c3 : f0 = 3
      · subst c3; rfl
      by_cases c4 : f0 = 4
      · subst c4; rfl
      by_cases c5 : f0 = 5
      · subst c5; rfl
      by_cases c6 : f0 = 6
      · subst c6; rfl
      by_cases c7 : f0 = 7
      · subst c7; rfl
      simp [c1, c2, c3, c4, c5, c6, c7]
    by_cases c1 : f0 = 1
    · rw [if_pos c1, res _ (by rw [c1]; rfl)]
    · rw [if_neg c1, res _ (by by_cases c2 : f0 = 2 <;> simp [c1, c2])]
def cnts (n : Nat) (D : List Int) : List Int := (List.range n).map fun (j : Nat) => (D.count (j : Int) : Int)
theorem cnts_len (n : Nat) (D : List Int) : (cnts n D).length = n := by simp [cnts]
theorem cnts_nil (n : Nat) : cnts n [] = List.replicate n 0 := by
  apply List.ext_getElem
  · simp [cnts]
  · intro i h1 h2
    simp [cnts]
theorem cnts_rd (n : Nat) (D : List Int) (q : Int) (h0 : 0 ≤ q) (h1 : q < n) : rd (cnts n D) q = (D.count q : Int) := by
  unfold rd cnts
  obtain ⟨m, rfl⟩ := Int.eq_ofNat_of_zero_le h0
  have hm : m < n := by omega
  rw [List.getD_eq_getElem?_getD, Int.toNat_natCast, List.getElem?_map, List.getElem?_range hm]; rfl
theorem cnts_set (n : Nat) (D : List Int) (q : Int) (h0 : 0 ≤ q) (h1 : q < n) : (cnts n D).set q.toNat ((D.count q : Int) + 1) = cnts n (D ++ [q]) := by
  obtain ⟨m, rfl⟩ := Int.eq_ofNat_of_zero_le h0
  have hm : m < n := by omega
  apply List.ext_getElem
  · simp [cnts]
  · intro i h1 h2
    rw [List.getElem_set]
    have hi : i < n := by simpa [cnts] using h2
    by_cases c : ((m : Int)).toNat = i
    · have c' : m = i := by omega
      rw [if_pos c]
      subst c'
      simp [cnts, List.count_append]
    · have c' : ¬ (m : Int) = (i : Int) := by omega
      rw [if_neg c]
      simp [cnts, List.count_append, List.count_singleton, c']
def chkB (n : Nat) (D : List Int) : Bool := (List.range (n - 1)).all fun (j : Nat) => decide (D.count (j : Int) = 1)
def kidB (i : Nat) (q : Int) : Bool := decide (0 ≤ q) && decide (q < (i : Int))
def resB (l : List S49) : Nat → Nat → List Int → Bool
  | 0, _, D => chkB l.length D
  | d + 1, i, D => nodeB (nodeAt l i) && ((nodeAt l i).f3.all (kidB i) && resB l d (i + 1) (D ++ (nodeAt l i).f3))
def okB (l : List S49) : Bool := decide (1 ≤ l.length) && (decide (l.length ≤ 200) && resB l l.length 0 [])
theorem resB_twice (l : List S49) (j : Nat) (hj : j < l.length - 1) : ∀ (d i : Nat) (D : List Int), 2 ≤ D.count (j : Int) → resB l d i D = false
  | 0, _, D, h => by
    simp only [resB, chkB]
    rw [List.all_eq_false]
    exact ⟨j, List.mem_range.mpr hj, by simp; omega⟩
  | d + 1, i, D, h => by
    simp only [resB]
    rw [resB_twice l j hj d (i + 1) _ (by rw [List.count_append]; omega), Bool.and_false, Bool.and_false]
structure Fits (l : List S49) : Prop where
  kids : ∀ n, n < l.length → (nodeAt l n).f3.length ≤ 1048576
  set : ∀ n, n < l.length → (nodeAt l n).f2.size ≤ 1048576
end Go.Proofs.YtlakdfbfkbndiaaDoor.Q
namespace Go.Proofs.YtlakdfbfkbndiaaDoor.Q
open Go.RowKit Go.Proofs.YtlakdfbfkbndiaaDoor.Re Go.Proofs.YtlakdfbfkbndiaaDoorW.PrintWords Go.Proofs.YtlakdfbfkbndiaaDoorW.PrintLast Go.Proofs.YtlakdfbfkbndiaaDoorW.PrintMore
section
variable {l : List S49}
theorem between_eq (q a b : Int) : impl_between.f q a b = some (decide (a ≤ q) && decide (q ≤ b)) := by
  unfold impl_between.f
  by_cases h : q ≥ a
  · rw [if_pos h, decide_eq_true (show a ≤ q from h), Bool.true_and]
  · rw [if_neg h, decide_eq_false (show ¬ a ≤ q from h), Bool.false_and]
theorem drop_at (ks : List Int) (p : Nat) (hp : p < ks.length) : ks.drop p = rd ks (p : Int) :: ks.drop (p + 1) := by
  unfold rd
  rw [Int.toNat_natCast, List.drop_eq_getElem_cons hp, List.getD_eq_getElem?_getD, List.getElem?_eq_getElem hp]; rfl
theorem implOk_l1 (hl : l.length ≤ 200) (i : Nat) (hi : i < l.length) (ks : List Int) (hks : ks.length ≤ 1048576) : ∀ (e p : Nat), p + e = ks.length → ∀ (k : Nat) (D : List Int), D.length ≤ 1048576 * i + p →
    impl_ReOk.l1 (k + e + 1) l (cnts l.length D) (i : Int) l (l.length : Int) (i : Int) ks (ks.length : Int) (p : Int) =
      if (ks.drop p).all (kidB i) = true then impl_ReOk.l0 k l (cnts l.length (D ++ ks.drop p)) l (l.length : Int) ((i + 1 : Nat) : Int) else some false
  | 0, p, hp, k, D, hD => by
    have wi : wrap64 ((i : Int) + 1) = ((i + 1 : Nat) : Int) := by unfold wrap64; omega
    simp only [impl_ReOk.l1]
    rw [if_neg (by omega), wi, List.drop_eq_nil_of_le (by omega), List.append_nil]
    rfl
  | e + 1, p, hp, k, D, hD => by
    have hlt : p < ks.length := by omega
    have wp : wrap64 ((p : Int) + 1) = ((p + 1 : Nat) : Int) := by unfold wrap64; omega
    have wi : wrap64 ((i : Int) - 1) = (i : Int) - 1 := by unfold wrap64; omega
    have ih := implOk_l1 hl i hi ks hks e (p + 1) (by omega) k
    have e1 : k + (e + 1) + 1 = (k + e + 1) + 1 := rfl
    rw [e1]
    generalize k + e + 1 = K at ih ⊢
    simp only [impl_ReOk.l1]
    rw [if_pos (by omega), if_pos (by omega), if_pos (by omega), between_eq, Option.bind_some, wi, wp, drop_at ks p hlt]
    generalize rd ks (p : Int) = q
    by_cases hq : 0 ≤ q ∧ q < (i : Int)
    · have hb : (decide (0 ≤ q) && decide (q ≤ (i : Int) - 1)) = true := by rw [decide_eq_true hq.1, decide_eq_true (show q ≤ (i : Int) - 1 by omega)]; rfl
      have hk : kidB i q = true := by unfold kidB; rw [decide_eq_true hq.1, decide_eq_true hq.2]; rfl
      have hc : D.count q ≤ D.length := List.count_le_length
      have wc : wrap64 ((D.count q : Int) + 1) = (D.count q : Int) + 1 := by unfold wrap64; omega
      rw [hb, if_pos rfl, if_pos hq.1, if_pos (by rw [cnts_len]; omega), cnts_rd _ _ _ hq.1 (by omega), wc, cnts_set _ _ _ hq.1 (by omega),
        ih (D ++ [q]) (by rw [List.length_append, List.length_singleton]; omega), List.all_cons, hk, Bool.true_and, List.append_assoc]
      rfl
    · have hb : (decide (0 ≤ q) && decide (q ≤ (i : Int) - 1)) = false := by
        by_cases c : 0 ≤ q
        · rw [decide_eq_false (show ¬ q ≤ (i : Int) - 1 by omega), Bool.and_false]
        · rw [decide_eq_false c, Bool.false_and]
      have hk : kidB i q = false := by
        unfold kidB
        by_cases c : 0 ≤ q
        · rw [decide_eq_false (show ¬ q < (i : Int) by omega), Bool.and_false]
        · rw [decide_eq_false c, Bool.false_and]
      rw [hb, if_neg (by decide), List.all_cons, hk, Bool.false_and, if_neg (by decide)]
theorem rdn (l : List S49) (i : Nat) : rd_T49 l (i : Int) = nodeAt l i := rfl
theorem take_cnts (n : Nat) (D : List Int) : ((cnts n D).take (n - 1)).any (fun x => x != 1) = !chkB n D := by
  unfold cnts chkB
  rw [← List.map_take, List.any_map, List.take_range, show min (n - 1) n = n - 1 by omega, List.not_all_eq_any_not]
  refine congrArg (fun f => List.any (List.range (n - 1)) f) (funext fun j => ?_)
  show ((D.count (j : Int) : Int) != 1) = !decide (D.count (j : Int) = 1)
  by_cases c : D.count (j : Int) = 1
  · rw [c]; rfl
  · rw [decide_eq_false c]
    exact bne_iff_ne.mpr fun h => c (by omega)
theorem implOk_l0 (hF : Fits l) (h1 : 1 ≤ l.length) (hl : l.length ≤ 200) : ∀ (d i : Nat) (D : List Int), i + d = l.length → D.length ≤ 1048576 * i → Ev (fun k => impl_ReOk.l0 k l (cnts l.length D) l (l.length : Int) (i : Int)) (resB l d i D) := by
  intro d
  induction d with
  | zero =>
    intro i D hi hD
    refine Ev.succ (Ev.mk fun k => ?_)
    have wl : wrap64 ((l.length : Int) - 1) = ((l.length - 1 : Nat) : Int) := by unfold wrap64; omega
    simp only [impl_ReOk.l0]
    rw [if_neg (by omega), wl, if_pos (by omega), if_pos (by rw [cnts_len]; omega), Int.toNat_natCast]
    unfold slices_ContainsFunc_int_int.f
    rw [if_pos rfl, Option.bind_some, take_cnts, Bool.not_not]
    rfl
  | succ d ih =>
    intro i D hi hD
    have hlt : i < l.length := by omega
    have hks := hF.kids i hlt
    have hn := implNode_ev (nodeAt l i) (by have := hF.set i hlt; omega)
    refine Ev.succ (Ev.congr (Ev.bind hn (g := fun k t => if t = true then (impl_ReOk.l1 k l (cnts l.length D) (i : Int) l (l.length : Int) (i : Int) (nodeAt l i).f3 ((nodeAt l i).f3.length : Int) 0) else (some false)) ?_) (fun k => by
      simp only [impl_ReOk.l0]
      rw [if_pos (show (i : Int) < (l.length : Int) by omega), if_pos (Int.natCast_nonneg i), if_pos (show (i : Int) < (l.length : Int) by omega), rdn]))
    simp only [resB]
    cases nodeB (nodeAt l i) with
    | false => exact Ev.mk fun k => rfl
    | true =>
      rw [Bool.true_and]
      have hs : ∀ k, impl_ReOk.l1 (k + (nodeAt l i).f3.length + 1) l (cnts l.length D) (i : Int) l (l.length : Int) (i : Int) (nodeAt l i).f3 ((nodeAt l i).f3.length : Int) 0 = if (nodeAt l i).f3.all (kidB i) = true then impl_ReOk.l0 k l (cnts l.length (D ++ (nodeAt l i).f3)) l (l.length : Int) ((i + 1 : Nat) : Int) else some false := fun k =>
        implOk_l1 hl i hlt (nodeAt l i).f3 hks (nodeAt l i).f3.length 0 (by omega) k D (by omega)
      refine Ev.add ((nodeAt l i).f3.length + 1) (Ev.congr (f := fun k => if (nodeAt l i).f3.all (kidB i) = true then impl_ReOk.l0 k l (cnts l.length (D ++ (nodeAt l i).f3)) l (l.length : Int) ((i + 1 : Nat) : Int) else some false) ?_ (fun k => by
        show (if true = true then _ else _) = _
        rw [if_pos rfl, ← Nat.add_assoc]; exact hs k))
      cases c : (nodeAt l i).f3.all (kidB i) with
      | false => exact Ev.mk fun k => rfl
      | true =>
        rw [Bool.true_and]
        exact ih (i + 1) (D ++ (nodeAt l i).f3) (by omega) (by rw [List.length_append]; omega)
theorem implOk_ev (hF : Fits l) : Ev (fun k => impl_ReOk.f k l) (okB l) := by
  unfold okB
  by_cases h1 : 1 ≤ l.length
  · by_cases hl : l.length ≤ 200
    · rw [decide_eq_true h1, decide_eq_true hl, Bool.true_and, Bool.true_and]
      refine Ev.congr (implOk_l0 hF h1 hl l.length 0 [] (by omega) (by simp)) fun k => ?_
      unfold impl_ReOk.f
      rw [between_eq, Option.bind_some, decide_eq_true (show (1 : Int) ≤ (l.length : Int) by omega), decide_eq_true (show (l.length : Int) ≤ 200 by omega)]
      rw [Bool.true_and, if_pos rfl, if_pos (Int.natCast_nonneg _), Int.toNat_natCast, if_pos (by omega), cnts_nil]
      rfl
    · refine Ev.mk fun k => ?_
      show impl_ReOk.f k l = _
      unfold impl_ReOk.f
      rw [between_eq, Option.bind_some, decide_eq_false (show ¬ (l.length : Int) ≤ 200 by omega), Bool.and_false, if_neg (by decide), decide_eq_false hl, Bool.false_and, Bool.and_false]
  · refine Ev.mk fun k => ?_
    show impl_ReOk.f k l = _
    unfold impl_ReOk.f
    rw [between_eq, Option.bind_some, decide_eq_false (show ¬ (1 : Int) ≤ (l.length : Int) by omega), Bool.false_and, if_neg (by decide), decide_eq_false h1, Bool.false_and]
theorem specOk_l1 (hl : l.length ≤ 200) (i : Nat) (hi : i < l.length) (r : Bool) : ∀ (e p : Nat), p + e = (nodeAt l i).f3.length → (nodeAt l i).f3.length ≤ 1048576 → ∀ (D : List Int), D.length ≤ 1048576 * i + p →
    (((nodeAt l i).f3.drop p).all (kidB i) = true → Ev (fun k => spec_ReOk.l0 k l (cnts l.length (D ++ (nodeAt l i).f3.drop p)) ((i + 1 : Nat) : Int)) r) → (((nodeAt l i).f3.drop p).all (kidB i) = false → r = false) →
    (∀ q : Int, 0 ≤ q → q < (i : Int) → 2 ≤ (D ++ (nodeAt l i).f3.drop p).count q → r = false) →
    Ev (fun k => spec_ReOk.l1 k l (cnts l.length D) (i : Int) (p : Int)) r
  | 0, p, hp, hks, D, hD, hgo, hno, htw => by
    have wi : wrap64 ((i : Int) + 1) = ((i + 1 : Nat) : Int) := by unfold wrap64; omega
    rw [List.drop_eq_nil_of_le (by omega), List.append_nil] at hgo
    refine Ev.succ (Ev.congr (hgo rfl) fun k => ?_)
    simp only [spec_ReOk.l1]
    rw [if_pos (Int.natCast_nonneg i), if_pos (show (i : Int) < (l.length : Int) by omega), rdn, if_neg (by omega), wi]
  | e + 1, p, hp, hks, D, hD, hgo, hno, htw => by
    have hlt : p < (nodeAt l i).f3.length := by omega
    have wp : wrap64 ((p : Int) + 1) = ((p + 1 : Nat) : Int) := by unfold wrap64; omega
    have ih := specOk_l1 hl i hi r e (p + 1) (by omega) hks
    have hu : ∀ k, spec_ReOk.l1 (k + 1) l (cnts l.length D) (i : Int) (p : Int) = if rd (nodeAt l i).f3 (p : Int) < 0 then some false else if rd (nodeAt l i).f3 (p : Int) ≥ (i : Int) then some false else if 0 ≤ rd (nodeAt l i).f3 (p : Int) then (if rd (nodeAt l i).f3 (p : Int) < ((cnts l.length D).length : Int) then (if rd (cnts l.length D) (rd (nodeAt l i).f3 (p : Int)) > 0 then some false else spec_ReOk.l1 k l ((cnts l.length D).set (rd (nodeAt l i).f3 (p : Int)).toNat (wrap64 (rd (cnts l.length D) (rd (nodeAt l i).f3 (p : Int)) + 1))) (i : Int) ((p + 1 : Nat) : Int)) else none) else none := fun k => by
      conv => lhs; simp only [spec_ReOk.l1]
      rw [if_pos (Int.natCast_nonneg i), if_pos (show (i : Int) < (l.length : Int) by omega), rdn, if_pos (show (p : Int) < ((nodeAt l i).f3.length : Int) by omega), if_pos (Int.natCast_nonneg p), wp]
    rw [drop_at _ p hlt] at hgo hno htw
    generalize rd (nodeAt l i).f3 (p : Int) = q at hu hgo hno htw
    by_cases hq : 0 ≤ q ∧ q < (i : Int)
    · have hk : kidB i q = true := by unfold kidB; rw [decide_eq_true hq.1, decide_eq_true hq.2]; rfl
      have hc : D.count q ≤ D.length := List.count_le_length
      have wc : wrap64 ((D.count q : Int) + 1) = (D.count q : Int) + 1 := by unfold wrap64; omega
      rw [List.all_cons, hk, Bool.true_and] at hgo hno
      by_cases hz : (D.count q : Int) > 0
      · have hr : r = false := htw q hq.1 hq.2 (by rw [List.count_append, List.count_cons_self]; omega)
        refine Ev.succ (Ev.mk fun k => ?_)
        rw [hu k, if_neg (by omega), if_neg (by omega), if_pos hq.1, if_pos (by rw [cnts_len]; omega), cnts_rd _ _ _ hq.1 (by omega), if_pos hz, hr]
      · have happ : D ++ q :: (nodeAt l i).f3.drop (p + 1) = (D ++ [q]) ++ (nodeAt l i).f3.drop (p + 1) := by rw [List.append_assoc]; rfl
        rw [happ] at hgo htw
        refine Ev.succ (Ev.congr (ih (D ++ [q]) (by rw [List.length_append, List.length_singleton]; omega) hgo hno htw) fun k => ?_)
        rw [hu k, if_neg (by omega), if_neg (by omega), if_pos hq.1, if_pos (by rw [cnts_len]; omega), cnts_rd _ _ _ hq.1 (by omega), if_neg hz, wc, cnts_set _ _ _ hq.1 (by omega)]
    · have hk : kidB i q = false := by
        unfold kidB
        by_cases c : 0 ≤ q
        · rw [decide_eq_false (show ¬ q < (i : Int) by omega), Bool.and_false]
        · rw [decide_eq_false c, Bool.false_and]
      rw [List.all_cons, hk, Bool.false_and] at hno
      refine Ev.succ (Ev.mk fun k => ?_)
      rw [hu k, hno rfl]
      by_cases c : q < 0
      · rw [if_pos c]
      · rw [if_neg c, if_pos (by omega)]
theorem specOk_l2 (hl : l.length ≤ 200) (D : List Int) : ∀ (d j k : Nat), j + d = l.length - 1 → 1 ≤ l.length → d < k → spec_ReOk.l2 k l (cnts l.length D) (j : Int) = some ((List.range' j d).all fun (j : Nat) => decide (D.count (j : Int) = 1))
  | 0, j, 0, _, _, hk => absurd hk (by omega)
  | 0, j, k + 1, hj, h1, _ => by
    have wj : wrap64 ((j : Int) + 1) = ((j + 1 : Nat) : Int) := by unfold wrap64; omega
    simp only [spec_ReOk.l2]
    rw [wj, if_neg (by omega)]
    rfl
  | d + 1, j, 0, _, _, hk => absurd hk (by omega)
  | d + 1, j, k + 1, hj, h1, hk => by
    have wj : wrap64 ((j : Int) + 1) = ((j + 1 : Nat) : Int) := by unfold wrap64; omega
    simp only [spec_ReOk.l2]
    rw [wj, if_pos (by omega), if_pos (by omega), if_pos (by rw [cnts_len]; omega), cnts_rd _ _ _ (Int.natCast_nonneg j) (by omega), specOk_l2 hl D d (j + 1) k (by omega) h1 (by omega), List.range'_succ, List.all_cons]
    by_cases c : D.count (j : Int) = 1
    · rw [if_pos (by omega), decide_eq_true c, Bool.true_and]
    · rw [if_neg (by omega), decide_eq_false c, Bool.false_and]
theorem specOk_l0 (hF : Fits l) (h1 : 1 ≤ l.length) (hl : l.length ≤ 200) : ∀ (d i : Nat) (D : List Int), i + d = l.length → D.length ≤ 1048576 * i → Ev (fun k => spec_ReOk.l0 k l (cnts l.length D) (i : Int)) (resB l d i D) := by
  intro d
  induction d with
  | zero =>
    intro i D hi hD
    refine Ev.succ ⟨l.length + 1, fun k hk => ?_⟩
    show spec_ReOk.l0 (k + 1) l (cnts l.length D) (i : Int) = _
    have h2 := specOk_l2 hl D (l.length - 1) 0 k (by omega) h1 (by omega)
    conv => lhs; simp only [spec_ReOk.l0]
    rw [if_neg (by omega)]
    refine h2.trans ?_
    rw [← List.range_eq_range']; rfl
  | succ d ih =>
    intro i D hi hD
    have hlt : i < l.length := by omega
    have hks := hF.kids i hlt
    have hn := specNode_ev (nodeAt l i) (by have := hF.set i hlt; omega)
    refine Ev.succ (Ev.congr (Ev.bind hn (g := fun k t => if t = true then (spec_ReOk.l1 k l (cnts l.length D) (i : Int) 0) else (some false)) ?_) (fun k => by
      simp only [spec_ReOk.l0]
      rw [if_pos (show (i : Int) < (l.length : Int) by omega), if_pos (Int.natCast_nonneg i), rdn]))
    simp only [resB]
    cases nodeB (nodeAt l i) with
    | false => exact Ev.mk fun k => rfl
    | true =>
      rw [Bool.true_and]
      refine Ev.congr (f := fun k => spec_ReOk.l1 k l (cnts l.length D) (i : Int) 0) ?_ (fun k => if_pos rfl)
      refine specOk_l1 hl i hlt _ (nodeAt l i).f3.length 0 (by omega) hks D (by omega) ?_ ?_ ?_
      · intro hall
        rw [List.drop_zero] at hall ⊢
        rw [hall, Bool.true_and]
        exact ih (i + 1) (D ++ (nodeAt l i).f3) (by omega) (by rw [List.length_append]; omega)
      · intro hall
        rw [List.drop_zero] at hall
        rw [hall, Bool.false_and]
      · intro q h0 hq h2
        rw [List.drop_zero] at h2
        obtain ⟨m, rfl⟩ := Int.eq_ofNat_of_zero_le h0
        rw [resB_twice l m (by omega) d (i + 1) _ h2, Bool.and_false]
theorem specOk_ev (hF : Fits l) : Ev (fun k => spec_ReOk.f k l) (okB l) := by
  unfold okB
  by_cases h1 : 1 ≤ l.length
  · by_cases hl : l.length ≤ 200
    · rw [decide_eq_true h1, decide_eq_true hl, Bool.true_and, Bool.true_and]
      refine Ev.succ (Ev.congr (specOk_l0 hF h1 hl l.length 0 [] (by omega) (by simp)) fun k => ?_)
      unfold spec_ReOk.f
      rw [if_neg (by omega), decide_eq_false (show ¬ (l.length : Int) > 200 by omega)]
      simp only [spec_ReOk.j0]
      rw [if_neg (by decide), if_pos (Int.natCast_nonneg _), Int.toNat_natCast, if_pos (by omega), cnts_nil]
      rfl
    · refine Ev.succ (Ev.mk fun k => ?_)
      show spec_ReOk.f (k + 1) l = _
      unfold spec_ReOk.f
      rw [if_neg (by omega), decide_eq_true (show (l.length : Int) > 200 by omega), decide_eq_false hl, Bool.false_and, Bool.and_false]
      simp only [spec_ReOk.j0, if_true]
  · refine Ev.succ (Ev.mk fun k => ?_)
    show spec_ReOk.f (k + 1) l = _
    unfold spec_ReOk.f
    rw [if_pos (by omega), decide_eq_false h1, Bool.false_and]
    simp only [spec_ReOk.j0, if_true]
end
end Go.Proofs.YtlakdfbfkbndiaaDoor.Q
namespace Go.Proofs.YtlakdfbfkbndiaaDoor.Q
open Go.RowKit Go.Proofs.YtlakdfbfkbndiaaDoor.Re Go.Proofs.YtlakdfbfkbndiaaDoorW.PrintWords Go.Proofs.YtlakdfbfkbndiaaDoorW.PrintLast Go.Proofs.YtlakdfbfkbndiaaDoorW.PrintMore
def sumN (f : Nat → Nat) : Nat → Nat
  | 0 => 0
  | m + 1 => sumN f m + f m
def sumL (f : Int → Nat) : List Int → Nat
  | [] => 0
  | q :: r => f q + sumL f r
theorem sumL_append (f : Int → Nat) (B : List Int) : ∀ A, sumL f (A ++ B) = sumL f A + sumL f B
  | [] => by simp [sumL]
  | q :: A => by
    rw [List.cons_append]
    simp only [sumL]
    rw [sumL_append f B A]; omega
theorem sumN_add (f g : Nat → Nat) : ∀ m, sumN (fun j => f j + g j) m = sumN f m + sumN g m
  | 0 => rfl
  | m + 1 => by simp only [sumN]; rw [sumN_add f g m]; omega
theorem sumN_congr {f g : Nat → Nat} : ∀ m, (∀ j, j < m → f j = g j) → sumN f m = sumN g m
  | 0, _ => rfl
  | m + 1, h => by
    simp only [sumN]
    rw [sumN_congr m (fun j hj => h j (by omega)), h m (by omega)]
theorem sumN_none (f : Nat → Nat) (q : Nat) : ∀ m, m ≤ q → sumN (fun j => if j = q then f j else 0) m = 0
  | 0, _ => rfl
  | m + 1, h => by
    simp only [sumN]
    rw [sumN_none f q m (by omega), if_neg (by omega)]
theorem sumN_one (f : Nat → Nat) (q : Nat) : ∀ m, q < m → sumN (fun j => if j = q then f j else 0) m = f q
  | 0, h => absurd h (by omega)
  | m + 1, h => by
    simp only [sumN]
    by_cases c : q = m
    · subst c; rw [sumN_none f q q (Nat.le_refl _), if_pos rfl, Nat.zero_add]
    · rw [sumN_one f q m (by omega), if_neg (by omega), Nat.add_zero]
theorem sumL_count (f : Nat → Nat) (m : Nat) : ∀ D : List Int, (∀ q, q ∈ D → 0 ≤ q ∧ q < (m : Int)) → sumL (fun q => f q.toNat) D = sumN (fun j => D.count (j : Int) * f j) m
  | [], _ => by
    have : ∀ m, sumN (fun j => ([] : List Int).count (j : Int) * f j) m = 0 := fun m => by
      induction m with
      | zero => rfl
      | succ m ih => simp only [sumN]; rw [ih]; simp
    rw [this]; rfl
  | q :: D, h => by
    simp only [sumL]
    have hq := h q List.mem_cons_self
    rw [sumL_count f m D (fun q hq => h q (List.mem_cons_of_mem _ hq)), ← sumN_one f q.toNat m (by omega), Nat.add_comm, ← sumN_add]
    refine sumN_congr m fun j _ => ?_
    rw [List.count_cons]
    by_cases c : j = q.toNat
    · have : (q == (j : Int)) = true := beq_iff_eq.mpr (by omega)
      rw [if_pos c, this, if_pos rfl, Nat.add_mul, Nat.one_mul]
    · have : (q == (j : Int)) = false := beq_eq_false_iff_ne.mpr (by omega)
      rw [if_neg c, this]; simp
end Go.Proofs.YtlakdfbfkbndiaaDoor.Q
namespace Go.Proofs.YtlakdfbfkbndiaaDoor.Q
open Go.RowKit Go.Proofs.YtlakdfbfkbndiaaDoor.Re Go.Proofs.YtlakdfbfkbndiaaDoorW.PrintWords Go.Proofs.YtlakdfbfkbndiaaDoorW.PrintLast Go.Proofs.YtlakdfbfkbndiaaDoorW.PrintMore
section
variable {l : List S49}
def flatN (l : List S49) : Nat → List Int
  | 0 => []
  | m + 1 => flatN l m ++ (nodeAt l m).f3
theorem resB_all : ∀ (d i : Nat), i + d = l.length → resB l d i (flatN l i) = true → (∀ n, i ≤ n → n < l.length → nodeB (nodeAt l n) = true ∧ (nodeAt l n).f3.all (kidB n) = true) ∧ chkB l.length (flatN l l.length) = true
  | 0, i, hi, h => by
    have e : i = l.length := by omega
    subst e
    exact ⟨fun n h1 h2 => absurd h2 (by omega), h⟩
  | d + 1, i, hi, h => by
    simp only [resB, Bool.and_eq_true] at h
    obtain ⟨h1, h2, h3⟩ := h
    obtain ⟨g1, g2⟩ := resB_all d (i + 1) (by omega) h3
    refine ⟨fun n hn hn2 => ?_, g2⟩
    by_cases c : n = i
    · subst c; exact ⟨h1, h2⟩
    · exact g1 n (by omega) hn2
theorem okB_all (h : okB l = true) : (1 ≤ l.length ∧ l.length ≤ 200) ∧ (∀ n, n < l.length → nodeB (nodeAt l n) = true ∧ (nodeAt l n).f3.all (kidB n) = true) ∧ chkB l.length (flatN l l.length) = true := by
  unfold okB at h
  simp only [Bool.and_eq_true, decide_eq_true_eq] at h
  obtain ⟨g1, g2⟩ := resB_all l.length 0 (by omega) h.2.2
  exact ⟨⟨h.1, h.2.1⟩, fun n hn => g1 n (by omega) hn, g2⟩
theorem nodeB_told {x : S49} (h : nodeB x = true) : (0 ≤ x.f0 ∧ x.f0 ≤ 7) ∧ (5 ≤ x.f0 → x.f3.length = 1) ∧ (x.f0 = 3 → 2 ≤ x.f3.length) ∧ (x.f0 = 0 → x.f2.size % 2 = 0) := by
  unfold nodeB at h
  by_cases h0 : x.f0 = 0
  · rw [if_pos h0] at h
    by_cases c : x.f2.size % 2 = 0 ∧ x.f3.length = 0 ∧ ¬ (x.f2.size = 0 ∧ x.f1 = false)
    · exact ⟨⟨by omega, by omega⟩, fun _ => by omega, fun _ => by omega, fun _ => c.1⟩
    · rw [if_neg c] at h; cases h
  · rw [if_neg h0] at h
    by_cases c : x.f1 = true ∨ x.f2.size ≠ 0
    · rw [if_pos c] at h; cases h
    · rw [if_neg c] at h
      by_cases c1 : x.f0 = 1 ∨ x.f0 = 2
      · exact ⟨⟨by omega, by omega⟩, fun _ => by omega, fun _ => by omega, fun _ => by omega⟩
      · rw [if_neg c1] at h
        by_cases c2 : x.f0 = 3 ∨ x.f0 = 4
        · rw [if_pos c2, decide_eq_true_eq] at h
          exact ⟨⟨by omega, by omega⟩, fun _ => by omega, fun _ => h, fun _ => by omega⟩
        · rw [if_neg c2] at h
          by_cases c3 : x.f0 = 5 ∨ x.f0 = 6 ∨ x.f0 = 7
          · rw [if_pos c3, decide_eq_true_eq] at h
            exact ⟨⟨by omega, by omega⟩, fun _ => h, fun _ => by omega, fun _ => by omega⟩
          · rw [if_neg c3] at h; cases h
theorem kidB_told {n : Nat} {q : Int} {ks : List Int} (h : ks.all (kidB n) = true) (hq : q ∈ ks) : 0 ≤ q ∧ q < (n : Int) := by
  have := List.all_eq_true.mp h q hq
  unfold kidB at this
  simpa using this
theorem okB_valid (hF : Fits l) (h : okB l = true) : Valid l := by
  obtain ⟨⟨h1, h2⟩, h3, _⟩ := okB_all h
  refine ⟨h1, h2, fun n hn => (nodeB_told (h3 n hn).1).1, fun n hn k hk => kidB_told (h3 n hn).2 hk, fun n hn h5 => ?_, fun n hn hf => ?_, fun n hn hf => (nodeB_told (h3 n hn).1).2.2.2 hf, fun n hn => by have := hF.set n hn; omega⟩
  · exact List.length_eq_one_iff.mp ((nodeB_told (h3 n hn).1).2.1 h5)
  · intro e
    have := (nodeB_told (h3 n hn).1).2.2.1 hf
    rw [e] at this
    exact absurd this (by decide)
theorem okB_validB (hF : Fits l) (h : okB l = true) : validB l = true := by
  have hV := okB_valid hF h
  obtain ⟨_, h3, _⟩ := okB_all h
  unfold validB
  rw [decide_eq_true hV.pos, decide_eq_true hV.len, Bool.true_and, Bool.true_and, List.all_eq_true]
  intro n hn
  have hn := List.mem_range.mp hn
  obtain ⟨g1, g2, g3, g4⟩ := nodeB_told (h3 n hn).1
  unfold nodeOkB
  have hk : ((nodeAt l n).f3.all fun k => decide (0 ≤ k) && decide (k < (n : Int))) = true := (h3 n hn).2
  have ht := hV.txt n hn
  simp only [Bool.and_eq_true, Bool.or_eq_true, decide_eq_true_eq]
  refine ⟨g1.1, g1.2, hk, ?_, ?_, ?_, ht⟩
  · by_cases c : (nodeAt l n).f0 < 5
    · exact .inl c
    · exact .inr (g2 (by omega))
  · by_cases c : (nodeAt l n).f0 = 3
    · have := g3 c; exact .inr (by omega)
    · exact .inl c
  · by_cases c : (nodeAt l n).f0 = 0
    · exact .inr (g4 c)
    · exact .inl c
def cost (l : List S49) : Nat → Nat → Nat
  | 0, _ => 0
  | f + 1, n => 5 + sumL (fun q => cost l f q.toNat) (nodeAt l n).f3
theorem sumL_congr {f g : Int → Nat} : ∀ D : List Int, (∀ q, q ∈ D → f q = g q) → sumL f D = sumL g D
  | [], _ => rfl
  | q :: D, h => by
    simp only [sumL]
    rw [h q List.mem_cons_self, sumL_congr D fun q hq => h q (List.mem_cons_of_mem _ hq)]
theorem cost_fuel (hV : Valid l) : ∀ (f g n : Nat), n < l.length → n < f → n < g → cost l f n = cost l g n
  | 0, _, _, _, h, _ => absurd h (by omega)
  | _ + 1, 0, _, _, _, h => absurd h (by omega)
  | f + 1, g + 1, n, hn, hf, hg => by
    simp only [cost]
    rw [sumL_congr _ fun q hq => cost_fuel hV f g q.toNat (by have := hV.kid n hn q hq; omega) (by have := hV.kid n hn q hq; omega) (by have := hV.kid n hn q hq; omega)]
def Cheap (b : Nat → Nat → Nat → Nat → List Re.Way × Nat) (k c : Nat) : Prop := ∀ x y m, (b k x y m).1.length ≤ c ∧ (b k x y m).2 + 1 ≤ m + c
theorem bldSeq_cheap (b : Nat → Nat → Nat → Nat → List Re.Way × Nat) (c : Int → Nat) : ∀ (L : List Int), (∀ q, q ∈ L → Cheap b q.toNat (c q)) → ∀ x y m, (bldSeq b (L.map Int.toNat) x y m).1.length ≤ sumL c L ∧ (bldSeq b (L.map Int.toNat) x y m).2 ≤ m + sumL c L
  | [], _, x, y, m => ⟨Nat.zero_le _, Nat.le_add_right _ _⟩
  | [q], h, x, y, m => by
    have := h q (by simp) x y m
    simp only [List.map_cons, List.map_nil, bldSeq, sumL]
    omega
  | q :: q2 :: L, h, x, y, m => by
    have h1 := h q (by simp) x m (m + 1)
    have h2 := bldSeq_cheap b c (q2 :: L) (fun q hq => h q (List.mem_cons_of_mem _ hq)) m y (b q.toNat x m (m + 1)).2
    simp only [List.map_cons, bldSeq] at h2 ⊢
    rw [show sumL c (q :: q2 :: L) = c q + sumL c (q2 :: L) from rfl, List.length_append]
    omega
theorem bldAlt_cheap (b : Nat → Nat → Nat → Nat → List Re.Way × Nat) (c : Int → Nat) (x y : Nat) : ∀ (L : List Int), (∀ q, q ∈ L → Cheap b q.toNat (c q)) → ∀ m, (bldAlt b x y (L.map Int.toNat) m).1.length ≤ sumL c L ∧ (bldAlt b x y (L.map Int.toNat) m).2 ≤ m + sumL c L
  | [], _, m => ⟨Nat.zero_le _, Nat.le_add_right _ _⟩
  | q :: L, h, m => by
    have h1 := h q (by simp) x y m
    have h2 := bldAlt_cheap b c x y L (fun q hq => h q (List.mem_cons_of_mem _ hq)) (b q.toNat x y m).2
    simp only [List.map_cons, bldAlt, sumL, List.length_append]
    omega
theorem bld_cheap (hV : Valid l) (s : ByteArray) : ∀ (f n : Nat), n < l.length → n < f → Cheap (bld (patOf l s) f) n (cost l f n)
  | 0, _, _, h => absurd h (by omega)
  | f + 1, n, hn, hf => fun x y m => by
    have hk : ∀ q, q ∈ (nodeAt l n).f3 → Cheap (bld (patOf l s) f) q.toNat (cost l f q.toNat) := fun q hq => by
      have := hV.kid n hn q hq
      exact bld_cheap hV s f q.toNat (by omega) (by omega)
    simp only [bld, cost]
    by_cases h3 : (patOf l s).kd n < 3
    · rw [if_pos h3]
      simp only [List.length_singleton]
      omega
    rw [if_neg h3]
    by_cases h4 : (patOf l s).kd n = 3
    · rw [if_pos h4]
      have h := bldSeq_cheap (bld (patOf l s) f) (fun q => cost l f q.toNat) (nodeAt l n).f3 hk x y m
      have e : (patOf l s).ks n = (nodeAt l n).f3.map Int.toNat := rfl
      rw [e]
      omega
    rw [if_neg h4]
    by_cases h5 : (patOf l s).kd n = 4
    · rw [if_pos h5]
      have h := bldAlt_cheap (bld (patOf l s) f) (fun q => cost l f q.toNat) x y (nodeAt l n).f3 hk m
      have e : (patOf l s).ks n = (nodeAt l n).f3.map Int.toNat := rfl
      rw [e]
      omega
    rw [if_neg h5]
    have hkd : (patOf l s).kd n = (nodeAt l n).f0.toNat := rfl
    obtain ⟨q, hq⟩ := hV.one n hn (by omega)
    have e : ((patOf l s).ks n).headD 0 = q.toNat := by
      show ((nodeAt l n).f3.map Int.toNat).headD 0 = q.toNat
      rw [hq]; rfl
    have h := hk q (by rw [hq]; simp) m (m + 1) (m + 2)
    rw [e, hq]
    simp only [sumL, List.length_append, List.length_singleton]
    have i1 : (if (patOf l s).kd n = 5 ∨ (patOf l s).kd n = 6 then ([((m : Int) + 1, (m : Int), -1)] : List Re.Way) else []).length ≤ 1 := by split <;> simp
    have i2 : (if (patOf l s).kd n ≠ 6 then ([((x : Int), (y : Int), -1)] : List Re.Way) else []).length ≤ 1 := by split <;> simp
    omega
theorem cost_all (hV : Valid l) : ∀ m, m ≤ l.length → sumN (cost l l.length) m = 5 * m + sumL (fun q => cost l l.length q.toNat) (flatN l m)
  | 0, _ => rfl
  | m + 1, h => by
    simp only [sumN, flatN]
    rw [cost_all hV m (by omega), sumL_append]
    have e : cost l l.length m = 5 + sumL (fun q => cost l l.length q.toNat) (nodeAt l m).f3 := by
      rw [cost_fuel hV l.length (l.length + 1) m (by omega) (by omega) (by omega)]
      rfl
    omega
theorem flat_in (hV : Valid l) : ∀ m, m ≤ l.length → ∀ q, q ∈ flatN l m → 0 ≤ q ∧ q < ((l.length - 1 : Nat) : Int)
  | 0, _, q, h => absurd h (by simp [flatN])
  | m + 1, hm, q, h => by
    rcases List.mem_append.mp h with h1 | h1
    · exact flat_in hV m (by omega) q h1
    · have := hV.kid m (by omega) q h1
      omega
theorem cost_root (hF : Fits l) (h : okB l = true) : cost l l.length (l.length - 1) = 5 * l.length := by
  have hV := okB_valid hF h
  obtain ⟨_, _, hc⟩ := okB_all h
  have hp := hV.pos
  have h1 := cost_all hV l.length (Nat.le_refl _)
  have h2 := sumL_count (cost l l.length) (l.length - 1) (flatN l l.length) (flat_in hV l.length (Nat.le_refl _))
  have h3 : sumN (fun j => (flatN l l.length).count (j : Int) * cost l l.length j) (l.length - 1) = sumN (cost l l.length) (l.length - 1) := sumN_congr _ fun j hj => by
    unfold chkB at hc
    have := List.all_eq_true.mp hc j (List.mem_range.mpr hj)
    rw [decide_eq_true_eq] at this
    rw [this, Nat.one_mul]
  have h4 : sumN (cost l l.length) l.length = sumN (cost l l.length) (l.length - 1) + cost l l.length (l.length - 1) := by
    obtain ⟨m, hm⟩ : ∃ m, l.length = m + 1 := ⟨l.length - 1, by omega⟩
    generalize cost l l.length = f
    rw [hm]; rfl
  omega
theorem okB_ways (hF : Fits l) (h : okB l = true) : waysOkB l = true := by
  have hV := okB_valid hF h
  have hp := hV.pos
  have hl := hV.len
  have hc := bld_cheap hV ⟨#[]⟩ l.length (l.length - 1) (by omega) (by omega) 0 1 2
  rw [cost_root hF h] at hc
  unfold waysOkB
  have e : allWays l = bld (patOf l ⟨#[]⟩) l.length (l.length - 1) 0 1 2 := rfl
  rw [okB_validB hF h, Bool.true_and, e, decide_eq_true (show (bld (patOf l ⟨#[]⟩) l.length (l.length - 1) 0 1 2).1.length ≤ 1000000 by omega), decide_eq_true (show (bld (patOf l ⟨#[]⟩) l.length (l.length - 1) 0 1 2).2 ≤ 1000000 by omega)]
  rfl
end
end Go.Proofs.YtlakdfbfkbndiaaDoor.Q
namespace Go.Proofs.YtlakdfbfkbndiaaDoor.Q
open Go.RowKit Go.Proofs.YtlakdfbfkbndiaaDoor.Re Go.Proofs.YtlakdfbfkbndiaaDoorW.PrintWords Go.Proofs.YtlakdfbfkbndiaaDoorW.PrintLast Go.Proofs.YtlakdfbfkbndiaaDoorW.PrintMore
section
variable {l : List S49} {s : ByteArray} {E : List Re.Way} {N : Nat}
theorem rd_node (l : List S49) (z : Int) : rd_T49 l z = nodeAt l z.toNat := by unfold nodeAt rd_T49; rw [Int.toNat_natCast]
end
end Go.Proofs.YtlakdfbfkbndiaaDoor.Q
