/- The contract of impl.ReadDec: what it returns, whatever text; condition: the text is no longer than a Go value can be. -/
import Derived.Test.YtdmganhmgbkliaaDoorNum
import Derived.Deep.Cut
import Derived.Deep.DeepCutAuto
import Derived.Shelf.Abstract
namespace Go.Proofs.YtdmganhmgbkliaaDoor.Q
open Go.Shelf Go.RowKit Go.Proofs.YtdmganhmgbkliaaDoorW.PrintWords Go.Proofs.YtdmganhmgbkliaaDoorW.PrintLast Go.Proofs.YtdmganhmgbkliaaDoorW.PrintMore

/-- Is there a sign? -/
def sgnB (s : ByteArray) (i : Nat) : Bool := decide (i < s.size) && (bt s i == 43 || bt s i == 45)
/-- Where the digits begin. -/
def atD (s : ByteArray) : Nat := if sgnB s (runN isSp s 0) = true then runN isSp s 0 + 1 else runN isSp s 0
def negB (s : ByteArray) : Bool := if sgnB s (runN isSp s 0) = true then bt s (runN isSp s 0) == 45 else false
/-- Is there a point at a place? -/
def dotB (s : ByteArray) (i : Nat) : Bool := decide (i < s.size) && (bt s i == 46)

def wholeN (s : ByteArray) : Nat := runN isDg s (atD s)
def at2 (s : ByteArray) : Nat := atD s + wholeN s
def moreN (s : ByteArray) : Nat := if dotB s (at2 s) = true then runN isDg s (at2 s + 1) else 0
def tkB (s : ByteArray) : Bool := dotB s (at2 s) && decide (0 < wholeN s + moreN s)
def digS (s : ByteArray) : ByteArray := s.extract (atD s) (at2 s)
def partS (s : ByteArray) : ByteArray := if tkB s = true then s.extract (at2 s + 1) (at2 s + 1 + moreN s) else ⟨#[]⟩
def at3 (s : ByteArray) : Nat := if tkB s = true then at2 s + 1 + moreN s else at2 s
def numStep (n : Int) (c : Int) : Int := mn (n * 10 + (c - 48) % 256) 9000000000001
/-- The digits that count. -/
def allS (s : ByteArray) : ByteArray := digS s ++ (partS s ++ ⟨#[48, 48, 48, 48, 48, 48]⟩).extract 0 6
def numOf (s : ByteArray) : Int := mn ((allS s).data.toList.foldl (fun n c => numStep n (c.toNat : Int)) 0) 9000000000000
def readV (s : ByteArray) : Int × Int := if ((digS s).toList.isEmpty && (partS s).toList.isEmpty) = true then (0, 0) else (if negB s = true then - numOf s else numOf s, (at3 s : Int))
def impl_ReadDec.f (s : ByteArray) : Option (Int × Int) := if s.size ≤ 140737488355328 then some (readV s) else none

theorem atD_le (s : ByteArray) : atD s ≤ s.size := by
  have h := runN_le isSp s 0 (by omega)
  unfold atD sgnB
  split
  · rename_i h2
    simp at h2; omega
  · omega

set_option maxHeartbeats 4000000 in
set_option maxRecDepth 100000 in
theorem impl_ReadDec.calls (s : ByteArray) (r1 r2 : Int) (w : World) (h : impl_ReadDec.f s = some (r1, r2)) :
    Calls Tryd.prog 76 #[.string s] w fun e w' => e = .returned (.tuple #[.int .i64 r1, .int .i64 r2]) ∧ Below w.heap.size w w' := by
  unfold impl_ReadDec.f at h
  by_cases hs0 : s.size ≤ 140737488355328
  case neg => rw [if_neg hs0] at h; cases h
  rw [if_pos hs0] at h
  have hs : s.size ≤ 9223372036854775807 := by omega
  have HRES := Aside0.mk (Option.some.inj h)
  unfold readV at HRES
  clear h
  have R1 := Aside0.mk (fun i hi w => run_any 107 isSp isSpace_any (enters_of Tryd.func107 (by kernel_rfl) rfl) s hs i hi w)
  have R2 := Aside0.mk (fun i hi w => run_any 108 isDg isDigit_any (enters_of Tryd.func108 (by kernel_rfl) rfl) s hs i hi w)
  have c0 := R1.out 0 (by omega) w
  have l0 := runN_le isSp s 0 (by omega)
  have la := atD_le s
  simp only [Nat.zero_add] at l0
  have HAt : Aside0 (atD s = if sgnB s (runN isSp s 0) = true then runN isSp s 0 + 1 else runN isSp s 0) := ⟨rfl⟩
  have HNg : Aside0 (negB s = if sgnB s (runN isSp s 0) = true then bt s (runN isSp s 0) == 45 else false) := ⟨rfl⟩
  go_enter Tryd.func76, Tryd.ntmps76
  go_wp2_with fail
  refine c0.mono ?_
  rintro e w' ⟨rfl, rfl⟩
  clear c0
  go_upto_region 3 with fail
  generalize runN isSp s 0 = a0 at *
  generalize hb : sgnB s a0 = sb at *
  have HSB := Aside0.mk hb
  clear hb
  go_cut [30] (fun v30 wc => v30 = .bool sb ∧ w = wc)
  case first =>
    by_cases h1 : a0 < s.size
    · have h1i : (a0 : Int) < (s.size : Int) := by omega
      have hbt := bt_nat h1
      by_cases h2 : bt s (a0 : Int) = 43
      · have e1 : Aside0 (sb = true) := ⟨by rw [← HSB.out]; simp [sgnB, h1, h2]⟩
        have b2 : ((s[a0].toNat : Int) == 43) = true := by rw [← hbt]; exact beq_iff_eq.mpr h2
        clear h2 hbt
        go_wp2_with fail
        go_meet
        exact ⟨by rw [e1.out], rfl⟩
      · have b2 : ((s[a0].toNat : Int) == 43) = false := by rw [← hbt]; exact beq_eq_false_iff_ne.mpr h2
        have e1 : Aside0 (sb = ((s[a0].toNat : Int) == 45)) := ⟨by rw [← HSB.out, ← hbt]; simp [sgnB, h1, h2]⟩
        clear h2 hbt
        go_wp2_with fail
        go_meet
        exact ⟨by rw [e1.out], rfl⟩
    · have h1i : ¬ (a0 : Int) < (s.size : Int) := by omega
      have e1 : Aside0 (sb = false) := ⟨by rw [← HSB.out]; simp [sgnB, h1]⟩
      go_wp2_with fail
      go_meet
      exact ⟨by rw [e1.out], rfl⟩
  case rest =>
    obtain ⟨rfl, rfl⟩ := hcut
    go_upto_if 30 with fail
    go_cut [4, 5] (fun v4 v5 wx => v4 = .int .i64 (atD s) ∧ v5 = .bool (negB s) ∧ w = wx)
    case first =>
      cases sb with
      | true =>
        have hsb := HSB.out
        simp only [sgnB, Bool.and_eq_true, decide_eq_true_eq] at hsb
        have h1 : a0 < s.size := hsb.1
        clear hsb
        have h1i : (a0 : Int) < (s.size : Int) := by omega
        have hbt := Aside0.mk (bt_nat h1)
        go_wp2_with fail
        go_meet
        exact ⟨by have h := HAt.out; simp at h; rw [h]; go_num, by have h := HNg.out; simp at h; rw [h, hbt.out] <;> rfl, rfl⟩
      | false =>
        go_wp2_with fail
        go_meet
        exact ⟨by have h := HAt.out; simp at h; rw [h] <;> rfl, by have h := HNg.out; simp at h; rw [h] <;> rfl, rfl⟩
    case rest =>
      obtain ⟨rfl, rfl, rfl⟩ := hcut
      have l1 := runN_le isDg s (atD s) la
      have c1 := R2.out (atD s) la
      have HW : Aside0 (runN isDg s (atD s) = wholeN s) := ⟨rfl⟩
      rw [HW.out] at l1 c1
      go_wp2_with fail
      refine (c1 _).mono ?_
      rintro e w' ⟨rfl, rfl⟩
      clear c1
      have l2 : at2 s ≤ s.size := l1
      have hsl1 : ∀ W, (Instr.slice 9 (.string s) (some (.int .i64 (atD s))) (some (.int .i64 ((atD s : Int) + (wholeN s : Int)))) none).run Tryd.prog W = .ok (.string (digS s)) W := fun W => by
        rw [str_lh Tryd.underlying9 s _ _ (by omega) (by omega) (by omega)]
        have e1 : ((atD s : Int) + (wholeN s : Int)).toNat = at2 s := by unfold at2; omega
        rw [e1, Int.toNat_natCast]; rfl
      have h12 : Aside0 ((atD s : Int) + (wholeN s : Int) = (at2 s : Int)) := ⟨by unfold at2; omega⟩
      have HM : Aside0 (moreN s = if dotB s (at2 s) = true then runN isDg s (at2 s + 1) else 0) := ⟨rfl⟩
      have HT : Aside0 (tkB s = (dotB s (at2 s) && decide (0 < wholeN s + moreN s))) := ⟨rfl⟩
      have HP : Aside0 (partS s = if tkB s = true then s.extract (at2 s + 1) (at2 s + 1 + moreN s) else ⟨#[]⟩) := ⟨rfl⟩
      have HA3 : Aside0 (at3 s = if tkB s = true then at2 s + 1 + moreN s else at2 s) := ⟨rfl⟩
      have HR : Aside0 (at2 s < s.size → at2 s + 1 + runN isDg s (at2 s + 1) ≤ s.size) := ⟨fun h => runN_le isDg s (at2 s + 1) (by omega)⟩
      go_upto_region 10 with fail
      rw [h12.out]
      generalize hdb : dotB s (at2 s) = db at *
      have HDB := Aside0.mk hdb
      clear hdb hsl1
      go_cut [58] (fun v58 wx => v58 = .bool db ∧ w = wx)
      case first =>
        by_cases h1 : at2 s < s.size
        · have h1i : (at2 s : Int) < (s.size : Int) := by omega
          have hbt := bt_nat h1
          have e1 : Aside0 (db = ((s[at2 s].toNat : Int) == 46)) := ⟨by rw [← HDB.out, ← hbt]; simp [dotB, h1]⟩
          clear hbt
          go_wp2_with fail
          go_meet
          exact ⟨by rw [e1.out], rfl⟩
        · have h1i : ¬ (at2 s : Int) < (s.size : Int) := by omega
          have e1 : Aside0 (db = false) := ⟨by rw [← HDB.out]; simp [dotB, h1]⟩
          go_wp2_with fail
          go_meet
          exact ⟨by rw [e1.out], rfl⟩
      case rest =>
        obtain ⟨rfl, rfl⟩ := hcut
        go_upto_if 58 with fail
        go_cut [4, 8] (fun v4 v8 wx => v4 = .int .i64 (at3 s) ∧ v8 = .string (partS s) ∧ w = wx)
        case first =>
          cases db with
          | true =>
            have hsb := HDB.out
            simp only [dotB, Bool.and_eq_true, decide_eq_true_eq] at hsb
            have h1 : at2 s < s.size := hsb.1
            clear hsb
            have c2 := R2.out (at2 s + 1) (by omega)
            have hm := HM.out
            rw [if_pos rfl] at hm
            have l3 := HR.out h1
            rw [← hm] at c2 l3
            have hsum : wholeN s + moreN s ≤ s.size := by have := h12.out; omega
            have e2 : ((at2 s + 1 : Nat) : Int) = (at2 s : Int) + 1 := by omega
            rw [e2] at c2
            clear hm e2
            go_wp2_with fail
            refine (c2 _).mono ?_
            rintro e w' ⟨rfl, rfl⟩
            clear c2
            have hsl2 : ∀ W, (Instr.slice 9 (.string s) (some (.int .i64 ((at2 s : Int) + 1))) (some (.int .i64 ((at2 s : Int) + 1 + (moreN s : Int)))) none).run Tryd.prog W = .ok (.string (s.extract (at2 s + 1) (at2 s + 1 + moreN s))) W := fun W => by
              rw [str_lh Tryd.underlying9 s _ _ (by omega) (by omega) (by omega)]
              have e1 : ((at2 s : Int) + 1).toNat = at2 s + 1 := by omega
              have e2 : ((at2 s : Int) + 1 + (moreN s : Int)).toNat = at2 s + 1 + moreN s := by omega
              rw [e1, e2]
            by_cases h3 : 0 < wholeN s + moreN s
            · have h3i : decide ((0 : Int) < (wholeN s : Int) + (moreN s : Int)) = true := decide_eq_true (by omega)
              have e3 : Aside0 (tkB s = true) := ⟨by rw [HT.out]; simp; omega⟩
              clear h3
              go_wp2_with fail
              go_meet
              exact ⟨by rw [HA3.out, e3.out]; go_num, by rw [HP.out, e3.out]; rfl, rfl⟩
            · have h3i : decide ((0 : Int) < (wholeN s : Int) + (moreN s : Int)) = false := decide_eq_false (by omega)
              have e3 : Aside0 (tkB s = false) := ⟨by rw [HT.out]; simp; omega⟩
              clear h3
              go_wp2_with fail
              go_meet
              exact ⟨by rw [HA3.out, e3.out]; rfl, by rw [HP.out, e3.out]; rfl, rfl⟩
          | false =>
            have e3 : Aside0 (tkB s = false) := ⟨by rw [HT.out]; rfl⟩
            go_wp2_with fail
            go_meet
            exact ⟨by rw [HA3.out, e3.out]; rfl, by rw [HP.out, e3.out]; rfl, rfl⟩
        case rest =>
          obtain ⟨rfl, rfl, rfl⟩ := hcut
          have HDs : Aside0 ((digS s).size ≤ s.size) := ⟨by unfold digS; simp [ByteArray.size_extract]; omega⟩
          have HPs : Aside0 ((partS s).size ≤ s.size) := ⟨by unfold partS; split <;> first | exact Nat.zero_le _ | (simp [ByteArray.size_extract]; done) | (simp [ByteArray.size_extract]; omega)⟩
          have HAll : Aside0 (allS s = digS s ++ (partS s ++ ⟨#[48, 48, 48, 48, 48, 48]⟩).extract 0 6) := ⟨rfl⟩
          have HNum : Aside0 (numOf s = mn ((allS s).data.toList.foldl (fun n c => numStep n (c.toNat : Int)) 0) 9000000000000) := ⟨rfl⟩
          clear HR HA3 HP HT HM h12 HDB HSB HNg HAt l0 l1 l2 la
          generalize numOf s = nm at *
          generalize allS s = al at *
          generalize digS s = ds at *
          generalize partS s = ps at *
          generalize negB s = ng at *
          generalize at3 s = a3 at *
          generalize heb : (ds.toList.isEmpty && ps.toList.isEmpty) = eb at *
          have HEB := Aside0.mk heb
          clear heb
          go_upto_region 15 with fail
          go_cut [84] (fun v84 wx => v84 = .bool eb ∧ w = wx)
          case first =>
            cases b1 : ds.toList.isEmpty with
            | true =>
              have e1 : Aside0 (eb = ps.toList.isEmpty) := ⟨by rw [← HEB.out, b1]; rfl⟩
              go_wp2_with fail
              go_meet
              exact ⟨by rw [e1.out], rfl⟩
            | false =>
              have e1 : Aside0 (eb = false) := ⟨by rw [← HEB.out, b1]; rfl⟩
              go_wp2_with fail
              go_meet
              exact ⟨by rw [e1.out], rfl⟩
          case rest =>
            obtain ⟨rfl, rfl⟩ := hcut
            cases eb with
            | true =>
              go_wp2_with fail
              go_ret2
              exact ⟨by have h := HRES.out; simp at h; rw [← h.1, ← h.2] <;> rfl, Below.refl _ _⟩
            | false =>
              have hds := HDs.out
              have hps := HPs.out
              have hz : ps.size + 6 ≤ 9223372036854775807 := by omega
              have HSZ : Aside0 (al.size = ds.size + 6) := ⟨by
                rw [HAll.out, ByteArray.size_append, ByteArray.size_extract, ByteArray.size_append]
                have h6 : (⟨#[48, 48, 48, 48, 48, 48]⟩ : ByteArray).size = 6 := rfl
                omega⟩
              have hal : al.size ≤ 9223372036854775807 := by rw [HSZ.out]; omega
              have kb := fun W => print_bytes (P := Tryd.prog) 9 41 5 Tryd.underlying9 Tryd.underlying41 Tryd.underlying5 (ds ++ (ps ++ ⟨#[48, 48, 48, 48, 48, 48]⟩).extract 0 6) W
              have hcell := Aside0.mk (fun j (hj : j < al.size) => Lib.bytesWorld_cell w 5 al j hj)
              have HBel : Aside0 (Below w.heap.size w (Lib.bytesWorld w 5 al)) := ⟨bytes_below (Below.refl _ _) (Nat.le_refl _) _ _⟩
              go_upto_region 18 with fail
              go_cut [90, 91, 92] (fun v90 v91 v92 wx => ∃ c : Nat, v90 = .slice (some ⟨w.heap.size, 0, none⟩) al.size c ∧ v91 = .int .i64 al.size ∧ v92 = .int .i64 0 ∧ Lib.bytesWorld w 5 al = wx)
              case first =>
                go_wp2_with fail
                go_meet
                exact ⟨grownCap w al.size 0 5, by rw [HSZ.out] <;> rfl, by rw [HSZ.out] <;> go_num, rfl, by rw [HAll.out] <;> rfl⟩
              case rest =>
                obtain ⟨c, rfl, rfl, rfl, rfl⟩ := hcut
                clear kb HAll HDs HPs hds hps hz
                generalize Lib.bytesWorld w 5 al = w1 at *
                go_wp2_with fail
                go_loopg [10, 92] al.size (fun gg v10 v92 wr => ∃ (n : Int) (k : Nat), v10 = .int .i64 n ∧ v92 = .int .i64 k ∧ k ≤ al.size ∧ al.size - k ≤ gg ∧ 0 ≤ n ∧ n ≤ 9000000000001 ∧ Aside0 (n = (al.data.toList.take k).foldl (fun n c => numStep n (c.toNat : Int)) 0) ∧ w1 = wr)
                case atStart => exact ⟨0, 0, rfl, rfl, by omega, by omega, by omega, by omega, ⟨rfl⟩, rfl⟩
                case round =>
                  obtain ⟨n, k, rfl, rfl, hk, hg, hn0, hn1, HN, rfl⟩ := hrel
                  by_cases hlt : k < al.size
                  · have hlt0 : (k : Int) < (al.size : Int) := by omega
                    have hc := hcell.out k hlt
                    have hkl : k < al.data.toList.length := by rw [Array.length_toList]; exact hlt
                    have HS : Aside0 ((al.data.toList.take (k + 1)).foldl (fun n c => numStep n (c.toNat : Int)) 0 = numStep n ((al.data.toList.getD k 0).toNat : Int)) := ⟨by
                      rw [List.take_succ_eq_append_getElem hkl, List.foldl_append, ← HN.out, List.getD_eq_getElem?_getD, List.getElem?_eq_getElem hkl]; rfl⟩
                    clear hkl
                    generalize ((al.data.toList.getD k 0).toNat : Int) = b at hc HS
                    go_wp2_with fail
                    all_goals
                      go_roundg (al.size - (k + 1))
                      case measure => omega
                      case rel => exact ⟨_, k + 1, rfl, by go_num, by omega, by omega, by omega, by omega, ⟨by rw [HS.out]; unfold numStep mn; omega⟩, rfl⟩
                  · have hlt0 : ¬ (k : Int) < (al.size : Int) := by omega
                    obtain rfl : k = al.size := by omega
                    have hF : Aside0 (nm = mn n 9000000000000) := ⟨by
                      rw [HNum.out]
                      have h := HN.out
                      rw [List.take_of_length_le (by rw [Array.length_toList]; exact Nat.le_refl _)] at h
                      rw [← h]⟩
                    have HQ : Aside0 (r1 = (if ng = true then - nm else nm) ∧ r2 = (a3 : Int)) := ⟨by have h := HRES.out; simp at h; exact ⟨h.1.symm, h.2.symm⟩⟩
                    clear HN HNum HRES
                    cases ng with
                    | true =>
                      go_wp2_with fail
                      all_goals
                        go_ret2
                        exact ⟨ret2_int (by have h := HQ.out; simp at h; rw [h.1, hF.out]; unfold mn; omega) (by rw [HQ.out.2]), HBel.out⟩
                    | false =>
                      go_wp2_with fail
                      all_goals
                        go_ret2
                        exact ⟨ret2_int (by have h := HQ.out; simp at h; rw [h.1, hF.out]; unfold mn; omega) (by rw [HQ.out.2]), HBel.out⟩
end Go.Proofs.YtdmganhmgbkliaaDoor.Q
