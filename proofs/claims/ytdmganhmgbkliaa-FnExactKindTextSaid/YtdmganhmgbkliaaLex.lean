/- A quicker test that a region's operations may be walked in the order of the text; no condition. -/
import Derived.Deep.Quiet
namespace Go.Proofs.Ytdmganhmgbkliaa.Q
open Go

def quickFrom (md : Region.Mode) (ops : Array Oper) : List Oper → Nat → Bool
  | [], _ => true
  | o :: rest, k => o.after.all (fun e => !Region.binds md e || decide (e.on < k)) && rest.all (fun oj => oj.after.any (fun e => Region.binds md e && e.on == k) || o.apart ops oj) && quickFrom md ops rest (k + 1)

theorem lexFrom_of_quick {md : Region.Mode} {ops : Array Oper} : ∀ (l : List Oper) (k : Nat) (listed : Array Bool), ops.toList.drop k = l → listed.size = ops.size → (∀ j, j < ops.size → listed[j]? = some (decide (j < k))) →
    quickFrom md ops l k = true → Region.lexFrom md ops l.length k listed = true
  | [], k, listed, hl, hs, hj, _ => by
    have hk : ops.size ≤ k := by
      have := congrArg List.length hl
      simp at this; omega
    unfold List.length Region.lexFrom Region.ready
    rw [List.isEmpty_iff, List.filter_eq_nil_iff]
    intro i hi
    rw [List.mem_range] at hi
    have h1 : listed.getD i true = true := by rw [Array.getD_eq_getD_getElem?, hj i hi, decide_eq_true (by omega)]; rfl
    rw [h1]; simp
  | o :: rest, k, listed, hl, hs, hj, hq => by
    have hk : k < ops.size := by
      have := congrArg List.length hl
      simp at this; omega
    have ho : ops[k]? = some o := by
      have h2 : ops.toList[k]? = some o := by
        have := congrArg (fun z => z[0]?) hl
        simpa [List.getElem?_drop] using this
      simpa using h2
    have hrest : ops.toList.drop (k + 1) = rest := by
      have := congrArg List.tail hl
      simpa [List.tail_drop] using this
    simp only [quickFrom, Bool.and_eq_true] at hq
    obtain ⟨⟨h1, h2⟩, h3⟩ := hq
    have hrec := lexFrom_of_quick rest (k + 1) (listed.setIfInBounds k true) hrest (by simpa using hs) (fun j hjn => by
      rw [Array.getElem?_setIfInBounds]
      by_cases e : k = j
      · subst e
        rw [if_pos rfl, if_pos (by omega), decide_eq_true (by omega)]
      · rw [if_neg e, hj j hjn]
        congr 1
        by_cases hlt : j < k
        · rw [decide_eq_true hlt, decide_eq_true (by omega)]
        · rw [decide_eq_false hlt, decide_eq_false (by omega)]) h3
    unfold List.length Region.lexFrom
    rw [hrec, Bool.and_true, Bool.and_eq_true]
    constructor
    · unfold Region.ready
      rw [List.contains_iff_mem, List.mem_filter, List.mem_range]
      refine ⟨hk, ?_⟩
      have hg : listed.getD k true = false := by rw [Array.getD_eq_getD_getElem?, hj k hk, decide_eq_false (by omega)]; rfl
      rw [hg, ho]
      simp only [Bool.not_false, Bool.true_and, Option.map_some, Option.getD_some]
      rw [Array.all_eq_true_iff_forall_mem] at h1 ⊢
      intro e he
      have := h1 e he
      rw [Bool.or_eq_true] at this ⊢
      rcases this with h | h
      · exact .inl h
      · refine .inr ?_
        have hlt := of_decide_eq_true h
        rw [Array.getD_eq_getD_getElem?, hj e.on (by omega), decide_eq_true hlt]; rfl
    · unfold Region.free
      rw [ho]
      simp only
      rw [List.all_eq_true]
      intro j hjr
      rw [List.mem_range] at hjr
      by_cases e : j = k
      · subst e; simp
      · by_cases hlt : j < k
        · have : listed.getD j true = true := by rw [Array.getD_eq_getD_getElem?, hj j hjr, decide_eq_true hlt]; rfl
          rw [this]; simp
        · have hget : ops[j]? = some ops[j] := Array.getElem?_eq_getElem hjr
          rw [hget]
          simp only
          have hmem : ops[j] ∈ rest := by
            rw [← hrest, List.mem_drop_iff_getElem]
            refine ⟨j - (k + 1), by simp; omega, ?_⟩
            have : k + 1 + (j - (k + 1)) = j := by omega
            simp [this]
          have := List.all_eq_true.1 h2 _ hmem
          rw [this]; simp
theorem lexB_of_quick {md : Region.Mode} {ops : Array Oper} (h0 : Region.noSelect ops = true) (h : quickFrom md ops ops.toList 0 = true) : Region.lexB md ops = true := by
  unfold Region.lexB
  rw [h0, Bool.true_and]
  have := lexFrom_of_quick (md := md) (ops := ops) ops.toList 0 (Array.replicate ops.size false) (by simp) (by simp) (fun j hj => by simp [hj]) h
  simpa using this
end Go.Proofs.Ytdmganhmgbkliaa.Q
