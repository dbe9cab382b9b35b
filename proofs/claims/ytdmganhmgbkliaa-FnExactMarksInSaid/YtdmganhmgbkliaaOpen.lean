/- What an argument that can be read as data is, in the words of the printed texts: numbers, strings, structs of one-cell fields, slices of these; no condition. -/
import Derived.Test.YtdmganhmgbkliaaWWords
import Derived.Deep.Slices
import Derived.Deep.Fields
import Derived.ChangeSame
import Derived.Carry
namespace Go.Proofs.Ytdmganhmgbkliaa.Q
open Go Go.ChangeShapes Go.WideShapes Go.Deep Go.Proofs.YtdmganhmgbkliaaW.PrintWords

/-- A value of type t that can be read is one of the kind d, and is good. -/
structure Opens (P : Program) (t : TypeId) {α : Type} (d : Kd α) (good : α → Prop) : Prop where
  sz : P.cellsOf t = d.sz
  get : ∀ {H : Type} {enc : TypeId × Value → H} {w : World} {fuel : Nat} {cs : List Value} {x : DataW H × List MemPlace},
    DataW.trod enc P w 0 (fun _ => true) true fuel t cs = some x → ∃ a, d.K w a cs ∧ good a

theorem opens_int {P : Program} {t : TypeId} {k : IntKind} (ht : P.underlying t = some (.int k)) (hc : P.cellsOf t = 1) : Opens P t (Kd.int k) (fun n => (Lit.int k n).wf = true) :=
  ⟨hc, fun h => by obtain ⟨n, rfl, _, hw⟩ := DataW.trod_int ht h; exact ⟨n, rfl, hw⟩⟩
theorem opens_bool {P : Program} {t : TypeId} (ht : P.underlying t = some .bool) (hc : P.cellsOf t = 1) : Opens P t Kd.bool (fun _ => True) :=
  ⟨hc, fun h => by obtain ⟨n, rfl, _⟩ := DataW.trod_bool ht h; exact ⟨n, rfl, trivial⟩⟩
theorem opens_string {P : Program} {t : TypeId} (ht : P.underlying t = some .string) (hc : P.cellsOf t = 1) : Opens P t Kd.string (fun s => s.size ≤ maxLen) :=
  ⟨hc, fun h => by obtain ⟨s, rfl, _, hs⟩ := DataW.trod_string ht h; exact ⟨s, rfl, hs⟩⟩

theorem list_of {α : Type} (Q : Nat → α → Prop) : ∀ (n : Nat), (∀ i, i < n → ∃ a, Q i a) → ∃ l : List α, l.length = n ∧ ∀ i a, l[i]? = some a → Q i a
  | 0, _ => ⟨[], rfl, fun i a h => by simp at h⟩
  | n + 1, h => by
    obtain ⟨l, hl, hq⟩ := list_of Q n (fun i hi => h i (by omega))
    obtain ⟨a, ha⟩ := h n (by omega)
    refine ⟨l ++ [a], by simp [hl], fun i b hb => ?_⟩
    by_cases hi : i < l.length
    · rw [List.getElem?_append_left hi] at hb; exact hq i b hb
    · rw [List.getElem?_append_right (by omega)] at hb
      have : i - l.length = 0 := by
        have := (List.getElem?_eq_some_iff.1 hb).1
        simp at this; omega
      rw [this] at hb
      simp at hb
      obtain rfl : i = n := by omega
      exact hb ▸ ha

/-- A slice that can be read. -/
theorem slice_reads {P : Program} {t e : TypeId} {α : Type} {d : Kd α} {good : α → Prop} (ht : P.underlying t = some (.slice e)) (hd : Opens P e d good) {H : Type} {enc : TypeId × Value → H} {w : World} {fuel : Nat} {cs : List Value} {x : DataW H × List MemPlace}
    (h : DataW.trod enc P w 0 (fun _ => true) true fuel t cs = some x) :
    ∃ (A : Option Addr) (c : Nat) (l : List α), cs = [.slice A l.length c] ∧ l.length ≤ c ∧ d.C w A l.length l ∧ l.length ≤ maxLen ∧ ∀ a ∈ l, good a := by
  rcases open_slice ht h with ⟨rfl, _⟩ | ⟨a, len, cap, m, n, D, Pl, rfl, _, hl, hm, hmm, _, hi⟩
  · exact ⟨none, 0, [], rfl, Nat.le_refl _, ⟨rfl, by simp, fun h => by simp at h⟩, by simp, fun a ha => by simp at ha⟩
  · simp only [if_true] at hmm
    obtain ⟨l, hll, hq⟩ := list_of (fun i b => good b ∧ ∃ cs', w.cells? 0 (a.add (i * P.cellsOf e)) (P.cellsOf e) = some cs' ∧ d.K w b cs') len (fun i hil => by
      obtain ⟨cs', hc, ht'⟩ := hi i (by omega)
      obtain ⟨b, hb, hg⟩ := hd.get ht'
      exact ⟨b, hg, cs', hc, hb⟩)
    subst hll
    refine ⟨some a, cap, l, rfl, hl, ⟨rfl, by unfold maxLen at hm; omega, fun _ => ⟨a, rfl, fun j p hj => ?_⟩⟩, by omega, fun b hb => ?_⟩
    · obtain ⟨_, cs', hc, hK⟩ := hq j p hj
      refine ⟨cs', d.K_len hK, hK, fun i u hu => ?_⟩
      rw [hd.sz] at hc
      obtain ⟨_, hcl, hat⟩ := World.cells?_some hc
      have hil : i < d.sz := by
        have := (List.getElem?_eq_some_iff.1 hu).1
        rw [d.K_len hK] at this; exact this
      have h1 := hat i hil
      rw [Go.Deep.add_add] at h1
      exact h1.trans hu
    · obtain ⟨i, hi', rfl⟩ := List.getElem_of_mem hb
      exact (hq i _ (List.getElem?_eq_getElem hi')).1

theorem opens_slice {P : Program} {t e : TypeId} {α : Type} {d : Kd α} {good : α → Prop} (ht : P.underlying t = some (.slice e)) (hc : P.cellsOf t = 1) (hd : Opens P e d good) :
    Opens P t (Kd.slice e d) (fun l => l.length ≤ maxLen ∧ ∀ a ∈ l, good a) :=
  ⟨hc, fun h => by
    obtain ⟨A, c, l, rfl, h1, h2, h3, h4⟩ := slice_reads ht hd h
    exact ⟨l, ⟨A, c, rfl, h1, h2⟩, h3, h4⟩⟩

/-- Fields in line, one cell each. -/
def OpensF (P : Program) (fs : List Field) {α : Type} (d : Kd α) (good : α → Prop) : Prop :=
  ∀ {H : Type} {enc : TypeId × Value → H} {w : World} {n : Nat} {cs : List Value}, cs.length = fs.length →
    (∀ (i : Nat) (f : Field) (v : Value), fs[i]? = some f → cs[i]? = some v → ∃ y, DataW.trod enc P w 0 (fun _ => true) true n f.type [v] = some y) → ∃ a, d.K w a cs ∧ good a

theorem opensF_one {P : Program} {f : Field} {α : Type} {d : Kd α} {good : α → Prop} (h : Opens P f.type d good) : OpensF P [f] d good := fun {H enc w n cs} hl hf => by
  match cs, hl with
  | [v], _ =>
    obtain ⟨y, hy⟩ := hf 0 f v rfl rfl
    exact h.get hy

theorem opensF_cons {P : Program} {f : Field} {fs : List Field} {α β : Type} {d : Kd α} {d' : Kd β} {good : α → Prop} {good' : β → Prop} (h : Opens P f.type d good) (h' : OpensF P fs d' good') :
    OpensF P (f :: fs) (Kd.pair d d') (fun p => good p.1 ∧ good' p.2) := fun {H enc w n cs} hl hf => by
  match cs, hl with
  | v :: r, hl =>
    obtain ⟨y, hy⟩ := hf 0 f v rfl rfl
    obtain ⟨a, ha, hg⟩ := h.get hy
    obtain ⟨b, hb, hg'⟩ := h' (w := w) (n := n) (cs := r) (by simpa using hl) (fun i f' v' h1 h2 => hf (i + 1) f' v' (by simpa using h1) (by simpa using h2))
    exact ⟨(a, b), ⟨[v], r, rfl, ha, hb⟩, hg, hg'⟩

theorem opens_struct {P : Program} {t : TypeId} {fs : Array Field} {α β : Type} {d : Kd α} {good : α → Prop} (f : β → α) (g : α → β) (hfg : ∀ a, f (g a) = a) (ht : P.underlying t = some (.struct fs)) (hone : oneCellFields P fs = true) (hc : P.cellsOf t = fs.size) (hd : d.sz = fs.size)
    (h : OpensF P fs.toList d good) : Opens P t (Kd.iso d f) (fun b => good (f b)) :=
  ⟨hc.trans hd.symm, fun {H enc w fuel cs x} hx => by
    obtain ⟨ys, n, rfl, hy, hlen, hyl, hf⟩ := DataW.trod_struct ht hx
    obtain ⟨a, ha, hg⟩ := h (enc := enc) (w := w) (n := n) (cs := cs) (by rw [hlen, hc]; simp) (fun i fi v hi hv => by
      have hi' : fs[i]? = some fi := by simpa using hi
      obtain ⟨ho, hk⟩ := hone_of hone i fi hi'
      have hil : i < fs.size := (Array.getElem?_eq_some_iff.1 hi').1
      have h1 := hf i fi hi'
      rw [ho, hk] at h1
      have h2 : (cs.drop i).take 1 = [v] := by
        obtain ⟨hlt, rfl⟩ := List.getElem?_eq_some_iff.1 hv
        rw [List.drop_eq_getElem_cons hlt]; rfl
      rw [h2] at h1
      exact ⟨_, h1.trans (List.getElem?_eq_getElem (by omega))⟩)
    exact ⟨g a, by show d.K w (f (g a)) cs; rw [hfg]; exact ha, by rw [hfg]; exact hg⟩⟩
end Go.Proofs.Ytdmganhmgbkliaa.Q
