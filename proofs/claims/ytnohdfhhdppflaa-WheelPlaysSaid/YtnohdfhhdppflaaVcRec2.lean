/- From a row to records: a slice of structs of an argument, as facts. -/
import Derived.Test.YtnohdfhhdppflaaVcRec
import Derived.Test.YtnohdfhhdppflaaVcLaw
import Derived.Deep.Slices
namespace Go.Vc
open Go Go.RowKit Go.Deep
set_option linter.unusedVariables false
theorem cellAt_of {w : World} {a : Addr} {v : Value} (h : w.cell? a = some v) : a.spot = none ∧ ∃ o, w.heap[a.block]? = some o ∧ cellAt o a.off = some v := by
  obtain ⟨b, off, sp⟩ := a
  unfold World.cell? at h
  dsimp only at h ⊢
  split at h
  · rename_i c T fr hh
    cases sp with
    | none => exact ⟨rfl, _, hh, (by simpa using h : c[off]? = some v)⟩
    | some s => simp at h
  · cases h
theorem rec_slr {α : Type} [Inhabited α] (enc : α → List Value) (m : Nat) (hm : 0 < m) (henc : ∀ x, (enc x).length = m) (Q : α → RO → Prop) (hQ : ∀ e ro ro', Q e ro → (∀ x ∈ ro, x ∈ ro') → Q e ro') {w : World} {a : Addr} {len cap : Nat}
    (h : ∀ i, i < len → ∃ e : α, (∀ (j : Nat) u, (enc e)[j]? = some u → w.cell? (a.add (i * m + j)) = some u) ∧ ∃ ro, Q e ro ∧ ∀ x ∈ ro, ∃ o, w.heap[x.1]? = some o ∧ x.2 o) :
    ∃ (xs : List α) (ro : RO), xs.length = len ∧ SlRM enc m (.slice (some a) len cap) xs ro ∧ (∀ x ∈ xs, Q x ro) ∧ ∀ x ∈ ro, ∃ o, w.heap[x.1]? = some o ∧ x.2 o := by
  by_cases h0 : len = 0
  · subst h0; exact ⟨[], [], rfl, .inl ⟨rfl, _, _, rfl⟩, (by intro x hx; cases hx), (by intro x hx; cases hx)⟩
  · have : Inhabited (α × RO) := ⟨(default, [])⟩
    obtain ⟨f, hf⟩ := choose_lt (α := α × RO) (n := len) (p := fun i q => (∀ (j : Nat) u, (enc q.1)[j]? = some u → w.cell? (a.add (i * m + j)) = some u) ∧ Q q.1 q.2 ∧ ∀ x ∈ q.2, ∃ o, w.heap[x.1]? = some o ∧ x.2 o)
      (fun i hi => by obtain ⟨e, h1, ro, h2, h3⟩ := h i hi; exact ⟨(e, ro), h1, h2, h3⟩)
    have hlen : ((List.range len).map fun i => (f i).1).length = len := by simp
    have c0 : ∀ (i j : Nat) u, i < len → (enc (f i).1)[j]? = some u → (i * m + j = 0 → a.spot = none) ∧ ∃ o, w.heap[a.block]? = some o ∧ cellAt o (a.off + i * m + j) = some u := fun i j u hi hu => by
      have h1 := (hf i hi).1 j u hu
      obtain ⟨b, off, sp⟩ := a
      obtain ⟨h2, o, h3, h4⟩ := cellAt_of h1
      by_cases hz : i * m + j = 0
      · simp only [Addr.add, hz, if_true] at h2 h3 h4
        refine ⟨fun _ => h2, o, h3, ?_⟩
        rw [Nat.add_assoc, hz, Nat.add_zero]; exact h4
      · simp only [Addr.add, hz, if_false] at h2 h3 h4
        refine ⟨fun h => absurd h hz, o, h3, ?_⟩
        rw [Nat.add_assoc]; exact h4
    obtain ⟨u0, hu0⟩ : ∃ u, (enc (f 0).1)[0]? = some u := ⟨_, List.getElem?_eq_getElem (by rw [henc]; exact hm)⟩
    obtain ⟨hsp0, o, ho, _⟩ := c0 0 0 u0 (by omega) hu0
    have hsp := hsp0 (by simp)
    obtain ⟨b, off, sp⟩ := a
    clear hsp0
    dsimp only at hsp ho c0
    subst hsp
    have hg : ∀ (i : Nat) x, ((List.range len).map fun i => (f i).1)[i]? = some x → i < len ∧ x = (f i).1 := fun i x hx => by
      rw [List.getElem?_map] at hx
      by_cases hi : i < len
      · rw [List.getElem?_range hi] at hx; simp at hx; exact ⟨hi, hx.symm⟩
      · rw [List.getElem?_eq_none (by simp; omega)] at hx; cases hx
    refine ⟨(List.range len).map fun i => (f i).1, (b, fun o => ∀ (i : Nat) x, ((List.range len).map fun i => (f i).1)[i]? = some x → ∀ (j : Nat) u, (enc x)[j]? = some u → cellAt o (off + i * m + j) = some u) :: (List.range len).flatMap fun i => (f i).2, hlen, ?_, ?_, ?_⟩
    · refine .inr ⟨b, off, cap, _, by rw [hlen], List.mem_cons_self .., fun o ho => ho⟩
    · intro x hx
      obtain ⟨i, hi, rfl⟩ := List.mem_map.1 hx
      exact hQ _ _ _ (hf i (List.mem_range.1 hi)).2.1 fun y hy => List.mem_cons_of_mem _ (List.mem_flatMap.2 ⟨i, hi, hy⟩)
    · intro x hx
      rcases List.mem_cons.1 hx with rfl | hx
      · refine ⟨o, ho, fun i x hx j u hu => ?_⟩
        obtain ⟨hi, rfl⟩ := hg i x hx
        obtain ⟨_, o', ho', h⟩ := c0 i j u hi hu
        rw [ho] at ho'
        cases ho'
        exact h
      · obtain ⟨i, hi, hy⟩ := List.mem_flatMap.1 hx
        exact (hf i (List.mem_range.1 hi)).2.2 x hy
section
variable {H : Type} {enc : TypeId × Value → H} {P : Program} {w : World} {held : Bool}
/-- The elements of a slice of structs, cell by cell. -/
theorem open_recs {t e : TypeId} {fs : Array Field} {m fuel : Nat} {cs : List Value} {x : DataW H × List MemPlace} (ht : P.underlying t = some (.slice e)) (he : P.underlying e = some (.struct fs)) (ce : P.cellsOf e = m)
    (h : DataW.trod enc P w 0 (fun _ => true) held fuel t cs = some x) :
    cs = [.slice none 0 0] ∨ ∃ (a : Addr) (len cap n : Nat), cs = [.slice (some a) len cap] ∧ len ≤ cap ∧ cap ≤ maxLen ∧ ∀ i, i < len → ∃ cs' : List Value, cs'.length = m ∧ (∀ (j : Nat) u, cs'[j]? = some u → w.cell? (a.add (i * m + j)) = some u) ∧
      ∀ (j : Nat) f, fs[j]? = some f → ∃ y, DataW.trod enc P w 0 (fun _ => true) held n f.type ((cs'.drop f.offset).take (P.cellsOf f.type)) = some y := by
  rcases open_slice ht h with h0 | ⟨a, len, cap, m', n, D, Pl, rfl, hb, hl, hm, hmm, rfl, hx⟩
  · exact .inl h0.1
  right
  refine ⟨a, len, cap, n - 1, rfl, hl, hm, fun i hi => ?_⟩
  simp only [if_true] at hmm
  obtain ⟨cs', h1, h2⟩ := hx i (by omega)
  rw [ce] at h1
  obtain ⟨_, hlen, hcell⟩ := World.cells?_some h1
  obtain ⟨xs, k, hk, hxy, _, hxl, hf⟩ := DataW.trod_struct he h2
  have hk' : k = n - 1 := by omega
  subst hk'
  refine ⟨cs', hlen, fun j u hu => ?_, fun j f hj => ?_⟩
  · have := hcell j (by have := (List.getElem?_eq_some_iff.1 hu).1; omega)
    rw [add_add] at this
    rw [this]; exact hu
  · have := hf j f hj
    have hjl := (Array.getElem?_eq_some_iff.1 hj).1
    obtain ⟨y, hy⟩ : ∃ y, xs[j]? = some y := ⟨_, List.getElem?_eq_getElem (by omega)⟩
    exact ⟨y, by rw [this]; exact hy⟩
variable {fs : Array Field} {cs' : List Value} {n j o t q : Nat} {k : IntKind}
theorem one_at {l : List Value} {o : Nat} {v : Value} (h : (l.drop o).take 1 = [v]) : l[o]? = some v := by
  have : ((l.drop o).take 1)[0]? = some v := by rw [h]; rfl
  rw [List.getElem?_take] at this
  simpa using this
theorem int_fld (hall : ∀ (j : Nat) f, fs[j]? = some f → ∃ y, DataW.trod enc P w 0 (fun _ => true) held n f.type ((cs'.drop f.offset).take (P.cellsOf f.type)) = some y) (j : Nat)
    (h : (fs[j]?).map (fun f => (f.offset, f.type)) = some (o, t)) (ht : P.underlying t = some (.int k)) (hc : P.cellsOf t = 1) : ∃ z, cs'[o]? = some (.int k z) := by
  rw [Option.map_eq_some_iff] at h
  obtain ⟨f, hf, he⟩ := h
  cases he
  obtain ⟨y, hy⟩ := hall j f hf
  obtain ⟨z, hz, _⟩ := DataW.trod_int ht hy
  rw [hc] at hz
  exact ⟨z, one_at hz⟩
theorem bytes_fld (hall : ∀ (j : Nat) f, fs[j]? = some f → ∃ y, DataW.trod enc P w 0 (fun _ => true) held n f.type ((cs'.drop f.offset).take (P.cellsOf f.type)) = some y) (j : Nat)
    (h : (fs[j]?).map (fun f => (f.offset, f.type)) = some (o, t)) (ht : P.underlying t = some (.slice q)) (hq : P.underlying q = some (.int .u8)) (hcq : P.cellsOf q = 1) (hc : P.cellsOf t = 1) :
    ∃ a len cap zs, cs'[o]? = some (.slice a len cap) ∧ RowAt .u8 w a len cap zs ∧ len ≤ maxLen := by
  rw [Option.map_eq_some_iff] at h
  obtain ⟨f, hf, he⟩ := h
  cases he
  obtain ⟨y, hy⟩ := hall j f hf
  rcases ChangeShapes.open_ints ht hq hcq hy with ⟨hcs, _⟩ | ⟨x, l, c, zs, hcs, _, hl, hm, hz, _, hcell, hwz⟩
  · rw [hc] at hcs
    exact ⟨_, _, _, [], one_at hcs, .inl ⟨rfl, rfl, rfl, rfl⟩, by decide⟩
  · rw [hc] at hcs
    exact ⟨_, _, _, zs, one_at hcs, .inr ⟨_, rfl, hl, by simpa using hz, hcell, hwz⟩, by omega⟩
end
end Go.Vc
