/- Loads, stores, new blocks, calls, under the heap as a list of blocks. Over any program. -/
import Derived.Test.YtnohdfhhdppflaaVcWords
namespace Go.Vc
open Go
set_option linter.unusedVariables false
set_option linter.unusedSimpArgs false

def cellAt (o : Obj) (off : Nat) : Option Value :=
  match o with
  | .cells c _ _ => c[off]?
  | _ => none
/-- The cell is known: a block of one's own, or a fact on a block that is only read. -/
def Has (ro : RO) (own : List Blks) (b off : Nat) (v : Value) : Prop :=
  (∃ o, (b, o) ∈ own.flatten ∧ cellAt o off = some v) ∨ ∃ p, (b, p) ∈ ro ∧ ∀ o, p o → cellAt o off = some v
theorem Has.own {ro : RO} {own : List Blks} {b off : Nat} {v : Value} {o : Obj} (i j : Nat) (h : (own[i]?).bind (·[j]?) = some (b, o)) (hc : cellAt o off = some v) : Has ro own b off v := by
  refine .inl ⟨o, ?_, hc⟩
  cases hg : own[i]? with
  | none => rw [hg] at h; cases h
  | some g =>
    rw [hg] at h
    exact List.mem_flatten.2 ⟨g, List.mem_of_getElem? hg, List.mem_of_getElem? h⟩
theorem Has.ro {ro : RO} {own : List Blks} {b off : Nat} {v : Value} {p : Obj → Prop} (h : (b, p) ∈ ro) (hc : ∀ o, p o → cellAt o off = some v) : Has ro own b off v := .inr ⟨p, h, hc⟩

section
variable {E : Env} {ro : RO} {own : List Blks} {w : World}
theorem cell_of {b off : Nat} {o : Obj} {v : Value} (h : w.heap[b]? = some o) (hc : cellAt o off = some v) : w.cell? ⟨b, off, none⟩ = some v := by
  unfold World.cell?
  rw [h]
  cases o <;> simp only [cellAt] at hc <;> first | exact hc | cases hc
theorem Wd.cell (h : Wd E ro own w) {b off : Nat} {v : Value} (hh : Has ro own b off v) : w.cell? ⟨b, off, none⟩ = some v := by
  rcases hh with ⟨o, hm, hc⟩ | ⟨p, hm, hp⟩
  · exact cell_of (h.has _ hm) hc
  · obtain ⟨o, ho, hpo⟩ := h.hasRo _ hm
    exact cell_of ho (hp o hpo)
end

theorem inj_of_nodup {l : List (Nat × Obj)} (h : (l.map (·.1)).Nodup) {x y : Nat × Obj} (hx : x ∈ l) (hy : y ∈ l) (e : x.1 = y.1) : x = y := by
  induction l with
  | nil => cases hx
  | cons z l ih =>
    simp only [List.map_cons, List.nodup_cons] at h
    rcases List.mem_cons.1 hx with h1 | h1 <;> rcases List.mem_cons.1 hy with h2 | h2
    · rw [h1, h2]
    · exact absurd (List.mem_map.2 ⟨y, h2, by rw [← e, h1]⟩) h.1
    · exact absurd (List.mem_map.2 ⟨x, h1, by rw [e, h2]⟩) h.1
    · exact ih h.2 h1 h2
/-! ### A block is written -/
def World.setB (w : World) (b : Nat) (o : Obj) : World := { w with heap := w.heap.setIfInBounds b o }
theorem keys_set {own : List Blks} {i j : Nat} {g : Blks} {b : Nat} {o o' : Obj} (hi : own[i]? = some g) (hj : g[j]? = some (b, o)) :
    keysOf (own.set i (g.set j (b, o'))) = keysOf own := by
  have hg : (g.set j (b, o')).map (·.1) = g.map (·.1) := by
    rw [List.map_set]
    apply List.ext_getElem?
    intro k
    rw [List.getElem?_set]
    by_cases e : j = k
    · subst e; rw [if_pos rfl, List.getElem?_map, hj, List.length_map]; obtain ⟨h, _⟩ := List.getElem?_eq_some_iff.1 hj; simp [h]
    · rw [if_neg e]
  unfold keysOf
  rw [List.map_flatten, List.map_flatten, List.map_set, hg]
  congr 1
  apply List.ext_getElem?
  intro k
  rw [List.getElem?_set]
  by_cases e : i = k
  · subst e; rw [if_pos rfl, List.getElem?_map, hi, List.length_map]; obtain ⟨h, _⟩ := List.getElem?_eq_some_iff.1 hi; simp [h]
  · rw [if_neg e]
theorem mem_set {own : List Blks} {i j : Nat} {g : Blks} {b : Nat} {o o' : Obj} (hn : (keysOf own).Nodup) (hi : own[i]? = some g) (hj : g[j]? = some (b, o)) :
    ∀ x ∈ (own.set i (g.set j (b, o'))).flatten, x = (b, o') ∨ (x ∈ own.flatten ∧ x.1 ≠ b) := by
  intro x hx
  -- an element with key b is the one written, by the keys' being apart
  have hk : (keysOf (own.set i (g.set j (b, o')))).Nodup := by rw [keys_set hi hj]; exact hn
  have hin : (b, o') ∈ (own.set i (g.set j (b, o'))).flatten := by
    refine List.mem_flatten.2 ⟨g.set j (b, o'), ?_, ?_⟩
    · obtain ⟨h, _⟩ := List.getElem?_eq_some_iff.1 hi; exact List.mem_set h _
    · obtain ⟨h, _⟩ := List.getElem?_eq_some_iff.1 hj; exact List.mem_set h _
  by_cases hb : x.1 = b
  · exact .inl (inj_of_nodup hk hx hin hb)
  · refine .inr ⟨?_, hb⟩
    obtain ⟨g', hg', hxg⟩ := List.mem_flatten.1 hx
    rcases List.mem_or_eq_of_mem_set hg' with h1 | h1
    · exact List.mem_flatten.2 ⟨g', h1, hxg⟩
    · subst h1
      rcases List.mem_or_eq_of_mem_set hxg with h2 | h2
      · exact List.mem_flatten.2 ⟨g, List.mem_of_getElem? hi, h2⟩
      · subst h2; exact absurd rfl hb
theorem mem_of_ij {own : List Blks} {i j : Nat} {g : Blks} {x : Nat × Obj} (hi : own[i]? = some g) (hj : g[j]? = some x) : x ∈ own.flatten :=
  List.mem_flatten.2 ⟨g, List.mem_of_getElem? hi, List.mem_of_getElem? hj⟩
theorem Wd.setB {E : Env} {ro : RO} {own : List Blks} {w : World} (h : Wd E ro own w) {i j : Nat} {g : Blks} {b : Nat} {o o' : Obj} (hi : own[i]? = some g) (hj : g[j]? = some (b, o)) :
    Wd E ro (own.set i (g.set j (b, o'))) (World.setB w b o') := by
  have hkb : b ∈ keysOf own := List.mem_map.2 ⟨(b, o), mem_of_ij hi hj, rfl⟩
  have hlt := h.lt hkb
  have hk := keys_set (o' := o') hi hj
  have hne : ∀ k, k ≠ b → (World.setB w b o').heap[k]? = w.heap[k]? := fun k hk => by simp [World.setB, Array.getElem?_setIfInBounds_ne (Ne.symm hk)]
  refine ⟨h.tape, h.os, h.output, by rw [hk]; exact h.nodup, fun x hx => ?_, fun x hx => ?_, fun x hx => by rw [hk]; exact h.apart x hx, ?_, fun k h1 h2 => ?_, by rw [hk]; exact h.old⟩
  · rcases mem_set h.nodup hi hj x hx with rfl | ⟨hx', hxb⟩
    · simp [World.setB, hlt]
    · rw [hne _ hxb]; exact h.has x hx'
  · rw [hne x.1 (fun e : x.1 = b => h.apart x hx (by rw [e]; exact hkb))]; exact h.hasRo x hx
  · simpa [World.setB] using h.size
  · rw [hne k (fun e : k = b => h2 (by rw [e]; exact h.old b hkb (by rw [← e]; exact h1)))]; exact h.frame k h1 h2
/-- A new block. -/
theorem Wd.push {E : Env} {ro : RO} {own : List Blks} {w : World} (h : Wd E ro own w) (o : Obj) :
    Wd E ro (own ++ [[(w.heap.size, o)]]) { w with heap := w.heap.push o } := by
  have hnew : w.heap.size ∉ keysOf own := fun hm => Nat.lt_irrefl _ (h.lt hm)
  have hk : keysOf (own ++ [[(w.heap.size, o)]]) = keysOf own ++ [w.heap.size] := by simp [keysOf]
  have hold : ∀ k o', w.heap[k]? = some o' → (w.heap.push o)[k]? = some o' := fun k o' hk => by
    have := (Array.getElem?_eq_some_iff.1 hk).1
    rw [Array.getElem?_push, if_neg (by omega)]; exact hk
  refine ⟨h.tape, h.os, h.output, ?_, fun x hx => ?_, fun x hx => ?_, fun x hx => ?_, ?_, fun k h1 h2 => ?_, fun b hb hlt => ?_⟩
  · rw [hk]; exact List.nodup_append.2 ⟨h.nodup, by simp, fun a ha b hb => by simp only [List.mem_singleton] at hb; subst hb; exact fun e => hnew (e ▸ ha)⟩
  · simp only [List.flatten_append, List.flatten_cons, List.flatten_nil, List.append_nil, List.mem_append, List.mem_singleton] at hx
    rcases hx with hx | rfl
    · exact hold _ _ (h.has x hx)
    · simp
  · obtain ⟨o', h1, h2⟩ := h.hasRo x hx; exact ⟨o', hold _ _ h1, h2⟩
  · rw [hk]; simp only [List.mem_append, List.mem_singleton, not_or]
    refine ⟨h.apart x hx, fun e => ?_⟩
    obtain ⟨o', h1, _⟩ := h.hasRo x hx
    have := (Array.getElem?_eq_some_iff.1 h1).1
    omega
  · simp only [Array.size_push]; have := h.size; omega
  · rw [show (({ w with heap := w.heap.push o } : World).heap) = w.heap.push o from rfl, Array.getElem?_push, if_neg (by have := h.size; omega)]; exact h.frame k h1 h2
  · rw [hk] at hb; simp only [List.mem_append, List.mem_singleton] at hb
    rcases hb with hb | rfl
    · exact h.old b hb hlt
    · have := h.size; omega
/-- Blocks that are no more spoken of. -/
theorem Wd.drop {E : Env} {ro : RO} {own own' : List Blks} {w : World} (h : Wd E ro own w) (hs : own'.flatten.Sublist own.flatten) : Wd E ro own' w := by
  have hk : (keysOf own').Sublist (keysOf own) := hs.map _
  exact ⟨h.tape, h.os, h.output, hk.nodup h.nodup, fun x hx => h.has x (hs.subset hx), h.hasRo, fun x hx hm => h.apart x hx (hk.subset hm), h.size, h.frame, fun b hb => h.old b (hk.subset hb)⟩
theorem Wd.perm {E : Env} {ro : RO} {own own' : List Blks} {w : World} (h : Wd E ro own w) (hs : own'.flatten.Perm own.flatten) : Wd E ro own' w := by
  have hk : (keysOf own').Perm (keysOf own) := hs.map _
  exact ⟨h.tape, h.os, h.output, hk.nodup_iff.2 h.nodup, fun x hx => h.has x (hs.subset hx), h.hasRo, fun x hx hm => h.apart x hx (hk.subset hm), h.size, h.frame, fun b hb => h.old b (hk.subset hb)⟩
end Go.Vc
