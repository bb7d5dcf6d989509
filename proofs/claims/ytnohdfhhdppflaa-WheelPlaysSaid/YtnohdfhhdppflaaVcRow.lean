/- Rows of memory as lists: slices that are read, slices that are owned; append, make, copy. Over any program. -/
import Derived.Test.YtnohdfhhdppflaaVcCall
namespace Go.Vc
open Go
set_option linter.unusedVariables false
set_option linter.unusedSimpArgs false

def arrM {α : Type} (enc : α → List Value) (T : TypeId) (l : List α) : Obj := .cells (l.flatMap enc).toArray T (0, 0)
def arr {α : Type} (f : α → Value) (T : TypeId) (l : List α) : Obj := .cells (l.map f).toArray T (0, 0)
theorem arr_eq {α : Type} (f : α → Value) (T : TypeId) (l : List α) : arr f T l = arrM (fun x => [f x]) T l := by
  unfold arr arrM
  have : l.flatMap (fun x => [f x]) = l.map f := by induction l <;> simp_all
  rw [this]
theorem flatMap_one {α : Type} (f : α → Value) (l : List α) : l.flatMap (fun x => [f x]) = l.map f := by induction l <;> simp_all
theorem cellAt_arr {α : Type} {f : α → Value} {T : TypeId} {l : List α} {k : Nat} {x : α} (h : l[k]? = some x) : cellAt (arr f T l) k = some (f x) := by
  simp [cellAt, arr, h]
theorem cellAt_arrM {α : Type} {enc : α → List Value} {T : TypeId} {l : List α} {k : Nat} {u : Value} (h : (l.flatMap enc)[k]? = some u) : cellAt (arrM enc T l) k = some u := by
  simp [cellAt, arrM, h]

/-- What is read of a slice: a fact on its block. -/
def AtO {α : Type} (f : α → Value) (off : Nat) (xs : List α) (o : Obj) : Prop := ∀ i x, xs[i]? = some x → cellAt o (off + i) = some (f x)
def SlR {α : Type} (f : α → Value) (v : Value) (xs : List α) (ro : RO) : Prop :=
  (xs = [] ∧ ∃ a c, v = .slice a 0 c) ∨ ∃ b off c p, v = .slice (some ⟨b, off, none⟩) xs.length c ∧ xs.length ≤ c ∧ (b, p) ∈ ro ∧ ∀ o, p o → AtO f off xs o
theorem SlR.slice {α : Type} {f : α → Value} {v : Value} {xs : List α} {ro : RO} (h : SlR f v xs ro) : ∃ a c, v = .slice a xs.length c ∧ xs.length ≤ c := by
  rcases h with ⟨rfl, a, c, rfl⟩ | ⟨b, off, c, p, rfl, hc, _⟩
  · exact ⟨a, c, rfl, Nat.zero_le _⟩
  · exact ⟨_, c, rfl, hc⟩
theorem SlR.addr {α : Type} {f : α → Value} {a : Option Addr} {n c : Nat} {xs : List α} {ro : RO} (h : SlR f (.slice a n c) xs ro) (hn : 0 < xs.length) :
    ∃ b off, a = some ⟨b, off, none⟩ ∧ ∀ i x own, xs[i]? = some x → Has ro own b (off + i) (f x) := by
  rcases h with ⟨rfl, a, c, h⟩ | ⟨b, off, c, p, h, hc, hm, hp⟩
  · simp at hn
  · simp only [Value.slice.injEq] at h
    exact ⟨b, off, h.1, fun i x own hi => Has.ro hm fun o ho => hp o ho i x hi⟩
theorem SlR.mono {α : Type} {f : α → Value} {v : Value} {xs : List α} {ro ro' : RO} (h : SlR f v xs ro) (hs : ∀ x ∈ ro, x ∈ ro') : SlR f v xs ro' :=
  h.imp id fun ⟨b, off, c, p, h1, hc, h2, h3⟩ => ⟨b, off, c, p, h1, hc, hs _ h2, h3⟩
theorem SlR.nil {α : Type} {f : α → Value} {ro : RO} (a : Option Addr) (c : Nat) : SlR f (.slice a 0 c) [] ro := .inl ⟨rfl, a, c, rfl⟩
/-- A part of it. -/
theorem SlR.cut {α : Type} {f : α → Value} {a : Option Addr} {n c : Nat} {xs : List α} {ro : RO} (h : SlR f (.slice a n c) xs ro) {l m : Nat} (hl : l ≤ m) (hm : m ≤ xs.length) :
    SlR f (.slice (cutAddr a l 1 c) (m - l) (c - l)) ((xs.drop l).take (m - l)) ro := by
  by_cases he : m = l
  · subst he; rw [Nat.sub_self, List.take_zero]; exact SlR.nil _ _
  · rcases h with ⟨rfl, a', c', h⟩ | ⟨b, off, c', p, h, hc, hmem, hp⟩
    · simp at hm; omega
    · simp only [Value.slice.injEq] at h
      obtain ⟨rfl, rfl, rfl⟩ := h
      have hlen : ((xs.drop l).take (m - l)).length = m - l := by simp; omega
      refine .inr ⟨b, off + l, c - l, p, ?_, by rw [hlen]; omega, hmem, fun o ho i x hi => ?_⟩
      · rw [cutAddr_some, hlen, if_neg (by omega), Nat.mul_one]
      · rw [List.getElem?_take, List.getElem?_drop] at hi
        split at hi
        · have := hp o ho (l + i) x hi; rwa [← Nat.add_assoc] at this
        · cases hi
/-- Known to the caller, handed over as a fact. -/
theorem SlR.of_has {α : Type} {f : α → Value} {b off c : Nat} {xs : List α} (hc : xs.length ≤ c) : SlR f (.slice (some ⟨b, off, none⟩) xs.length c) xs [(b, AtO f off xs)] :=
  .inr ⟨b, off, c, _, rfl, hc, by simp, fun _ h => h⟩
theorem roOk_one {b : Nat} {p : Obj → Prop} {ro : RO} {rest : List Blks} {o : Obj} (h : (b, o) ∈ rest.flatten) (hp : p o) : RoOk [(b, p)] ro rest := fun x hx => by
  simp only [List.mem_singleton] at hx; subst hx; exact .inr ⟨o, h, hp⟩
theorem AtO_arr {α : Type} {f : α → Value} {T : TypeId} {data xs : List α} {off : Nat} (h : ∀ i, i < xs.length → data[off + i]? = xs[i]?) : AtO f off xs (arr f T data) := fun i x hi => by
  have hl := (List.getElem?_eq_some_iff.1 hi).1
  exact cellAt_arr ((h i hl).trans hi)

/-! ### Owned rows -/
def SlM {α : Type} (enc : α → List Value) (T : TypeId) (v : Value) (xs : List α) (g : Blks) : Prop :=
  (v = .slice none 0 0 ∧ xs = [] ∧ g = []) ∨ ∃ b data, v = .slice (some ⟨b, 0, none⟩) xs.length data.length ∧ g = [(b, arrM enc T data)] ∧ data.take xs.length = xs
def Sl {α : Type} (f : α → Value) (T : TypeId) (v : Value) (xs : List α) (g : Blks) : Prop :=
  (v = .slice none 0 0 ∧ xs = [] ∧ g = []) ∨ ∃ b data, v = .slice (some ⟨b, 0, none⟩) xs.length data.length ∧ g = [(b, arr f T data)] ∧ data.take xs.length = xs
theorem Sl_iff {α : Type} {f : α → Value} {T : TypeId} {v : Value} {xs : List α} {g : Blks} : Sl f T v xs g ↔ SlM (fun x => [f x]) T v xs g := by
  unfold Sl SlM; simp only [arr_eq]
theorem Sl.nil {α : Type} {f : α → Value} {T : TypeId} : Sl f T (.slice none 0 0) [] [] := .inl ⟨rfl, rfl, rfl⟩
theorem SlM.nil {α : Type} {enc : α → List Value} {T : TypeId} : SlM enc T (.slice none 0 0) [] [] := .inl ⟨rfl, rfl, rfl⟩
theorem Sl.full {α : Type} {f : α → Value} {T : TypeId} {b : Nat} {xs : List α} : Sl f T (.slice (some ⟨b, 0, none⟩) xs.length xs.length) xs [(b, arr f T xs)] := .inr ⟨b, xs, rfl, rfl, List.take_length⟩
theorem Sl.slice {α : Type} {f : α → Value} {T : TypeId} {v : Value} {xs : List α} {g : Blks} (h : Sl f T v xs g) : ∃ a c, v = .slice a xs.length c ∧ xs.length ≤ c := by
  rcases h with ⟨rfl, rfl, _⟩ | ⟨b, data, rfl, _, ht⟩
  · exact ⟨none, 0, rfl, Nat.le_refl _⟩
  · exact ⟨_, _, rfl, by have := congrArg List.length ht; simp at this; omega⟩
theorem Sl.addr {α : Type} {f : α → Value} {T : TypeId} {a : Option Addr} {n c : Nat} {xs : List α} {g : Blks} (h : Sl f T (.slice a n c) xs g) (hn : 0 < xs.length) :
    ∃ b data, a = some ⟨b, 0, none⟩ ∧ c = data.length ∧ g = [(b, arr f T data)] ∧ data.take xs.length = xs := by
  rcases h with ⟨h, rfl, _⟩ | ⟨b, data, h, hg, ht⟩
  · simp at hn
  · simp only [Value.slice.injEq] at h
    exact ⟨b, data, h.1, h.2.2, hg, ht⟩
/-- An owned slice, handed over to be read. -/
theorem Sl.ro {α : Type} {f : α → Value} {T : TypeId} {v : Value} {xs : List α} {g : Blks} (h : Sl f T v xs g) :
    ∃ r, SlR f v xs r ∧ ∀ (ro : RO) (rest : List Blks), g ∈ rest → RoOk r ro rest := by
  rcases h with ⟨rfl, rfl, _⟩ | ⟨b, data, rfl, rfl, ht⟩
  · exact ⟨[], SlR.nil _ _, fun _ _ _ => RoOk.nil⟩
  · have hl : xs.length ≤ data.length := by have := congrArg List.length ht; simp at this; omega
    refine ⟨_, SlR.of_has hl, fun ro rest hg => roOk_one (List.mem_flatten.2 ⟨_, hg, List.mem_singleton.2 rfl⟩) (AtO_arr fun i hi => ?_)⟩
    rw [Nat.zero_add]; conv => rhs; rw [← ht]
    rw [List.getElem?_take, if_pos hi]
end Go.Vc
