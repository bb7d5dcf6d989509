/- Rows of structs that are only read. Over any program. -/
import Derived.Test.YtnohdfhhdppflaaVcShort
namespace Go.Vc
open Go
set_option linter.unusedVariables false
def SlRM {α : Type} (enc : α → List Value) (m : Nat) (v : Value) (xs : List α) (ro : RO) : Prop :=
  (xs = [] ∧ ∃ a c, v = .slice a 0 c) ∨ ∃ b off c p, v = .slice (some ⟨b, off, none⟩) xs.length c ∧ (b, p) ∈ ro ∧ ∀ o, p o → ∀ (i : Nat) x, xs[i]? = some x → ∀ (j : Nat) u, (enc x)[j]? = some u → cellAt o (off + i * m + j) = some u
section
variable {α : Type} {enc : α → List Value} {m : Nat} {v : Value} {xs : List α} {ro ro' : RO} {a : Option Addr} {n c : Nat}
theorem SlRM.slice (h : SlRM enc m v xs ro) : ∃ a c, v = .slice a xs.length c := by
  rcases h with ⟨rfl, a, c, rfl⟩ | ⟨b, off, c, p, rfl, _⟩
  · exact ⟨a, c, rfl⟩
  · exact ⟨_, c, rfl⟩
theorem SlRM.addr (h : SlRM enc m (.slice a n c) xs ro) (hn : 0 < xs.length) : ∃ b off, a = some ⟨b, off, none⟩ ∧ ∀ (i : Nat) x own, xs[i]? = some x → ∀ (j : Nat) u, (enc x)[j]? = some u → Has ro own b (off + i * m + j) u := by
  rcases h with ⟨rfl, a, c, h⟩ | ⟨b, off, c, p, h, hm, hp⟩
  · simp at hn
  · simp only [Value.slice.injEq] at h
    exact ⟨b, off, h.1, fun i x own hi j u hj => Has.ro hm fun o ho => hp o ho i x hi j u hj⟩
theorem SlRM.mono (h : SlRM enc m v xs ro) (hs : ∀ x ∈ ro, x ∈ ro') : SlRM enc m v xs ro' :=
  h.imp id fun ⟨b, off, c, p, h1, h2, h3⟩ => ⟨b, off, c, p, h1, hs _ h2, h3⟩
end
theorem SlM.slice {α : Type} {enc : α → List Value} {T : TypeId} {v : Value} {xs : List α} {g : Blks} (h : SlM enc T v xs g) : ∃ a c, v = .slice a xs.length c := by
  rcases h with ⟨rfl, rfl, _⟩ | ⟨b, data, rfl, _, _⟩
  · exact ⟨_, _, rfl⟩
  · exact ⟨_, _, rfl⟩
theorem flatMap_at {α : Type} {enc : α → List Value} {m : Nat} (h : ∀ x, (enc x).length = m) {l : List α} {i j : Nat} {x : α} {u : Value} (hx : l[i]? = some x) (hu : (enc x)[j]? = some u) : (l.flatMap enc)[i * m + j]? = some u := by
  have hd := flatMap_drop h l i
  have hi := (List.getElem?_eq_some_iff.1 hx).1
  rw [← List.getElem?_drop, hd, List.drop_eq_getElem_cons hi, List.flatMap_cons]
  have hj := (List.getElem?_eq_some_iff.1 hu).1
  rw [List.getElem?_append_left (by rw [List.getElem?_eq_getElem hi] at hx; cases hx; exact hj)]
  rw [List.getElem?_eq_getElem hi] at hx
  cases hx; exact hu
theorem SlM.has {α : Type} {enc : α → List Value} {m : Nat} (hm : ∀ x, (enc x).length = m) {T : TypeId} {a : Option Addr} {n c : Nat} {xs : List α} {g : Blks} (h : SlM enc T (.slice a n c) xs g) (hn : 0 < xs.length) :
    ∃ b, a = some ⟨b, 0, none⟩ ∧ ∃ o, g = [(b, o)] ∧ ∀ (i : Nat) x, xs[i]? = some x → ∀ (j : Nat) u, (enc x)[j]? = some u → cellAt o (i * m + j) = some u := by
  rcases h with ⟨h, rfl, _⟩ | ⟨b, data, h, rfl, ht⟩
  · simp at hn
  · simp only [Value.slice.injEq] at h
    refine ⟨b, h.1, _, rfl, fun i x hi j u hu => cellAt_arrM (flatMap_at hm ?_ hu)⟩
    have hl := (List.getElem?_eq_some_iff.1 hi).1
    rw [← ht, List.getElem?_take, if_pos hl] at hi
    exact hi
section
variable {P : Program} {ρ : Fr} {T T' : TypeId} {x y : Operand}
theorem pv_bool_eql_e {a c : Bool} (hT : P.underlying T = some .bool) (hx : ev ρ x = .bool a) (hy : ev ρ y = .bool c) (h : a = c) : PV P (.binOp .eql T x y T') ρ (.bool true) := by
  have := pv_bool_eql (P := P) (T := T) (T' := T') hT hx hy
  subst h; simpa using this
theorem pv_lss_t {k : IntKind} {a b : Int} (hx : ev ρ x = .int k a) (hy : ev ρ y = .int k b) (h : a < b) : PV P (.binOp .lss T x y T') ρ (.bool true) := by
  have := pv_lss (P := P) (T := T) (T' := T') hx hy; rwa [decide_eq_true h] at this
theorem pv_lss_f {k : IntKind} {a b : Int} (hx : ev ρ x = .int k a) (hy : ev ρ y = .int k b) (h : ¬ a < b) : PV P (.binOp .lss T x y T') ρ (.bool false) := by
  have := pv_lss (P := P) (T := T) (T' := T') hx hy; rwa [decide_eq_false h] at this
theorem pv_leq_t {k : IntKind} {a b : Int} (hx : ev ρ x = .int k a) (hy : ev ρ y = .int k b) (h : a ≤ b) : PV P (.binOp .leq T x y T') ρ (.bool true) := by
  have := pv_leq (P := P) (T := T) (T' := T') hx hy; rwa [decide_eq_true h] at this
theorem pv_leq_f {k : IntKind} {a b : Int} (hx : ev ρ x = .int k a) (hy : ev ρ y = .int k b) (h : ¬ a ≤ b) : PV P (.binOp .leq T x y T') ρ (.bool false) := by
  have := pv_leq (P := P) (T := T) (T' := T') hx hy; rwa [decide_eq_false h] at this
theorem pv_gtr_t {k : IntKind} {a b : Int} (hx : ev ρ x = .int k a) (hy : ev ρ y = .int k b) (h : b < a) : PV P (.binOp .gtr T x y T') ρ (.bool true) := by
  have := pv_gtr (P := P) (T := T) (T' := T') hx hy; rwa [decide_eq_true h] at this
theorem pv_gtr_f {k : IntKind} {a b : Int} (hx : ev ρ x = .int k a) (hy : ev ρ y = .int k b) (h : ¬ b < a) : PV P (.binOp .gtr T x y T') ρ (.bool false) := by
  have := pv_gtr (P := P) (T := T) (T' := T') hx hy; rwa [decide_eq_false h] at this
theorem pv_geq_t {k : IntKind} {a b : Int} (hx : ev ρ x = .int k a) (hy : ev ρ y = .int k b) (h : b ≤ a) : PV P (.binOp .geq T x y T') ρ (.bool true) := by
  have := pv_geq (P := P) (T := T) (T' := T') hx hy; rwa [decide_eq_true h] at this
theorem pv_geq_f {k : IntKind} {a b : Int} (hx : ev ρ x = .int k a) (hy : ev ρ y = .int k b) (h : ¬ b ≤ a) : PV P (.binOp .geq T x y T') ρ (.bool false) := by
  have := pv_geq (P := P) (T := T) (T' := T') hx hy; rwa [decide_eq_false h] at this
theorem pv_eql_f {k : IntKind} {a b : Int} (hx : ev ρ x = .int k a) (hy : ev ρ y = .int k b) (h : ¬ a = b) : PV P (.binOp .eql T x y T') ρ (.bool false) := by
  have := pv_eql (P := P) (T := T) (T' := T') hx hy; rwa [decide_eq_false h] at this
theorem pv_bd_t {op : Op} {q : Prop} [Decidable q] (h : q) (hp : PV P op ρ (.bool (decide q))) : PV P op ρ (.bool true) := by rwa [decide_eq_true h] at hp
theorem pv_bd_f {op : Op} {q : Prop} [Decidable q] (h : ¬ q) (hp : PV P op ρ (.bool (decide q))) : PV P op ρ (.bool false) := by rwa [decide_eq_false h] at hp
theorem pvi_e {op : Op} {k : IntKind} {a : Int} (r : Int) (h : a = r) (hp : PV P op ρ (.int k a)) : PV P op ρ (.int k r) := h ▸ hp
end
end Go.Vc
