/- Rows of structs that are only read. Over any program. -/
import Derived.Test.YtnohdfhhdppflaaVcShort
namespace Go.Vc
open Go
set_option linter.unusedVariables false
def SlRM {α : Type} (enc : α → List Value) (m : Nat) (v : Value) (xs : List α) (ro : RO) : Prop :=
  (xs = [] ∧ ∃ a c, v = .slice a 0 c) ∨ ∃ b off c p, v = .slice (some ⟨b, off, none⟩) xs.length c ∧ (b, p) ∈ ro ∧ ∀ o, p o → ∀ (i : Nat) x, xs[i]? = some x → ∀ (j : Nat) u, (enc x)[j]? = some u → cellAt o (off + i * m + j) = some u
section
variable {α : Type} {enc : α → List Value} {m : Nat} {v : Value} {xs : List α} {ro ro' : RO} {a : Option Addr} {n c : Nat}
theorem SlRM.slice (h : SlRM enc m v xs ro) : ∃ a c, v = .slice a xs.length c := by
  rcases h with ⟨rfl, a, c, rfl⟩ | ⟨b, off, c, p, rfl, _⟩
  · exact ⟨a, c, rfl⟩
  · exact ⟨_, c, rfl⟩
theorem SlRM.addr (h : SlRM enc m (.slice a n c) xs ro) (hn : 0 < xs.length) : ∃ b off, a = some ⟨b, off, none⟩ ∧ ∀ (i : Nat) x own, xs[i]? = some x → ∀ (j : Nat) u, (enc x)[j]? = some u → Has ro own b (off + i * m + j) u := by
  rcases h with ⟨rfl, a, c, h⟩ | ⟨b, off, c, p, h, hm, hp⟩
  · simp at hn
  · simp only [Value.slice.injEq] at h
    exact ⟨b, off, h.1, fun i x own hi j u hj => Has.ro hm fun o ho => hp o ho i x hi j u hj⟩
theorem SlRM.mono (h : SlRM enc m v xs ro) (hs : ∀ x ∈ ro, x ∈ ro') : SlRM enc m v xs ro' :=
  h.imp id fun ⟨b, off, c, p, h1, h2, h3⟩ => ⟨b, off, c, p, h1, hs _ h2, h3⟩
end
section
variable {P : Program} {ρ : Fr} {T T' : TypeId} {x y : Operand}
theorem pv_bool_eql_e {a c : Bool} (hT : P.underlying T = some .bool) (hx : ev ρ x = .bool a) (hy : ev ρ y = .bool c) (h : a = c) : PV P (.binOp .eql T x y T') ρ (.bool true) := by
  have := pv_bool_eql (P := P) (T := T) (T' := T') hT hx hy
  subst h; simpa using this
end
end Go.Vc
