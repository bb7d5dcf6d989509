/- Short words for walks: what is known of the program, by instances; a region's list with its frame checked once; operations by their kinds. Over any program. -/
import Derived.Test.YtnohdfhhdppflaaVcArr
namespace Go.Vc
open Go
set_option linter.unusedVariables false
class Ft {α : Type} (f : Option α) (v : outParam α) : Prop where
  h : f = some v
class Fb (b : Bool) : Prop where
  h : b = true
/-- A list of operations whose destinations are within the frame. -/
def WM (P : Program) (n : Nat) (E : Env) (all : Array Oper) (l : List Oper) (Q : Post) (ρ : Fr) (ro : RO) (own : List Blks) : Prop :=
  l.all (fun o => dOk n o.dst) = true → WL P n E all l Q ρ ro own
section
variable {P : Program} {n : Nat} {E : Env} {Q : Post} {ρ : Fr} {ro : RO} {own : List Blks} {all : Array Oper} {rest : List Oper}
theorem wr {id : Nat} {l : List Oper} (hok : l.all (fun o => dOk n o.dst) = true) (h : WM P n E l.toArray l Q ρ ro own) : W P n E (.region id l.toArray false) Q ρ ro own := w_region (h hok)
theorem kN (h : Q .normal ρ ro own) : WM P n E all [] Q ρ ro own := fun _ => wl_nil h
theorem ok_cons {o : Oper} (h : (o :: rest).all (fun o => dOk n o.dst) = true) : dOk n o.dst = true ∧ rest.all (fun o => dOk n o.dst) = true := by
  simpa using h
theorem kp {v : Value} {d : Nat} {op : Op} {t : TypeId} {p : String} {af : Array Edge}
    (h : PV P op ρ v) (k : WM P n E all rest Q (upd ρ d v) ro own) : WM P n E all (⟨some d, op, t, p, af, none⟩ :: rest) Q ρ ro own := fun hok => wl_pure (ok_cons hok).1 rfl h (k (ok_cons hok).2)
theorem OpW.mono {o : Oper} {K K' : Value → RO → List Blks → Prop} (h : OpW P n E o K ρ ro own) (hk : ∀ v ro own, K v ro own → K' v ro own) : OpW P n E o K' ρ ro own := fun a w ha hw =>
  Oper.wp_of_false (fun a' w' ⟨v, ro', own', h1, h2, h3⟩ => ⟨v, ro', own', h1, h2, hk _ _ _ h3⟩) (h a w ha hw)
theorem kd {d : Nat} {op : Op} {t : TypeId} {p : String} {af : Array Edge}
    (h : OpW P n E ⟨some d, op, t, p, af, none⟩ (fun v ro' own' => WM P n E all rest Q (upd ρ d v) ro' own') ρ ro own) : WM P n E all (⟨some d, op, t, p, af, none⟩ :: rest) Q ρ ro own := fun hok =>
  wl_do (ok_cons hok).1 rfl (h.mono fun v ro own hh => hh (ok_cons hok).2)
theorem kn {op : Op} {t : TypeId} {p : String} {af : Array Edge}
    (h : OpW P n E ⟨none, op, t, p, af, none⟩ (fun v ro' own' => WM P n E all rest Q ρ ro' own') ρ ro own) : WM P n E all (⟨none, op, t, p, af, none⟩ :: rest) Q ρ ro own := fun hok =>
  wl_no rfl (h.mono fun v ro own hh => hh (ok_cons hok).2)
theorem kg {d : Option Nat} {op : Op} {t : TypeId} {p : String} {af : Array Edge} {g : Nat × Bool} (hg : wantedF all ρ ⟨d, op, t, p, af, some g⟩ = true)
    (k : WM P n E all (⟨d, op, t, p, af, none⟩ :: rest) Q ρ ro own) : WM P n E all (⟨d, op, t, p, af, some g⟩ :: rest) Q ρ ro own := fun hok a w ha hw => by
  have h1 := k hok a w ha hw
  unfold wpList at h1 ⊢
  rw [wanted_eq ha] at h1 ⊢
  rw [hg, if_pos rfl]
  rw [show wantedF all ρ ⟨d, op, t, p, af, none⟩ = true from rfl, if_pos rfl] at h1
  exact h1
theorem ks {d : Option Nat} {op : Op} {t : TypeId} {p : String} {af : Array Edge} {g : Nat × Bool} (hg : wantedF all ρ ⟨d, op, t, p, af, some g⟩ = false)
    (k : WM P n E all rest Q (updo ρ d undef) ro own) : WM P n E all (⟨d, op, t, p, af, some g⟩ :: rest) Q ρ ro own := fun hok => wl_skip (ok_cons hok).1 hg (k (ok_cons hok).2)
theorem kc {o : Oper} {j d : Nat} {wnt : Bool} {p : Prop} [Decidable p] (hg : o.guard = some (j, wnt)) (hj : (all[j]?).bind (·.dst) = some d) (hb : ρ d = .bool (decide p))
    (ht : p → WM P n E all (o :: rest) Q (upd ρ d (.bool true)) ro own) (hf : ¬ p → WM P n E all (o :: rest) Q (upd ρ d (.bool false)) ro own) : WM P n E all (o :: rest) Q ρ ro own := fun hok =>
  wl_split_dec hg hj hb (fun h => ht h hok) (fun h => hf h hok)
theorem kb {o : Oper} {j d : Nat} {wnt b : Bool} (hg : o.guard = some (j, wnt)) (hj : (all[j]?).bind (·.dst) = some d) (hb : ρ d = .bool b)
    (ht : b = true → WM P n E all (o :: rest) Q (upd ρ d (.bool true)) ro own) (hf : b = false → WM P n E all (o :: rest) Q (upd ρ d (.bool false)) ro own) : WM P n E all (o :: rest) Q ρ ro own := fun hok =>
  wl_split hg hj hb (fun h => ht h hok) (fun h => hf h hok)
variable {d : Option Tmp} {t T T' : TypeId} {p : String} {af : Array Edge} {g : Nat × Bool} {op : Op} {x y z : Operand} {l : List Oper}
theorem g_wl (h : WM P n E all l Q ρ ro own) : WM P n E all l Q ρ ro own := h
theorem g_gd (h : WM P n E all (⟨d, op, t, p, af, some g⟩ :: rest) Q ρ ro own) : WM P n E all (⟨d, op, t, p, af, some g⟩ :: rest) Q ρ ro own := h
theorem g_mv (h : WM P n E all (⟨d, .move x, t, p, af, none⟩ :: rest) Q ρ ro own) : WM P n E all (⟨d, .move x, t, p, af, none⟩ :: rest) Q ρ ro own := h
theorem g_as (h : WM P n E all (⟨d, .assign x, t, p, af, none⟩ :: rest) Q ρ ro own) : WM P n E all (⟨d, .assign x, t, p, af, none⟩ :: rest) Q ρ ro own := h
theorem g_pk (h : WM P n E all (⟨d, .pick x y z, t, p, af, none⟩ :: rest) Q ρ ro own) : WM P n E all (⟨d, .pick x y z, t, p, af, none⟩ :: rest) Q ρ ro own := h
theorem g_bo {o : BinOp} (h : WM P n E all (⟨d, .binOp o T x y T', t, p, af, none⟩ :: rest) Q ρ ro own) : WM P n E all (⟨d, .binOp o T x y T', t, p, af, none⟩ :: rest) Q ρ ro own := h
theorem g_cv (h : WM P n E all (⟨d, .convert T T' x, t, p, af, none⟩ :: rest) Q ρ ro own) : WM P n E all (⟨d, .convert T T' x, t, p, af, none⟩ :: rest) Q ρ ro own := h
theorem g_ld (h : WM P n E all (⟨d, .load T x, t, p, af, none⟩ :: rest) Q ρ ro own) : WM P n E all (⟨d, .load T x, t, p, af, none⟩ :: rest) Q ρ ro own := h
theorem g_st (h : WM P n E all (⟨d, .store T x y, t, p, af, none⟩ :: rest) Q ρ ro own) : WM P n E all (⟨d, .store T x y, t, p, af, none⟩ :: rest) Q ρ ro own := h
variable {args : Array Operand} {tys : Array TypeId}
theorem g_cf (f : FuncId) (h : WM P n E all (⟨d, .call { callee := .value (.func f), args := args, argTypes := tys }, t, p, af, none⟩ :: rest) Q ρ ro own) : WM P n E all (⟨d, .call { callee := .value (.func f), args := args, argTypes := tys }, t, p, af, none⟩ :: rest) Q ρ ro own := h
theorem g_cb (b : Builtin) (h : WM P n E all (⟨d, .call { callee := .builtin b, args := args, argTypes := tys }, t, p, af, none⟩ :: rest) Q ρ ro own) : WM P n E all (⟨d, .call { callee := .builtin b, args := args, argTypes := tys }, t, p, af, none⟩ :: rest) Q ρ ro own := h
theorem g_cx {k : Nat} (h : WM P n E all (⟨d, .call { callee := .value (.tmp k), args := args, argTypes := tys }, t, p, af, none⟩ :: rest) Q ρ ro own) : WM P n E all (⟨d, .call { callee := .value (.tmp k), args := args, argTypes := tys }, t, p, af, none⟩ :: rest) Q ρ ro own := h
end
end Go.Vc
