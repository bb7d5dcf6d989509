/- append(nil, make([]T, n)..). Over any program. -/
import Derived.Test.YtnohdfhhdppflaaVcRec
import Derived.Lib.AppendZeros
namespace Go.Vc
open Go
set_option linter.unusedVariables false
section
variable {P : Program} {n : Nat} {E : Env} {ρ : Fr} {ro : RO} {own : List Blks} {d : Option Tmp} {t : TypeId} {p : String} {af : Array Edge} {g : Option (Nat × Bool)}
variable {K : Value → RO → List Blks → Prop} {T T' e : TypeId} {by_ : Nat} {z : Value} {α : Type} {f : α → Value} {x y : Operand}
theorem opw_appendZ {m : Nat} (hT : sliceOf P T = some (e, 1)) (hE : elemInfo P e = some (1, by_, z)) (hI : P.underlying T' = some (.int .i64)) (z0 : α) (hz : f z0 = z) (hone : z.oneCell' = true)
    (hx : ev ρ x = .slice none 0 0) (hy : ev ρ y = .int .i64 m) (hm : 0 < m) (hb : m * by_ ≤ 140737488355328) (h63 : m ≤ 140737488355328)
    (k : ∀ nb (l : List α), m ≤ l.length → K (.slice (some ⟨nb, 0, none⟩) m l.length) ro (own ++ [[(nb, arr f e l)]])) :
    OpW P n E ⟨d, .call { callee := .builtin .append, args := #[x, y], argTypes := #[T, T'] }, t, p, af, g⟩ K ρ ro own := OpW.of_run fun w hw => by
  obtain ⟨hu, hs⟩ := sliceOf_spec hT
  obtain ⟨i, hi, hsz, hbz, hiz⟩ := elemInfo_spec hE
  have hzc : z.cells = #[z] := by cases z <;> first | rfl | (simp [Value.oneCell'] at hone)
  have hrun := Lib.run_append_nil_zeros (P := P) w T T' t e i z .i64 .i64 hu hI hi hiz m hm (by omega) (by omega) (by rw [hbz]; omega)
  have hzero : ∀ q, Builtin.zeroCells z.cells q = ((List.replicate q z0).map f).toArray := fun q => by
    apply Array.ext'
    have := zeroCells_eq (enc := fun u => [f u]) (m := 1) (fun _ => rfl) (by omega) z z0 (by rw [hzc, hz]) q
    rw [this, flatMap_one]
  have hge := grownCap_ge w m 0 e
  rw [hzero, hzero] at hrun
  have hlen : (List.replicate m z0 ++ List.replicate (grownCap w m 0 e - m) z0).length = grownCap w m 0 e := by simp; omega
  refine ⟨.slice (some ⟨w.heap.size, 0, none⟩) m (grownCap w m 0 e), ro, own ++ [[(w.heap.size, arr f e (List.replicate m z0 ++ List.replicate (grownCap w m 0 e - m) z0))]], w.drew.alloc (arr f e (List.replicate m z0 ++ List.replicate (grownCap w m 0 e - m) z0)), ?_, (hw.push _).heap rfl rfl rfl rfl, ?_⟩
  · simp only [execOp, resolve, invoke, builtin, Sem.run_bind, Sem.run_pure, Result.andThen_ok, List.map_toArray, List.map_cons, List.map_nil, hx, hy, hrun]
    unfold arr; rw [List.map_append]; simp
  · have := k w.heap.size (List.replicate m z0 ++ List.replicate (grownCap w m 0 e - m) z0) (by rw [hlen]; exact hge)
    rwa [hlen] at this
/-- A slice of one struct of two cells. -/
theorem opw_buildRec2 {enc : α → List Value} (q : α) (hT : P.underlying T = some (.slice e)) (hs : sz P e = some 2) (hz : zeroOf P e = some z) {a b : Value} (he : enc q = [a, b]) (hy : ev ρ y = .agg (enc q).toArray)
    (k : ∀ nb, K (.slice (some ⟨nb, 0, none⟩) 1 1) ro (own ++ [[(nb, arrM enc e [q])]])) : OpW P n E ⟨d, .buildSlice T 1 #[(0, y)], t, p, af, g⟩ K ρ ro own := by
  have hy' : ev ρ y = .agg #[a, b] := by rw [hy, he]
  refine opw_buildSlice hT hs hz (by omega) (cells := #[a, b]) ?_ (fun nb => ?_)
  · have hp : (#[(0, y)].map fun x => (x.1, ev ρ x.2)).toList = [(0, .agg #[a, b])] := by simp [hy']
    rw [hp]
    have hr : Array.range (1 * 2) = #[0, 1] := by decide
    rw [hr]
    simp [Instr.fill, Value.cells]
  · have := k nb
    unfold arrM at this
    rwa [show ([q].flatMap enc).toArray = #[a, b] by simp [he]] at this
theorem rd_rec2 {enc : α → List Value} {q : α} {nb : Nat} (i j : Nat) (h : (own[i]?).bind (·[j]?) = some (nb, arrM enc e [q])) : ∀ (k : Nat) u, ([q].flatMap enc)[k]? = some u → ∃ b2 o2, (some ⟨nb, 0, none⟩ : Option Addr) = some ⟨b2, o2, none⟩ ∧ Has ro own b2 (o2 + k) u := fun k u hu =>
  ⟨nb, 0, rfl, Has.own i j h (by rw [Nat.zero_add]; exact cellAt_arrM hu)⟩
end
end Go.Vc
