/- Functions without a Go body: sync/atomic, MakeNoZero. Over any program. -/
import Derived.Test.YtnohdfhhdppflaaVcKinds
import Derived.Lib.MakeNoZero
namespace Go.Vc
open Go
set_option linter.unusedVariables false
set_option linter.unusedSimpArgs false
/-- A function of the model's own, by its entry. -/
structure IsExt (P : Program) (f : FuncId) (e : Array Value → Sem Value) : Prop where
  ex : ∃ fn, P.funcs[f]? = some fn ∧ (fn.name == "runtime.NumGoroutine") = false ∧ fn.body.isNone = true ∧ Extern.findNext fn = none ∧ Extern.find fn = some e
section
variable {P : Program} {n : Nat} {E : Env} {ρ : Fr} {ro : RO} {own : List Blks} {d : Option Tmp} {t : TypeId} {p : String} {af : Array Edge} {g : Option (Nat × Bool)}
variable {K : Value → RO → List Blks → Prop} {f : FuncId} {args : Array Operand} {tys : Array TypeId} {b off : Nat} {gr : Blks} {c : Array Value} {T' : TypeId} {fr : Nat × Nat} {x y : Int} {k : IntKind}
theorem run_call_vs {vs : Array Value} (hv : vs.toList = args.toList.map (ev ρ)) (w : World) :
    (execOp (ev ρ) ⟨d, .call { callee := .value (.func f), args := args, argTypes := tys }, t, p, af, g⟩).run P w = (callFunc f vs).run P w := by
  have hv' : args.map (ev ρ) = vs := by apply Array.ext'; simp [hv]
  simp [execOp, resolve, Deferred.ofValue, ev, hv', invoke]
theorem opw_atomicLoad (he : IsExt P f (Extern.Atomic.loadT (.int k))) (hv : [Value.pointer (some ⟨b, off, none⟩)] = args.toList.map (ev ρ)) (hc : Has ro own b off (.int k x)) (kk : K (.int k x) ro own) :
    OpW P n E ⟨d, .call { callee := .value (.func f), args := args, argTypes := tys }, t, p, af, g⟩ K ρ ro own := OpW.of_run fun w hw => by
  obtain ⟨fn, h1, h2, h3, h4, h5⟩ := he.ex
  exact ⟨_, ro, own, w, (run_call_vs (vs := #[.pointer (some ⟨b, off, none⟩)]) hv w).trans (run_call_load h1 h2 h3 h4 k h5 (hw.cell hc)), hw, kk⟩
theorem opw_atomicStore (i j : Nat) (he : IsExt P f Extern.Atomic.storeT) (hv : [Value.pointer (some ⟨b, off, none⟩), .int k y] = args.toList.map (ev ρ)) (hi : own[i]? = some gr) (hj : gr[j]? = some (b, .cells c T' fr)) (ho : off < c.size) (hf : noFr fr off 1)
    (kk : K (.tuple #[]) ro (own.set i (gr.set j (b, .cells (c.setIfInBounds off (.int k y)) T' fr)))) :
    OpW P n E ⟨d, .call { callee := .value (.func f), args := args, argTypes := tys }, t, p, af, g⟩ K ρ ro own := OpW.of_run fun w hw => by
  obtain ⟨fn, h1, h2, h3, h4, h5⟩ := he.ex
  have hb := hw.has _ (mem_of_ij hi hj)
  have hcell : w.cell? ⟨b, off, none⟩ = some (c[off]'ho) := cell_of hb (by simp [cellAt, ho])
  have hfr : w.frozen? ⟨b, off, none⟩ = false := by rw [frozen_eq hb]; have := hf 0 (by omega); simpa using this
  have := run_call_store (P := P) h1 h2 h3 h4 h5 (y := y) (k := k) hcell hfr
  rw [setCell_eq hb] at this
  exact ⟨_, ro, _, _, (run_call_vs (vs := #[.pointer (some ⟨b, off, none⟩), .int k y]) hv w).trans this, hw.setB hi hj, kk⟩
theorem opw_atomicAdd (i j : Nat) (he : IsExt P f (Extern.Atomic.update (Op.intArith .add) k true)) (hv : [Value.pointer (some ⟨b, off, none⟩), .int k y] = args.toList.map (ev ρ)) (hi : own[i]? = some gr) (hj : gr[j]? = some (b, .cells c T' fr)) (hc : c[off]? = some (.int k x)) (hf : noFr fr off 1)
    (kk : K (.int k (k.wrap (x + y))) ro (own.set i (gr.set j (b, .cells (c.setIfInBounds off (.int k (k.wrap (x + y)))) T' fr)))) :
    OpW P n E ⟨d, .call { callee := .value (.func f), args := args, argTypes := tys }, t, p, af, g⟩ K ρ ro own := OpW.of_run fun w hw => by
  obtain ⟨fn, h1, h2, h3, h4, h5⟩ := he.ex
  have hb := hw.has _ (mem_of_ij hi hj)
  have hcell : w.cell? ⟨b, off, none⟩ = some (.int k x) := cell_of hb hc
  have hfr : w.frozen? ⟨b, off, none⟩ = false := by rw [frozen_eq hb]; have := hf 0 (by omega); simpa using this
  have := run_call_add (P := P) h1 h2 h3 h4 k h5 (s := k.wrap (x + y)) hcell hfr (y := y) (by simp [Op.intArith])
  rw [setCell_eq hb] at this
  exact ⟨_, ro, _, _, (run_call_vs (vs := #[.pointer (some ⟨b, off, none⟩), .int k y]) hv w).trans this, hw.setB hi hj, kk⟩
theorem digits_bytes : ∀ (k t : Nat) (acc : Array Value), ∃ l : List (BitVec 8), l.length = k ∧ Extern.BytealgMakeNoZero.digits k t acc = acc ++ (l.map v8).toArray
  | 0, t, acc => ⟨[], rfl, by simp [Extern.BytealgMakeNoZero.digits]⟩
  | k + 1, t, acc => by
    obtain ⟨l, hl, he⟩ := digits_bytes k (t / 256) (acc.push (.int .u8 (Int.ofNat (t % 256))))
    refine ⟨BitVec.ofNat 8 t :: l, by simp [hl], ?_⟩
    have hv : v8 (BitVec.ofNat 8 t) = .int .u8 (Int.ofNat (t % 256)) := by simp [v8]
    rw [Extern.BytealgMakeNoZero.digits, he]
    apply Array.ext'
    simp [hv]
theorem run_mnz {ps : Array TypeId} {t e : TypeId} (ht : P.underlying t = some (.slice e)) (m : Nat) (hm : m ≤ 281474976710656) (w : World) :
    ∃ l : List (BitVec 8), (Extern.BytealgMakeNoZero.makeNoZero ps #[t] #[.int .i64 m]).run P w = .ok (.slice (some ⟨w.heap.size, 0, none⟩) m l.length) (w.drew.drew.alloc (arr v8 e l)) ∧ m ≤ l.length := by
  have hdef : Extern.BytealgMakeNoZero.makeNoZero ps #[t] #[.int .i64 m] =
      (do
        let .slice elem ← underlying t | stuck "bytealg.MakeNoZero: slice type expected"
        if (m : Int) < 0 || (m : Int) > 2 ^ 48 then runtimePanic (.error "makeslice: len out of range")
        let cap ← choose (.appendCap (m : Int).toNat 0 elem)
        askRoom cap
        let bytes ← choose (.extern "internal/bytealg.MakeNoZero.bytes" 0)
        let a ← newRow elem (Extern.BytealgMakeNoZero.digits cap bytes #[])
        pure (.slice (some a) (m : Int).toNat cap)) := rfl
  obtain ⟨l, hl, he⟩ := digits_bytes (grownCap w m 0 e) ((Question.extern "internal/bytealg.MakeNoZero.bytes" 0).cut (w.tape (w.drawn + 1) (.extern "internal/bytealg.MakeNoZero.bytes" 0))) #[]
  refine ⟨l, ?_, by rw [hl]; exact grownCap_ge w m 0 e⟩
  rw [hdef]
  have h1 : ¬ (m : Int) < 0 := by omega
  have h2 : ¬ (281474976710656 : Int) < (m : Int) := by omega
  have hc : (Question.appendCap m 0 e).cut (w.tape w.drawn (.appendCap m 0 e)) = l.length := hl.symm
  have he' : Extern.BytealgMakeNoZero.digits l.length ((Question.extern "internal/bytealg.MakeNoZero.bytes" 0).cut (w.tape (w.drawn + 1) (.extern "internal/bytealg.MakeNoZero.bytes" 0))) #[] = (l.map v8).toArray := by
    rw [hl, he]; simp
  simp [run_underlying ht, h1, h2, Question.forced, newRow, hc, he', arr]
theorem opw_makeNoZero {ps : Array TypeId} {u e : TypeId} {m : Nat} (he : IsExt P f (Extern.BytealgMakeNoZero.makeNoZero ps #[u])) (hu : P.underlying u = some (.slice e)) (hv : [Value.int .i64 m] = args.toList.map (ev ρ)) (hm : m ≤ 281474976710656)
    (kk : ∀ nb (l : List (BitVec 8)), m ≤ l.length → K (.slice (some ⟨nb, 0, none⟩) m l.length) ro (own ++ [[(nb, arr v8 e l)]])) :
    OpW P n E ⟨d, .call { callee := .value (.func f), args := args, argTypes := tys }, t, p, af, g⟩ K ρ ro own := OpW.of_run fun w hw => by
  obtain ⟨fn, h1, h2, h3, h4, h5⟩ := he.ex
  obtain ⟨l, hr, hle⟩ := run_mnz (P := P) (ps := ps) hu m hm w
  refine ⟨_, ro, _, _, (run_call_vs (vs := #[.int .i64 m]) hv w).trans ?_, (hw.push (arr v8 e l)).heap (w' := w.drew.drew.alloc (arr v8 e l)) rfl rfl rfl rfl, kk _ l hle⟩
  rw [run_callFunc_extern h1 h2 h3 h4 h5]
  simp only [hr, Result.andThen_ok]
end
end Go.Vc
