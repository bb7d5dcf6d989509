/- The operations that read and write memory. Over any program. -/
import Derived.Test.YtnohdfhhdppflaaVcMem
namespace Go.Vc
open Go
set_option linter.unusedVariables false
set_option linter.unusedSimpArgs false

def isOne (P : Program) (T : TypeId) : Bool :=
  match P.underlying T with
  | some (.struct _) | some (.array _ _) | none => false
  | some _ => true
def isMany (P : Program) (T : TypeId) : Bool :=
  match P.underlying T with
  | some (.struct _) | some (.array _ _) => true
  | _ => false
theorem run_isAgg_one {P : Program} {T : TypeId} (h : isOne P T = true) (w : World) : (isAgg T).run P w = .ok false w := by
  unfold isOne at h
  cases hu : P.underlying T with
  | none => rw [hu] at h; cases h
  | some d => rw [hu] at h; cases d <;> simp_all [isAgg, run_underlying hu]
theorem run_isAgg_many {P : Program} {T : TypeId} (h : isMany P T = true) (w : World) : (isAgg T).run P w = .ok true w := by
  unfold isMany at h
  cases hu : P.underlying T with
  | none => rw [hu] at h; cases h
  | some d => rw [hu] at h; cases d <;> simp_all [isAgg, run_underlying hu]
def sz (P : Program) (T : TypeId) : Option Nat := (P.info? T).map (·.size)
theorem run_sizeOf_sz {P : Program} {T : TypeId} {m : Nat} (h : sz P T = some m) (w : World) : (sizeOf T).run P w = .ok m w := by
  unfold sz at h
  cases hi : P.info? T with
  | none => rw [hi] at h; cases h
  | some i => rw [hi] at h; simp at h; subst h; simp [sizeOf, typeInfo, hi]
def zeroOf (P : Program) (T : TypeId) : Option Value := (P.info? T).bind (·.zero)
theorem run_zero {P : Program} {T : TypeId} {z : Value} (h : zeroOf P T = some z) (w : World) : (zeroValue T).run P w = .ok z w := by
  unfold zeroOf at h
  cases hi : P.info? T with
  | none => rw [hi] at h; cases h
  | some i => rw [hi] at h; simp at h; simp [zeroValue, typeInfo, hi, h]

section
variable {P : Program} {n : Nat} {E : Env} {ρ : Fr} {ro : RO} {own : List Blks} {d : Option Tmp} {t : TypeId} {p : String} {af : Array Edge} {g : Option (Nat × Bool)}
variable {K : Value → RO → List Blks → Prop} {T : TypeId} {x y : Operand} {b off : Nat} {v : Value}
/-- An operation that yields a value and leaves another world, of the same description. -/
theorem OpW.of_run {op : Op} (h : ∀ w, Wd E ro own w → ∃ v ro' own' w', (execOp (ev ρ) ⟨d, op, t, p, af, g⟩).run P w = .ok (.value v) w' ∧ Wd E ro' own' w' ∧ K v ro' own') :
    OpW P n E ⟨d, op, t, p, af, g⟩ K ρ ro own := fun a w ha hw => by
  obtain ⟨v, ro', own', w', h1, h2, h3⟩ := h w hw
  unfold Oper.wp
  rw [ha.eval, h1]
  exact ⟨v, ro', own', rfl, h2, h3⟩
theorem OpW.of_skip {op : Op} (h : ∀ w, Wd E ro own w → ∃ ro' own' w', (execOp (ev ρ) ⟨d, op, t, p, af, g⟩).run P w = .ok .skip w' ∧ Wd E ro' own' w' ∧ K undef ro' own') :
    OpW P n E ⟨d, op, t, p, af, g⟩ K ρ ro own := fun a w ha hw => by
  obtain ⟨ro', own', w', h1, h2, h3⟩ := h w hw
  unfold Oper.wp
  rw [ha.eval, h1]
  exact ⟨undef, ro', own', rfl, h2, h3⟩
theorem run_loadVar1 {w : World} {a : Addr} (hT : isOne P T = true) (hc : w.cell? a = some v) : (loadVar T a).run P w = .ok v w := by
  simp [loadVar, run_isAgg_one hT, hc]
theorem opw_load (hT : isOne P T = true) (hx : ev ρ x = .pointer (some ⟨b, off, none⟩)) (hc : Has ro own b off v) (k : K v ro own) :
    OpW P n E ⟨d, .load T x, t, p, af, g⟩ K ρ ro own := OpW.of_run fun w hw =>
  ⟨v, ro, own, w, by simp [execOp, hx, Instr.loadAt, Instr.sureAddr, run_loadVar1 hT (hw.cell hc)], hw, k⟩
theorem opw_loadA {m : Nat} {cs : List Value} (hT : isMany P T = true) (hm : sz P T = some m) (hl : cs.length = m) (hx : ev ρ x = .pointer (some ⟨b, off, none⟩)) (hc : ∀ j u, cs[j]? = some u → Has ro own b (off + j) u) (k : K (.agg cs.toArray) ro own) :
    OpW P n E ⟨d, .load T x, t, p, af, g⟩ K ρ ro own := OpW.of_run fun w hw => by
  refine ⟨_, ro, own, w, ?_, hw, k⟩
  subst hl
  have := run_loadCells_list (P := P) w ⟨b, off, none⟩ cs (fun j u hj => by rw [Addr.add_lit]; exact hw.cell (hc j u hj))
  simp [execOp, hx, Instr.loadAt, Instr.sureAddr, loadVar, run_isAgg_many hT, run_sizeOf_sz hm, this]
end

/-! ### Stores -/
theorem setCell_eq {w : World} {b off : Nat} {c : Array Value} {T : TypeId} {fr : Nat × Nat} (h : w.heap[b]? = some (.cells c T fr)) (v : Value) :
    w.setCell ⟨b, off, none⟩ v = World.setB w b (.cells (c.setIfInBounds off v) T fr) := by
  unfold World.setCell World.setB
  congr 1
  apply Array.ext_getElem?
  intro k
  rw [Array.getElem?_modify, Array.getElem?_setIfInBounds]
  by_cases e : b = k
  · subst e
    have := (Array.getElem?_eq_some_iff.1 h).1
    rw [if_pos rfl, if_pos rfl, if_pos this, h]; rfl
  · simp [e]
theorem frozen_eq {w : World} {b off : Nat} {c : Array Value} {T : TypeId} {fr : Nat × Nat} (h : w.heap[b]? = some (.cells c T fr)) :
    w.frozen? ⟨b, off, none⟩ = (decide (fr.1 ≤ off) && decide (off < fr.2)) := by
  unfold World.frozen?; rw [h]
def splice (c : Array Value) (off : Nat) : List Value → Array Value
  | [] => c
  | v :: r => splice (c.setIfInBounds off v) (off + 1) r
theorem splice_size (c : Array Value) (off : Nat) (vs : List Value) : (splice c off vs).size = c.size := by
  induction vs generalizing c off with
  | nil => rfl
  | cons v r ih => simp [splice, ih]
theorem setB_setB (w : World) (b : Nat) (o o' : Obj) : World.setB (World.setB w b o) b o' = World.setB w b o' := by
  simp [World.setB]
theorem setB_get {w : World} {b : Nat} {o o' : Obj} (h : w.heap[b]? = some o) : (World.setB w b o').heap[b]? = some o' := by
  have := (Array.getElem?_eq_some_iff.1 h).1
  simp [World.setB, this]
theorem setB_self {w : World} {b : Nat} {o : Obj} (h : w.heap[b]? = some o) : World.setB w b o = w := by
  have hh : w.heap.setIfInBounds b o = w.heap := by
    apply Array.ext_getElem?
    intro k
    rw [Array.getElem?_setIfInBounds]
    by_cases e : b = k
    · subst e; rw [if_pos rfl]; have := (Array.getElem?_eq_some_iff.1 h).1; rw [if_pos this, h]
    · rw [if_neg e]
  unfold World.setB; rw [hh]
def noFr (fr : Nat × Nat) (off m : Nat) : Prop := ∀ j, j < m → (decide (fr.1 ≤ off + j) && decide (off + j < fr.2)) = false
theorem noFr_zero (off m : Nat) : noFr (0, 0) off m := fun j _ => by simp
theorem run_storeCells {P : Program} {b off : Nat} {T : TypeId} {fr : Nat × Nat} (a : Addr) : ∀ (vs : List Value) (i : Nat) (w : World) (c : Array Value),
    a = ⟨b, off, none⟩ → w.heap[b]? = some (.cells c T fr) → (∀ v ∈ vs, v.oneCell' = true) → off + i + vs.length ≤ c.size → noFr fr (off + i) vs.length →
    (storeCells a vs i).run P w = .ok () (World.setB w b (.cells (splice c (off + i) vs) T fr))
  | [], i, w, c, ha, h, _, _, _ => by simp [storeCells, splice, setB_self h]
  | v :: r, i, w, c, ha, h, h1, hl, hf => by
    subst ha
    simp only [List.length_cons] at hl hf
    have hcell : w.cell? ⟨b, off + i, none⟩ = some (c[off + i]'(by omega)) := cell_of h (by simp [cellAt, show off + i < c.size by omega])
    have hfr : w.frozen? ⟨b, off + i, none⟩ = false := by rw [frozen_eq h]; have := hf 0 (by omega); simpa using this
    have hset := setCell_eq (off := off + i) h v
    have ih := run_storeCells (P := P) (b := b) (off := off) (T := T) (fr := fr) ⟨b, off, none⟩ r (i + 1) (World.setB w b (.cells (c.setIfInBounds (off + i) v) T fr)) (c.setIfInBounds (off + i) v) rfl
      (setB_get h) (fun u hu => h1 u (List.mem_cons_of_mem _ hu)) (by simp; omega) (fun j hj => by have := hf (j + 1) (by omega); rwa [show off + i + (j + 1) = off + (i + 1) + j by omega] at this)
    simp only [storeCells, Sem.run_bind, Addr.add_lit, run_store _ _ _ _ _ (h1 v (List.mem_cons_self ..)), hcell, hfr, Bool.false_eq_true, if_false, Result.andThen, hset, ih, setB_setB, splice]
    rfl

section
variable {P : Program} {n : Nat} {E : Env} {ρ : Fr} {ro : RO} {own : List Blks} {d : Option Tmp} {t : TypeId} {p : String} {af : Array Edge} {g : Option (Nat × Bool)}
variable {K : Value → RO → List Blks → Prop} {T T' : TypeId} {x y : Operand} {b off : Nat} {v : Value} {gr : Blks} {c : Array Value} {fr : Nat × Nat}
theorem opw_store (i j : Nat) (hm : sz P T = some 1) (hx : ev ρ x = .pointer (some ⟨b, off, none⟩)) (hy : ev ρ y = v) (hv : v.oneCell' = true) (hi : own[i]? = some gr) (hj : gr[j]? = some (b, .cells c T' fr))
    (ho : off < c.size) (hf : noFr fr off 1) (k : K undef ro (own.set i (gr.set j (b, .cells (c.setIfInBounds off v) T' fr)))) :
    OpW P n E ⟨d, .store T x y, t, p, af, g⟩ K ρ ro own := OpW.of_skip fun w hw => by
  have hcs : v.cells = #[v] := by cases v <;> first | rfl | (simp [Value.oneCell'] at hv)
  have hb := hw.has _ (mem_of_ij hi hj)
  have := run_storeCells (P := P) (b := b) (off := off) (T := T') (fr := fr) ⟨b, off, none⟩ [v] 0 w c rfl hb (by simpa using hv) (by simp; omega) (by simpa using hf)
  refine ⟨ro, _, World.setB w b (.cells (c.setIfInBounds off v) T' fr), ?_, hw.setB hi hj, k⟩
  simp only [splice, Nat.add_zero] at this
  simp [execOp, hx, hy, Instr.storeAt, Instr.sureAddr, storeVar, hcs, run_sizeOf_sz hm, this]
theorem opw_storeA (i j : Nat) {cs : Array Value} (hm : sz P T = some cs.size) (hx : ev ρ x = .pointer (some ⟨b, off, none⟩)) (hy : ev ρ y = .agg cs) (hv : ∀ u ∈ cs.toList, u.oneCell' = true) (hi : own[i]? = some gr) (hj : gr[j]? = some (b, .cells c T' fr))
    (ho : off + cs.size ≤ c.size) (hf : noFr fr off cs.size) (k : K undef ro (own.set i (gr.set j (b, .cells (splice c off cs.toList) T' fr)))) :
    OpW P n E ⟨d, .store T x y, t, p, af, g⟩ K ρ ro own := OpW.of_skip fun w hw => by
  have hb := hw.has _ (mem_of_ij hi hj)
  have := run_storeCells (P := P) (b := b) (off := off) (T := T') (fr := fr) ⟨b, off, none⟩ cs.toList 0 w c rfl hb hv (by simp; omega) (by simpa using hf)
  refine ⟨ro, _, World.setB w b (.cells (splice c off cs.toList) T' fr), ?_, hw.setB hi hj, k⟩
  simp only [Nat.add_zero] at this
  simp [execOp, hx, hy, Instr.storeAt, Instr.sureAddr, storeVar, Value.cells, run_sizeOf_sz hm, this]
/-- A new block: whatever its number. -/
theorem opw_new {op : Op} {o : Obj} (hrun : ∀ w, (execOp (ev ρ) ⟨d, op, t, p, af, g⟩).run P w = .ok (.value (.pointer (some ⟨w.heap.size, 0, none⟩))) { w with heap := w.heap.push o })
    (k : ∀ nb, K (.pointer (some ⟨nb, 0, none⟩)) ro (own ++ [[(nb, o)]])) : OpW P n E ⟨d, op, t, p, af, g⟩ K ρ ro own := OpW.of_run fun w hw =>
  ⟨_, ro, _, _, hrun w, hw.push o, k _⟩
theorem opw_alloc {z : Value} (hz : zeroOf P T = some z) (k : ∀ nb, K (.pointer (some ⟨nb, 0, none⟩)) ro (own ++ [[(nb, .cells z.cells T (0, 0))]])) :
    OpW P n E ⟨d, .alloc T, t, p, af, g⟩ K ρ ro own := opw_new (fun w => by simp [execOp, Instr.alloc, run_zero hz, newVar, newRow]) k
theorem opw_box (k : ∀ nb, K (.pointer (some ⟨nb, 0, none⟩)) ro (own ++ [[(nb, .cells (ev ρ x).cells T (0, 0))]])) :
    OpW P n E ⟨d, .box T x, t, p, af, g⟩ K ρ ro own := opw_new (fun w => by simp [execOp, Instr.box, newVar, newRow]) k
/-- A new row. -/
theorem opw_row {op : Op} {o : Obj} {l c : Nat} (hrun : ∀ w, (execOp (ev ρ) ⟨d, op, t, p, af, g⟩).run P w = .ok (.value (.slice (some ⟨w.heap.size, 0, none⟩) l c)) { w with heap := w.heap.push o })
    (k : ∀ nb, K (.slice (some ⟨nb, 0, none⟩) l c) ro (own ++ [[(nb, o)]])) : OpW P n E ⟨d, op, t, p, af, g⟩ K ρ ro own := OpW.of_run fun w hw =>
  ⟨_, ro, _, _, hrun w, hw.push o, k _⟩
theorem opw_buildSlice {e : TypeId} {len m : Nat} {parts : Array (Nat × Operand)} {z : Value} {cells : Array Value} (hT : P.underlying T = some (.slice e)) (hs : sz P e = some m) (hz : zeroOf P e = some z) (h24 : len * m ≤ 16777216)
    (hfill : Instr.fill (fun i => some (i * m, m)) ((Array.range (len * m)).map (z.cells[· % z.cells.size]!)) (parts.map fun x => (x.1, ev ρ x.2)).toList = some cells)
    (k : ∀ nb, K (.slice (some ⟨nb, 0, none⟩) len len) ro (own ++ [[(nb, .cells cells e (0, 0))]])) :
    OpW P n E ⟨d, .buildSlice T len parts, t, p, af, g⟩ K ρ ro own := opw_row (fun w => by
  have h1 : ¬ len * m > 2 ^ 24 := by omega
  have hp : (parts.map fun (i, x) => (i, ev ρ x)) = parts.map fun x => (x.1, ev ρ x.2) := rfl
  by_cases h0 : len * m = 0
  · rw [h0, show Array.range 0 = #[] from rfl, Array.map_empty] at hfill
    simp only [execOp, Instr.buildSlice, Sem.run_bind, run_underlying hT, run_sizeOf_sz hs, Result.andThen_ok, h1, if_false, h0, if_true, hp, Sem.run_pure, show Array.range 0 = #[] from rfl, Array.map_empty, hfill]
    simp [newRow]
  · simp only [execOp, Instr.buildSlice, Sem.run_bind, run_underlying hT, run_sizeOf_sz hs, Result.andThen_ok, h1, if_false, h0, hp, Sem.run_pure, run_zero hz, hfill]
    simp [newRow]) k
end
end Go.Vc
