/- Addresses, slices' bounds, parts of values; lengths. Over any program. -/
import Derived.Test.YtnohdfhhdppflaaVcMemOps
namespace Go.Vc
open Go
set_option linter.unusedVariables false
set_option linter.unusedSimpArgs false

/-- Where a struct's field lies: its offset in cells. -/
def fieldOff (P : Program) (S : TypeId) (f : Nat) : Option Nat :=
  match P.underlying S with
  | some (.struct fs) => match fs[f]? with
    | some fd => match sz P fd.type with
      | some (_ + 1) => some fd.offset
      | _ => none
    | none => none
  | _ => none
/-- What a field of a value is: its offset, whether it's one cell, its cells. -/
def fieldPart (P : Program) (S : TypeId) (f : Nat) : Option (Nat × Bool × Nat) :=
  match P.underlying S with
  | some (.struct fs) => match fs[f]? with
    | some fd => match sz P fd.type with
      | some m => if isMany P fd.type then some (fd.offset, false, m) else if isOne P fd.type then some (fd.offset, true, m) else none
      | none => none
    | none => none
  | _ => none
def arrOf (P : Program) (T : TypeId) : Option (Nat × Nat) :=
  match P.underlying T with
  | some (.array n e) => (sz P e).map fun m => (n, m)
  | _ => none
def sliceOf (P : Program) (T : TypeId) : Option (TypeId × Nat) :=
  match P.underlying T with
  | some (.slice e) => (sz P e).map fun m => (e, m)
  | _ => none
theorem arrOf_spec {P : Program} {T : TypeId} {n m : Nat} (h : arrOf P T = some (n, m)) : ∃ e, P.underlying T = some (.array n e) ∧ sz P e = some m := by
  unfold arrOf at h
  cases hu : P.underlying T with
  | none => rw [hu] at h; cases h
  | some d =>
    rw [hu] at h
    cases d <;> simp only [] at h <;> try (cases h; done)
    rename_i n' e
    cases hs : sz P e with
    | none => rw [hs] at h; cases h
    | some m' => rw [hs] at h; simp at h; obtain ⟨rfl, rfl⟩ := h; exact ⟨e, rfl, hs⟩
theorem sliceOf_spec {P : Program} {T e : TypeId} {m : Nat} (h : sliceOf P T = some (e, m)) : P.underlying T = some (.slice e) ∧ sz P e = some m := by
  unfold sliceOf at h
  cases hu : P.underlying T with
  | none => rw [hu] at h; cases h
  | some d =>
    rw [hu] at h
    cases d <;> simp only [] at h <;> try (cases h; done)
    rename_i e'
    cases hs : sz P e' with
    | none => rw [hs] at h; cases h
    | some m' => rw [hs] at h; simp at h; obtain ⟨rfl, rfl⟩ := h; exact ⟨rfl, hs⟩

section
variable {P : Program} {ρ : Fr} {x y z c : Operand} {T T' : TypeId} {b off m len cap : Nat} {k : IntKind} {i : Int}
theorem pv_fieldAddr {f o : Nat} (h : fieldOff P T f = some o) (hx : ev ρ x = .pointer (some ⟨b, off, none⟩)) : PV P (.fieldAddr T x f) ρ (.pointer (some ⟨b, off + o, none⟩)) := fun _ _ _ _ _ w => by
  unfold fieldOff at h
  cases hu : P.underlying T with
  | none => rw [hu] at h; cases h
  | some d =>
    rw [hu] at h
    cases d <;> simp only [] at h <;> try (cases h; done)
    rename_i fs
    cases hf : fs[f]? with
    | none => rw [hf] at h; cases h
    | some fd =>
      rw [hf] at h
      simp only [] at h
      cases hs : sz P fd.type with
      | none => rw [hs] at h; cases h
      | some s =>
        rw [hs] at h
        cases s with
        | zero => cases h
        | succ s =>
          simp only [Option.some.injEq] at h
          subst h
          simp [execOp, hx, Instr.fieldAt, run_underlying hu, hf, Instr.sureAddr, fieldPlace, run_sizeOf_sz hs, Addr.add_lit]
theorem pv_indexAddr_arr {len m : Nat} (h : arrOf P T = some (len, m)) (hx : ev ρ x = .pointer (some ⟨b, off, none⟩)) (hi : ev ρ y = .int k i) (h0 : 0 ≤ i) (h1 : i < len) :
    PV P (.indexAddr T x y) ρ (.pointer (some ⟨b, off + i.toNat * m, none⟩)) := fun _ _ _ _ _ w => by
  obtain ⟨e, hu, hs⟩ := arrOf_spec h
  have hh : 0 ≤ i ∧ i < (len : Int) := ⟨h0, h1⟩
  simp [execOp, hx, hi, Instr.indexAt, asIntOf, run_underlying hu, Instr.sureAddr, hh, run_sizeOf_sz hs, Addr.add_lit]
theorem pv_indexAddr {e : TypeId} (h : sliceOf P T = some (e, m)) (hx : ev ρ x = .slice (some ⟨b, off, none⟩) len cap) (hi : ev ρ y = .int k i) (h0 : 0 ≤ i) (h1 : i < len) :
    PV P (.indexAddr T x y) ρ (.pointer (some ⟨b, off + i.toNat * m, none⟩)) := fun _ _ _ _ _ w => by
  obtain ⟨hu, hs⟩ := sliceOf_spec h
  have hh : 0 ≤ i ∧ i < (len : Int) := ⟨h0, h1⟩
  simp [execOp, hx, hi, Instr.indexAt, asIntOf, run_underlying hu, hh, run_sizeOf_sz hs, Addr.add_lit]
/-- Slices of one cell an element: 'x[lo:hi]'. -/
def cutAddr (a : Option Addr) (l m : Nat) (cap : Nat) : Option Addr := if cap = l then a else a.map (·.add (l * m))
theorem cutAddr_some (b off l m cap : Nat) : cutAddr (some ⟨b, off, none⟩) l m cap = some ⟨b, if cap = l then off else off + l * m, none⟩ := by
  unfold cutAddr; split <;> simp [Addr.add_lit]
theorem pv_slice_lh {e : TypeId} {a : Option Addr} {kl kh : IntKind} {l h : Int} (hT : sliceOf P T = some (e, m)) (hx : ev ρ x = .slice a len cap) (hl : ev ρ y = .int kl l) (hh : ev ρ z = .int kh h) (h0 : 0 ≤ l) (h1 : l ≤ h) (h2 : h ≤ cap) :
    PV P (.slice T x (some y) (some z) none) ρ (.slice (cutAddr a l.toNat m cap) (h.toNat - l.toNat) (cap - l.toNat)) := fun _ _ _ _ _ w => by
  obtain ⟨hu, hs⟩ := sliceOf_spec hT
  have e1 : (0 ≤ h ∧ h ≤ (cap : Int)) := ⟨by omega, h2⟩
  have e2 : (0 ≤ l ∧ l ≤ (h.toNat : Int)) := ⟨h0, by omega⟩
  simp [execOp, hx, hl, hh, Instr.sliceAt, Instr.slice, run_underlying hu, Instr.sliceBounds, Instr.sliceBound, asIntOf, e1, e2, run_sizeOf_sz hs, cutAddr]
  intro hc; omega
theorem pv_slice_h {e : TypeId} {a : Option Addr} {kh : IntKind} {h : Int} (hT : sliceOf P T = some (e, m)) (hx : ev ρ x = .slice a len cap) (hh : ev ρ z = .int kh h) (h0 : 0 ≤ h) (h2 : h ≤ cap) :
    PV P (.slice T x none (some z) none) ρ (.slice a h.toNat cap) := fun _ _ _ _ _ w => by
  obtain ⟨hu, hs⟩ := sliceOf_spec hT
  have e1 : (0 ≤ h ∧ h ≤ (cap : Int)) := ⟨h0, h2⟩
  simp [execOp, hx, hh, Instr.sliceAt, Instr.slice, run_underlying hu, Instr.sliceBounds, Instr.sliceBound, asIntOf, e1, run_sizeOf_sz hs]
  intro _; cases a <;> simp [Addr.add_zero']
theorem pv_slice_l {e : TypeId} {a : Option Addr} {kl : IntKind} {l : Int} (hT : sliceOf P T = some (e, m)) (hx : ev ρ x = .slice a len cap) (hl : ev ρ y = .int kl l) (h0 : 0 ≤ l) (h1 : l ≤ len) :
    PV P (.slice T x (some y) none none) ρ (.slice (cutAddr a l.toNat m cap) (len - l.toNat) (cap - l.toNat)) := fun _ _ _ _ _ w => by
  obtain ⟨hu, hs⟩ := sliceOf_spec hT
  have e1 : (0 ≤ l ∧ l ≤ (len : Int)) := ⟨h0, h1⟩
  simp [execOp, hx, hl, Instr.sliceAt, Instr.slice, run_underlying hu, Instr.sliceBounds, Instr.sliceBound, asIntOf, e1, run_sizeOf_sz hs, cutAddr]
theorem pv_slice_all {e : TypeId} {a : Option Addr} (hT : sliceOf P T = some (e, m)) (hx : ev ρ x = .slice a len cap) :
    PV P (.slice T x none none none) ρ (.slice a len cap) := fun _ _ _ _ _ w => by
  obtain ⟨hu, hs⟩ := sliceOf_spec hT
  simp [execOp, hx, Instr.sliceAt, Instr.slice, run_underlying hu, Instr.sliceBounds, run_sizeOf_sz hs]
  intro _; cases a <;> simp [Addr.add_zero']
theorem pv_slice_hm {e : TypeId} {a : Option Addr} {kh km : IntKind} {h mx : Int} {u : Operand} (hT : sliceOf P T = some (e, m)) (hx : ev ρ x = .slice a len cap) (hh : ev ρ z = .int kh h) (hm : ev ρ u = .int km mx) (h0 : 0 ≤ h) (h1 : h ≤ mx) (h2 : mx ≤ cap) :
    PV P (.slice T x none (some z) (some u)) ρ (.slice a h.toNat mx.toNat) := fun _ _ _ _ _ w => by
  obtain ⟨hu, hs⟩ := sliceOf_spec hT
  have e1 : (0 ≤ mx ∧ mx ≤ (cap : Int)) := ⟨by omega, h2⟩
  have e2 : (0 ≤ h ∧ h ≤ (mx.toNat : Int)) := ⟨h0, by omega⟩
  simp [execOp, hx, hh, hm, Instr.sliceAt, Instr.slice, run_underlying hu, Instr.sliceBounds, Instr.sliceBound, asIntOf, e1, e2, run_sizeOf_sz hs]
  rw [if_pos (by omega)]
  have e3 : a.map (·.add 0) = a := by cases a <;> simp [Addr.add_zero']
  rw [e3]; simp
/-- A part of a struct's value. -/
theorem pv_field {f o s : Nat} {cs : Array Value} {v : Value} (h : fieldPart P T f = some (o, true, s)) (hx : ev ρ x = .agg cs) (hv : cs[o]? = some v) : PV P (.field T x f) ρ v := fun _ _ _ _ _ w => by
  unfold fieldPart at h
  cases hu : P.underlying T with
  | none => rw [hu] at h; cases h
  | some d =>
    rw [hu] at h
    cases d <;> simp only [] at h <;> try (cases h; done)
    rename_i fs
    cases hf : fs[f]? with
    | none => rw [hf] at h; cases h
    | some fd =>
      rw [hf] at h
      simp only [] at h
      cases hs : sz P fd.type with
      | none => rw [hs] at h; cases h
      | some s' =>
        rw [hs] at h
        simp only [] at h
        by_cases hm : isMany P fd.type = true
        · rw [if_pos hm] at h; simp at h
        · rw [if_neg hm] at h
          by_cases ho : isOne P fd.type = true
          · rw [if_pos ho] at h
            simp at h
            obtain ⟨rfl, rfl⟩ := h
            simp [execOp, hx, Instr.field, run_underlying hu, hf, part, run_isAgg_one ho, asAgg, hv]
          · rw [if_neg ho] at h; simp at h
theorem pv_fieldA {f o s : Nat} {cs : Array Value} (h : fieldPart P T f = some (o, false, s)) (hx : ev ρ x = .agg cs) : PV P (.field T x f) ρ (.agg (cs.extract o (o + s))) := fun _ _ _ _ _ w => by
  unfold fieldPart at h
  cases hu : P.underlying T with
  | none => rw [hu] at h; cases h
  | some d =>
    rw [hu] at h
    cases d <;> simp only [] at h <;> try (cases h; done)
    rename_i fs
    cases hf : fs[f]? with
    | none => rw [hf] at h; cases h
    | some fd =>
      rw [hf] at h
      simp only [] at h
      cases hs : sz P fd.type with
      | none => rw [hs] at h; cases h
      | some s' =>
        rw [hs] at h
        simp only [] at h
        by_cases hm : isMany P fd.type = true
        · rw [if_pos hm] at h
          simp at h
          obtain ⟨rfl, rfl⟩ := h
          simp [execOp, hx, Instr.field, run_underlying hu, hf, part, run_isAgg_many hm, asAgg, run_sizeOf_sz hs]
        · rw [if_neg hm] at h
          by_cases ho : isOne P fd.type = true
          · rw [if_pos ho] at h; simp at h
          · rw [if_neg ho] at h; simp at h
/-- An element of an array's value, of one cell. -/
theorem pv_index {e : TypeId} {cs : Array Value} {v : Value} {len : Nat} (hT : P.underlying T = some (.array len e)) (hs : sz P e = some 1) (ho : isOne P e = true) (hx : ev ρ x = .agg cs) (hi : ev ρ y = .int k i) (h0 : 0 ≤ i) (h1 : i < len) (hv : cs[i.toNat]? = some v) :
    PV P (.index T x y) ρ v := fun _ _ _ _ _ w => by
  have hh : 0 ≤ i ∧ i < (len : Int) := ⟨h0, h1⟩
  simp [execOp, hx, hi, Instr.index, asIntOf, run_underlying hT, hh, run_sizeOf_sz hs, part, run_isAgg_one ho, hv]
theorem pv_build_struct {fs : Array Field} {parts : Array (Nat × Operand)} {zv : Value} {cells : Array Value} {pl : Array (Nat × Nat)} (hT : P.underlying T = some (.struct fs)) (hz : zeroOf P T = some zv)
    (hpl : ∀ w, (fs.mapM fun f => do pure (f.offset, ← sizeOf f.type) : Sem (Array (Nat × Nat))).run P w = .ok pl w)
    (hf : Instr.fill (pl[·]?) zv.cells (parts.map fun x => (x.1, ev ρ x.2)).toList = some cells) : PV P (.build T parts) ρ (.agg cells) := fun _ _ _ _ _ w => by
  have hp : (parts.map fun (i, x) => (i, ev ρ x)) = parts.map fun x => (x.1, ev ρ x.2) := rfl
  have hpl' := hpl w
  simp only [execOp, Instr.build, Sem.run_bind, run_zero hz, Result.andThen_ok, run_underlying hT, hp, hpl', hf]
  simp
theorem pv_build_arr {e : TypeId} {len m : Nat} {parts : Array (Nat × Operand)} {zv : Value} {cells : Array Value} (hT : P.underlying T = some (.array len e)) (hs : sz P e = some m) (hz : zeroOf P T = some zv)
    (hf : Instr.fill (fun i => some (i * m, m)) zv.cells (parts.map fun x => (x.1, ev ρ x.2)).toList = some cells) : PV P (.build T parts) ρ (.agg cells) := fun _ _ _ _ _ w => by
  have hp : (parts.map fun (i, x) => (i, ev ρ x)) = parts.map fun x => (x.1, ev ρ x.2) := rfl
  simp only [execOp, Instr.build, Sem.run_bind, run_zero hz, Result.andThen_ok, run_underlying hT, hp, run_sizeOf_sz hs, hf]
  simp
/-- The filling of a value, on lists: it computes. -/
def fillL (place : Nat → Option (Nat × Nat)) (cells : List Value) : List (Nat × Value) → Option (List Value)
  | [] => some cells
  | (i, v) :: rest =>
    match place i with
    | none => none
    | some (off, size) =>
      if v.cells.toList.length ≠ size || off + v.cells.toList.length > cells.length then none
      else fillL place (v.cells.toList.zipIdx.foldl (fun cs x => cs.set (off + x.2) x.1) cells) rest
theorem fold_toList (off : Nat) (l : List (Value × Nat)) (cs : Array Value) : (l.foldl (fun cs x => cs.setIfInBounds (off + x.2) x.1) cs).toList = l.foldl (fun cs x => cs.set (off + x.2) x.1) cs.toList := by
  induction l generalizing cs with
  | nil => rfl
  | cons x l ih => simp only [List.foldl_cons]; rw [ih]; simp
theorem fill_of_fillL {place : Nat → Option (Nat × Nat)} (ps : List (Nat × Value)) {cs : List Value} : ∀ (cells : Array Value), fillL place cells.toList ps = some cs → Instr.fill place cells ps = some cs.toArray := by
  induction ps with
  | nil => intro cells h; simp only [fillL, Option.some.injEq] at h; subst h; simp [Instr.fill]
  | cons x rest ih =>
    obtain ⟨i, v⟩ := x
    intro cells h
    unfold fillL at h; unfold Instr.fill
    cases hp : place i with
    | none => rw [hp] at h; cases h
    | some y =>
      obtain ⟨off, size⟩ := y
      rw [hp] at h
      dsimp only at h ⊢
      simp only [Array.length_toList] at h
      split at h
      · cases h
      · rename_i hh
        rw [if_neg hh]
        apply ih
        rw [← h]
        congr 1
        rw [← Array.foldl_toList, Array.toList_zipIdx]
        exact fold_toList off _ cells
theorem pv_build_structL {fs : Array Field} {parts : Array (Nat × Operand)} {zv : Value} {cs : List Value} {pl : Array (Nat × Nat)} (hT : P.underlying T = some (.struct fs)) (hz : zeroOf P T = some zv)
    (hpl : ∀ w, (fs.mapM fun f => do pure (f.offset, ← sizeOf f.type) : Sem (Array (Nat × Nat))).run P w = .ok pl w)
    (hf : fillL (pl[·]?) zv.cells.toList (parts.toList.map fun x => (x.1, ev ρ x.2)) = some cs) : PV P (.build T parts) ρ (.agg cs.toArray) :=
  pv_build_struct hT hz hpl (fill_of_fillL _ _ (by rw [Array.toList_map]; exact hf))
theorem pv_build_arrL {e : TypeId} {len m : Nat} {parts : Array (Nat × Operand)} {zv : Value} {cs : List Value} (hT : P.underlying T = some (.array len e)) (hs : sz P e = some m) (hz : zeroOf P T = some zv)
    (hf : fillL (fun i => some (i * m, m)) zv.cells.toList (parts.toList.map fun x => (x.1, ev ρ x.2)) = some cs) : PV P (.build T parts) ρ (.agg cs.toArray) :=
  pv_build_arr hT hs hz (fill_of_fillL _ _ (by rw [Array.toList_map]; exact hf))
/-! ### Builtins that only compute -/
def bcall (bi : Builtin) (args : Array Operand) (tys : Array TypeId) : Op := .call { callee := .builtin bi, args := args, argTypes := tys }
theorem pv_len_slice {e : TypeId} {a : Option Addr} (hT : sliceOf P T = some (e, m)) (hx : ev ρ x = .slice a len cap) : PV P (.call { callee := .builtin .len, args := #[x], argTypes := #[T] }) ρ (.int .i64 len) := fun _ _ _ _ _ w => by
  obtain ⟨hu, hs⟩ := sliceOf_spec hT
  simp [execOp, resolve, invoke, builtin, hx, Builtin.len_, run_underlying hu, goInt]
theorem pv_cap_slice {e : TypeId} {a : Option Addr} (hT : sliceOf P T = some (e, m)) (hx : ev ρ x = .slice a len cap) : PV P (.call { callee := .builtin .cap, args := #[x], argTypes := #[T] }) ρ (.int .i64 cap) := fun _ _ _ _ _ w => by
  obtain ⟨hu, hs⟩ := sliceOf_spec hT
  simp [execOp, resolve, invoke, builtin, hx, Builtin.cap_, run_underlying hu, goInt]
theorem pv_len_string {s : ByteArray} (hT : P.underlying T = some .string) (hx : ev ρ x = .string s) : PV P (.call { callee := .builtin .len, args := #[x], argTypes := #[T] }) ρ (.int .i64 s.size) := fun _ _ _ _ _ w => by
  simp [execOp, resolve, invoke, builtin, hx, Builtin.len_, run_underlying hT, goInt]
theorem pv_max {a c : Int} {tys : Array TypeId} (hx : ev ρ x = .int k a) (hy : ev ρ y = .int k c) : PV P (.call { callee := .builtin .max, args := #[x, y], argTypes := tys }) ρ (.int k (max a c)) := fun _ _ _ _ _ w => by
  simp [execOp, resolve, invoke, builtin, hx, hy, Builtin.max_, Builtin.max2]
  split <;> congr 1 <;> omega
theorem pv_min {a c : Int} {tys : Array TypeId} (hx : ev ρ x = .int k a) (hy : ev ρ y = .int k c) : PV P (.call { callee := .builtin .min, args := #[x, y], argTypes := tys }) ρ (.int k (min a c)) := fun _ _ _ _ _ w => by
  simp [execOp, resolve, invoke, builtin, hx, hy, Builtin.min_, Builtin.min2]
  split <;> congr 1 <;> omega
/-! ### nil, strings, bools -/
theorem pv_bin_any {op : BinOp} {a c v : Value} (hx : ev ρ x = a) (hy : ev ρ y = c) (hg : ∀ w, (eqGuard op T x y a c).run P w = .ok () w) (h : ∀ w, (binOp op T a c).run P w = .ok v w) : PV P (.binOp op T x y T') ρ v := fun _ _ _ _ _ w => by
  simp [execOp, hx, hy, hg, h]
theorem run_equalIn_ptr (d : Nat) {e : TypeId} {a : Option Addr} (hT : P.underlying T = some (.pointer e)) (w : World) : (Op.equalIn (d + 1) T (.pointer a) (.pointer none)).run P w = .ok a.isNone w := by
  cases a <;> simp [Op.equalIn, run_underlying hT]
theorem run_equal_ptr {e : TypeId} {a : Option Addr} (hT : P.underlying T = some (.pointer e)) (w : World) : (Op.equal T (.pointer a) (.pointer none)).run P w = .ok a.isNone w := run_equalIn_ptr 9999 hT w
theorem pv_ptr_nil {e : TypeId} {a : Option Addr} (hT : P.underlying T = some (.pointer e)) (hx : ev ρ x = .pointer a) (hy : ev ρ y = .pointer none) : PV P (.binOp .eql T x y T') ρ (.bool a.isNone) :=
  pv_bin_any hx hy (fun w => by simp [eqGuard]) (fun w => by simp only [binOp, Sem.run_bind, run_equal_ptr hT, Result.andThen_ok]; rfl)
theorem pv_ptr_nnil {e : TypeId} {a : Option Addr} (hT : P.underlying T = some (.pointer e)) (hx : ev ρ x = .pointer a) (hy : ev ρ y = .pointer none) : PV P (.binOp .neq T x y T') ρ (.bool (!a.isNone)) :=
  pv_bin_any hx hy (fun w => by simp [eqGuard]) (fun w => by simp only [binOp, Sem.run_bind, run_equal_ptr hT, Result.andThen_ok]; rfl)
theorem run_equalIn_slice (d : Nat) {e : TypeId} {a : Option Addr} {l1 c1 : Nat} (hT : P.underlying T = some (.slice e)) (w : World) : (Op.equalIn (d + 1) T (.slice a len cap) (.slice none l1 c1)).run P w = .ok a.isNone w := by
  cases a <;> simp [Op.equalIn, run_underlying hT]
theorem run_equal_slice {e : TypeId} {a : Option Addr} {l1 c1 : Nat} (hT : P.underlying T = some (.slice e)) (w : World) : (Op.equal T (.slice a len cap) (.slice none l1 c1)).run P w = .ok a.isNone w := run_equalIn_slice 9999 hT w
theorem pv_slice_nil {e : TypeId} {a : Option Addr} {l1 c1 : Nat} (hT : P.underlying T = some (.slice e)) (hx : ev ρ x = .slice a len cap) (hy : ev ρ y = .slice none l1 c1) : PV P (.binOp .eql T x y T') ρ (.bool a.isNone) :=
  pv_bin_any hx hy (fun w => by simp [eqGuard]) (fun w => by simp only [binOp, Sem.run_bind, run_equal_slice hT, Result.andThen_ok]; rfl)
theorem pv_str_eql {s t : ByteArray} (hx : ev ρ x = .string s) (hy : ev ρ y = .string t) : PV P (.binOp .eql T x y T') ρ (.bool (s.toList == t.toList)) :=
  pv_bin_any hx hy (fun w => by simp [eqGuard]) (fun w => by simp [binOp, Op.stringOp])
theorem pv_str_neq {s t : ByteArray} (hx : ev ρ x = .string s) (hy : ev ρ y = .string t) : PV P (.binOp .neq T x y T') ρ (.bool (!(s.toList == t.toList))) :=
  pv_bin_any hx hy (fun w => by simp [eqGuard]) (fun w => by simp [binOp, Op.stringOp])
theorem run_equalIn_bool (d : Nat) {a c : Bool} (hT : P.underlying T = some .bool) (w : World) : (Op.equalIn (d + 1) T (.bool a) (.bool c)).run P w = .ok (a == c) w := by
  simp [Op.equalIn, run_underlying hT]
theorem run_equal_bool {a c : Bool} (hT : P.underlying T = some .bool) (w : World) : (Op.equal T (.bool a) (.bool c)).run P w = .ok (a == c) w := run_equalIn_bool 9999 hT w
theorem pv_bool_eql {a c : Bool} (hT : P.underlying T = some .bool) (hx : ev ρ x = .bool a) (hy : ev ρ y = .bool c) : PV P (.binOp .eql T x y T') ρ (.bool (a == c)) :=
  pv_bin_any hx hy (fun w => by simp [eqGuard]) (fun w => by simp only [binOp, Sem.run_bind, run_equal_bool hT, Result.andThen_ok]; rfl)
theorem pv_bool_neq {a c : Bool} (hT : P.underlying T = some .bool) (hx : ev ρ x = .bool a) (hy : ev ρ y = .bool c) : PV P (.binOp .neq T x y T') ρ (.bool (!(a == c))) :=
  pv_bin_any hx hy (fun w => by simp [eqGuard]) (fun w => by simp only [binOp, Sem.run_bind, run_equal_bool hT, Result.andThen_ok]; rfl)
end
end Go.Vc
