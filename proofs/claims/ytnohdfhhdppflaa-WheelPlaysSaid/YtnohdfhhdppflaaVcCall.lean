/- Calls by contract; a function's entry and its results. Over any program. -/
import Derived.Test.YtnohdfhhdppflaaVcAddr
namespace Go.Vc
open Go
set_option linter.unusedVariables false
set_option linter.unusedSimpArgs false

/-- Groups that are handed to a callee: by their places, one after the other, in what is left. -/
def pk : List Nat → List Blks → List Blks
  | [], _ => []
  | i :: is, own => own.getD i [] :: pk is (own.eraseIdx i)
def dr : List Nat → List Blks → List Blks
  | [], own => own
  | i :: is, own => dr is (own.eraseIdx i)
theorem erase_perm (own : List Blks) (i : Nat) : (own.getD i [] ++ (own.eraseIdx i).flatten).Perm own.flatten := by
  induction own generalizing i with
  | nil => simp
  | cons g own ih =>
    cases i with
    | zero => simp
    | succ i =>
      simp only [List.getD_cons_succ, List.eraseIdx_cons_succ, List.flatten_cons]
      have := (ih i).append_left g
      refine List.Perm.trans ?_ this
      rw [← List.append_assoc, ← List.append_assoc]
      exact List.perm_append_comm.append_right _
theorem pk_dr (is : List Nat) (own : List Blks) : ((pk is own).flatten ++ (dr is own).flatten).Perm own.flatten := by
  induction is generalizing own with
  | nil => simp [pk, dr]
  | cons i is ih =>
    simp only [pk, dr, List.flatten_cons, List.append_assoc]
    exact ((ih (own.eraseIdx i)).append_left _).trans (erase_perm own i)
/-- What the callee reads only: known to the caller, among what it does not hand over. -/
def RoOk (ro' ro : RO) (rest : List Blks) : Prop :=
  ∀ x ∈ ro', (∃ q, (x.1, q) ∈ ro ∧ ∀ o, q o → x.2 o) ∨ ∃ o, (x.1, o) ∈ rest.flatten ∧ x.2 o
theorem RoOk.nil {ro : RO} {rest : List Blks} : RoOk [] ro rest := fun x hx => by cases hx
theorem RoOk.self {ro : RO} {rest : List Blks} : RoOk ro ro rest := fun x hx => .inl ⟨x.2, hx, fun _ h => h⟩
theorem RoOk.append {a b ro : RO} {rest : List Blks} (h : RoOk a ro rest) (h' : RoOk b ro rest) : RoOk (a ++ b) ro rest := fun x hx =>
  (List.mem_append.1 hx).elim (h x) (h' x)

theorem Wd.enter {E : Env} {ro ro' : RO} {own : List Blks} {w : World} (h : Wd E ro own w) (is : List Nat) (hro : RoOk ro' ro (dr is own)) :
    Wd ⟨w, keysOf (pk is own)⟩ ro' (pk is own) w := by
  have hp := pk_dr is own
  have hkp : (keysOf (pk is own) ++ keysOf (dr is own)).Perm (keysOf own) := by
    have := hp.map (·.1); simpa [keysOf] using this
  have hn := hkp.nodup_iff.2 h.nodup
  have hn' := List.nodup_append.1 hn
  refine ⟨rfl, rfl, rfl, hn'.1, fun x hx => h.has x (hp.subset (List.mem_append_left _ hx)), fun x hx => ?_, fun x hx hm => ?_, Nat.le_refl _, fun _ _ _ => rfl, fun b hb _ => hb⟩
  · rcases hro x hx with ⟨q, hq, hqo⟩ | ⟨o, ho, hxo⟩
    · obtain ⟨o, h1, h2⟩ := h.hasRo _ hq; exact ⟨o, h1, hqo o h2⟩
    · exact ⟨o, h.has _ (hp.subset (List.mem_append_right _ ho)), hxo⟩
  · rcases hro x hx with ⟨q, hq, hqo⟩ | ⟨o, ho, hxo⟩
    · exact h.apart _ hq (hkp.subset (List.mem_append_left _ hm))
    · exact hn'.2.2 x.1 hm x.1 (List.mem_map.2 ⟨_, ho, rfl⟩) rfl
theorem Wd.leave {E : Env} {ro ro' : RO} {own own' : List Blks} {w w' : World} (h : Wd E ro own w) (is : List Nat)
    (h' : Wd ⟨w, keysOf (pk is own)⟩ ro' own' w') : Wd E ro (own' ++ dr is own) w' := by
  have hp := pk_dr is own
  have hkp : (keysOf (pk is own) ++ keysOf (dr is own)).Perm (keysOf own) := by
    have := hp.map (·.1); simpa [keysOf] using this
  have hn := hkp.nodup_iff.2 h.nodup
  have hn' := List.nodup_append.1 hn
  have hk : keysOf (own' ++ dr is own) = keysOf own' ++ keysOf (dr is own) := by simp [keysOf]
  have hlt : ∀ b ∈ keysOf own, b < w.heap.size := fun b hb => h.lt hb
  have hd : ∀ b ∈ keysOf (dr is own), b ∉ keysOf own' := fun b hb hm =>
    hn'.2.2 b (h'.old b hm (hlt b (hkp.subset (List.mem_append_right _ hb)))) b hb rfl
  have hsame : ∀ b, b < w.heap.size → b ∉ keysOf (pk is own) → w'.heap[b]? = w.heap[b]? := h'.frame
  refine ⟨h'.tape.trans h.tape, h'.os.trans h.os, h'.output.trans h.output, ?_, fun x hx => ?_, fun x hx => ?_, fun x hx hm => ?_, Nat.le_trans h.size h'.size, fun b h1 h2 => ?_, fun b hb hlt' => ?_⟩
  · rw [hk]; exact List.nodup_append.2 ⟨h'.nodup, hn'.2.1, fun a ha b hb e => hd b hb (e ▸ ha)⟩
  · simp only [List.flatten_append, List.mem_append] at hx
    rcases hx with hx | hx
    · exact h'.has x hx
    · have hx1 : x.1 ∈ keysOf (dr is own) := List.mem_map.2 ⟨x, hx, rfl⟩
      have hx2 : x ∈ own.flatten := hp.subset (List.mem_append_right _ hx)
      rw [hsame x.1 (hlt _ (hkp.subset (List.mem_append_right _ hx1))) (fun hm => hn'.2.2 x.1 hm x.1 hx1 rfl)]
      exact h.has x hx2
  · obtain ⟨o, h1, h2⟩ := h.hasRo x hx
    refine ⟨o, ?_, h2⟩
    rw [hsame x.1 (Array.getElem?_eq_some_iff.1 h1).1 (fun hm => h.apart x hx (hkp.subset (List.mem_append_left _ hm)))]
    exact h1
  · rw [hk, List.mem_append] at hm
    obtain ⟨o, h1, h2⟩ := h.hasRo x hx
    have hxl := (Array.getElem?_eq_some_iff.1 h1).1
    rcases hm with hm | hm
    · exact h.apart x hx (hkp.subset (List.mem_append_left _ (h'.old x.1 hm hxl)))
    · exact h.apart x hx (hkp.subset (List.mem_append_right _ hm))
  · rw [hsame b (Nat.lt_of_lt_of_le h1 h.size) (fun hm => h2 (h.old b (hkp.subset (List.mem_append_left _ hm)) h1))]
    exact h.frame b h1 h2
  · rw [hk, List.mem_append] at hb
    rcases hb with hb | hb
    · exact h.old b (hkp.subset (List.mem_append_left _ (h'.old b hb (Nat.lt_of_lt_of_le hlt' h.size)))) hlt'
    · exact h.old b (hkp.subset (List.mem_append_right _ hb)) hlt'

def callable (P : Program) (f : FuncId) : Bool :=
  match P.funcs[f]? with
  | some fn => fn.body.isSome && !(fn.name == "runtime.NumGoroutine")
  | none => false
theorem run_callFunc_of {P : Program} {f : FuncId} (h : callable P f = true) (args : Array Value) (w : World) : (callFunc f args).run P w = .ok (.enter f args) w := by
  unfold callable at h
  cases hf : P.funcs[f]? with
  | none => rw [hf] at h; cases h
  | some fn =>
    rw [hf] at h
    simp only [Bool.and_eq_true, Bool.not_eq_true', Option.isSome_iff_exists] at h
    obtain ⟨⟨c, hc⟩, hn⟩ := h
    have hn' : ¬ fn.name = "runtime.NumGoroutine" := by simpa using hn
    simp [callFunc, hf, hn', hc]

section
variable {P : Program} {n : Nat} {E : Env} {ρ : Fr} {ro ro' : RO} {own : List Blks} {d : Option Tmp} {t : TypeId} {p : String} {af : Array Edge} {g : Option (Nat × Bool)}
variable {K : Value → RO → List Blks → Prop} {f : FuncId} {R : Value → List Blks → Prop}
theorem opw_enter {op : Op} {vs : Array Value} (hrun : ∀ w, (execOp (ev ρ) ⟨d, op, t, p, af, g⟩).run P w = .ok (.enter f vs) w) (is : List Nat) (hC : C P f vs ro' (pk is own) R)
    (hro : RoOk ro' ro (dr is own)) (k : ∀ v own', R v own' → K v ro (own' ++ dr is own)) : OpW P n E ⟨d, op, t, p, af, g⟩ K ρ ro own := fun a w ha hw => by
  unfold Oper.wp
  rw [ha.eval, hrun]
  refine (hC w (hw.enter is hro)).mono fun e w' ⟨v, ro'', own', h1, h2, h3⟩ => ?_
  subst h1
  exact ⟨v, ro, _, rfl, hw.leave is h2, k v own' h3⟩
theorem opw_call {args : Array Operand} {tys : Array TypeId} {vs : Array Value} (hc : callable P f = true) (hv : vs.toList = args.toList.map (ev ρ)) (is : List Nat) (hC : C P f vs ro' (pk is own) R)
    (hro : RoOk ro' ro (dr is own)) (k : ∀ v own', R v own' → K v ro (own' ++ dr is own)) :
    OpW P n E ⟨d, .call { callee := .value (.func f), args := args, argTypes := tys }, t, p, af, g⟩ K ρ ro own :=
  opw_enter (fun w => by
    have hv' : args.map (ev ρ) = vs := by apply Array.ext'; simp [hv]
    simp [execOp, resolve, Deferred.ofValue, ev, hv', invoke, run_callFunc_of hc]) is hC hro k
/-- A call of a function value that captures nothing. -/
theorem opw_callv {args : Array Operand} {tys : Array TypeId} {vs : Array Value} {x : Operand} (hx : ev ρ x = .func (.func f) #[] #[]) (hc : callable P f = true) (hv : vs.toList = args.toList.map (ev ρ)) (is : List Nat) (hC : C P f vs ro' (pk is own) R)
    (hro : RoOk ro' ro (dr is own)) (k : ∀ v own', R v own' → K v ro (own' ++ dr is own)) :
    OpW P n E ⟨d, .call { callee := .value x, args := args, argTypes := tys }, t, p, af, g⟩ K ρ ro own :=
  opw_enter (fun w => by
    have hv' : args.map (ev ρ) = vs := by apply Array.ext'; simp [hv]
    simp [execOp, resolve, hx, Deferred.ofValue, hv', invoke, run_callFunc_of hc]) is hC hro k
/-- A call of a function value with what it captured. -/
theorem opw_callvc {args : Array Operand} {tys : Array TypeId} {vs cap : Array Value} {x : Operand} (hx : ev ρ x = .func (.func f) #[] cap) (hc : callable P f = true) (hv : vs.toList = args.toList.map (ev ρ) ++ cap.toList) (is : List Nat) (hC : C P f vs ro' (pk is own) R)
    (hro : RoOk ro' ro (dr is own)) (k : ∀ v own', R v own' → K v ro (own' ++ dr is own)) :
    OpW P n E ⟨d, .call { callee := .value x, args := args, argTypes := tys }, t, p, af, g⟩ K ρ ro own :=
  opw_enter (fun w => by
    have hv' : args.map (ev ρ) ++ cap = vs := by apply Array.ext'; simp [hv]
    simp [execOp, resolve, hx, Deferred.ofValue, hv', invoke, run_callFunc_of hc]) is hC hro k
end

/-! ### Entry and results -/
def ini (args : List Value) : Fr := fun i => args.getD i undef
def Res (P : Program) (rs : List ResultVar) (ρ : Fr) (ro : RO) (own : List Blks) (v : Value) : Prop :=
  match rs with
  | [.tmp t] => v = ρ t
  | [.tmp t, .tmp u] => v = .tuple #[ρ t, ρ u]
  | [.tmp t, .tmp u, .tmp s] => v = .tuple #[ρ t, ρ u, ρ s]
  | [] => v = .tuple #[]
  | [.cell a T] => ∃ (b off : Nat) (cs : List Value) (m : Nat), ρ a = .pointer (some ⟨b, off, none⟩) ∧ isMany P T = true ∧ sz P T = some m ∧ cs.length = m ∧ v = .agg cs.toArray ∧ ∀ (j : Nat) u, cs[j]? = some u → Has ro own b (off + j) u
  | [.cell a T, .tmp t] => ∃ (b off : Nat) (cs : List Value) (m : Nat), ρ a = .pointer (some ⟨b, off, none⟩) ∧ isMany P T = true ∧ sz P T = some m ∧ cs.length = m ∧ v = .tuple #[.agg cs.toArray, ρ t] ∧ ∀ (j : Nat) u, cs[j]? = some u → Has ro own b (off + j) u
  | _ => False
theorem run_loadA {P : Program} {E : Env} {ro : RO} {own : List Blks} {w : World} (hw : Wd E ro own w) {T : TypeId} {b off m : Nat} {cs : List Value} (hT : isMany P T = true) (hm : sz P T = some m) (hl : cs.length = m) (hc : ∀ (j : Nat) u, cs[j]? = some u → Has ro own b (off + j) u) :
    (loadVar T ⟨b, off, none⟩).run P w = .ok (.agg cs.toArray) w := by
  subst hl
  have := run_loadCells_list (P := P) w ⟨b, off, none⟩ cs (fun j u hj => by rw [Addr.add_lit]; exact hw.cell (hc j u hj))
  simp [loadVar, run_isAgg_many hT, run_sizeOf_sz hm, this]
def retP (P : Program) (fn : Func) (R : Value → List Blks → Prop) : Post
  | .normal, ρ, ro, own => ∃ v, Res P fn.results.toList ρ ro own v ∧ R v own
  | .ret, ρ, ro, own => ∃ v, Res P fn.results.toList ρ ro own v ∧ R v own
  | _, _, _, _ => False
theorem run_results {P : Program} {E : Env} {ro : RO} {own : List Blks} {w : World} {n : Nat} {ρ : Fr} {a : Act} {fn : Func} {v : Value} (ha : Rep n ρ a) (hw : Wd E ro own w)
    (h : Res P fn.results.toList ρ ro own v) : (results fn a.tmps).run P w = .ok v w := by
  obtain ⟨rs, hrs⟩ : ∃ rs, fn.results = List.toArray rs := ⟨_, (Array.toArray_toList).symm⟩
  have hg : ∀ t, a.tmps.getD t undef = ρ t := ha.get
  unfold results
  rw [hrs] at h ⊢
  simp only [List.toList_toArray] at h
  unfold Res at h
  split at h
  · subst h; simp [hg]
  · subst h; simp [hg]
  · subst h; simp [hg]
  · subst h; simp
  · obtain ⟨b, off, cs, m, h1, h2, h3, h4, rfl, h6⟩ := h
    have := run_loadA (P := P) hw h2 h3 h4 h6
    simp [hg, h1, asAddr, this]
  · obtain ⟨b, off, cs, m, h1, h2, h3, h4, rfl, h6⟩ := h
    have := run_loadA (P := P) hw h2 h3 h4 h6
    simp [hg, h1, asAddr, this]
  · exact h.elim
theorem c_of_w {P : Program} {f : FuncId} {fn : Func} {c : Code} {args : List Value} {ro : RO} {own : List Blks} {R : Value → List Blks → Prop} (hf : P.funcs[f]? = some fn) (hb : fn.body = some c) (hn : Nat.ble args.length fn.ntmps = true)
    (h : ∀ E, W P fn.ntmps E c (retP P fn R) (ini args) ro own) : C P f args.toArray ro own R := fun w hw => by
  refine calls_of_wp hf hb ?_
  have hn' : args.length ≤ fn.ntmps := Nat.le_of_ble_eq_true hn
  have ha : Rep fn.ntmps (ini args) { tmps := args.toArray ++ Array.replicate (fn.ntmps - args.toArray.size) undef, defers := [] } := by
    refine ⟨rfl, by simp; omega, fun i => ?_⟩
    simp only [ini, Array.getD_eq_getD_getElem?, List.getD_eq_getElem?_getD, Array.getElem?_append, List.size_toArray, List.getElem?_toArray]
    split
    · rfl
    · rename_i hlt
      rw [List.getElem?_eq_none (by omega)]
      simp only [Array.getElem?_replicate, Option.getD_none]
      split <;> rfl
  refine wp_mono (h ⟨w, keysOf own⟩ _ w ha hw) fun ex a' w' ⟨ρ', ro', own', h1, h2, h3⟩ => ?_
  cases ex <;> simp only [retP] at h3
  · obtain ⟨v, hv, hR⟩ := h3
    exact ⟨h1.defers, v, run_results h1 h2 hv, v, ro', own', rfl, h2, hR⟩
  · obtain ⟨v, hv, hR⟩ := h3
    exact ⟨h1.defers, v, run_results h1 h2 hv, v, ro', own', rfl, h2, hR⟩
/-- A contract over more: what is not handed over stays. -/
theorem C.frame {P : Program} {f : FuncId} {args : Array Value} {ro ro' : RO} {own : List Blks} {R : Value → List Blks → Prop} (is : List Nat) (h : C P f args ro' (pk is own) R) (hro : RoOk ro' ro (dr is own)) :
    C P f args ro own fun v o => ∃ own', R v own' ∧ o = own' ++ dr is own := fun w hw =>
  (h w (hw.enter is hro)).mono fun e w' ⟨v, ro'', own', h1, h2, h3⟩ => ⟨v, ro, _, h1, hw.leave is h2, own', h3, rfl⟩
end Go.Vc
