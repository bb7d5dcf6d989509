/- A statement whose order is open: what only computes or reads what the statement holds fixed is taken first; the others in their order. Over any program.
The law beneath is that of Derived/OrdersHeld.lean, with the condition given up behind the operations 'rel', which wait for all that leans on it. -/
import Derived.Test.YtnohdfhhdppflaaVcMore
namespace Go.Vc
open Go
set_option linter.unusedVariables false
set_option linter.unusedSimpArgs false

section
variable {P : Program} {ops : Array Oper} {Q : Exit → Act → World → Prop} {md : Region.Mode} {rel : List Nat} {F : World → Prop}
def wpAnyR (P : Program) (md : Region.Mode) (ops : Array Oper) (Q : Exit → Act → World → Prop) (rel : List Nat) (F : World → Prop) : Nat → Array Bool → Act → World → Prop
  | 0, listed, a, w => Region.ready md ops listed = [] ∧ Q .normal a w
  | fuel + 1, listed, a, w =>
    (Region.ready md ops listed = [] → Q .normal a w) ∧
    ∀ i ∈ Region.ready md ops listed, wpOp P ops Q i (fun a' w' => if i ∈ rel then wpAny P md ops Q fuel (listed.setIfInBounds i true) a' w' else F w' ∧ wpAnyR P md ops Q rel F fuel (listed.setIfInBounds i true) a' w') a w
theorem wpAny_of_R : ∀ (fuel : Nat) (listed : Array Bool) (a : Act) (w : World), wpAnyR P md ops Q rel F fuel listed a w → wpAny P md ops Q fuel listed a w
  | 0, _, _, _, h => h
  | fuel + 1, _, _, _, h => ⟨h.1, fun i hi => wpOp_mono (fun a' w' h' => by
      split at h'
      · exact h'
      · exact wpAny_of_R fuel _ a' w' h'.2) (h.2 i hi)⟩
theorem wpAnyR_first {i : Nat} {oi : Oper} {v : Value} (hi : ops[i]? = some oi) (hsel : ∀ (j : Nat) (o : Oper) cs b, ops[j]? = some o → o.op ≠ .select cs b)
    (hQ : ∀ c a w, Q (.panic c) (a.put oi.dst v) w → Q (.panic c) a w) (hrel : ∀ r ∈ rel, r ≠ i ∧ ∀ o, ops[r]? = some o → ∃ e ∈ o.after, Region.binds md e = true ∧ e.on = i) :
    ∀ (fuel : Nat) (listed : Array Bool) (a : Act) (w : World),
      (∀ j oj, ops[j]? = some oj → j ≠ i → listed.getD j true = false → (∀ e ∈ oj.after, Region.binds md e = true → e.on ≠ i) → oi.apart ops oj = true) →
      i ∈ Region.ready md ops listed → YieldsIf P ops F oi v a → F w →
      wpAnyR P md ops Q rel F fuel (listed.setIfInBounds i true) (a.put oi.dst v) w → wpAnyR P md ops Q rel F (fuel + 1) listed a w := by
  intro fuel
  have hirel : i ∉ rel := fun h => (hrel i h).1 rfl
  induction fuel with
  | zero =>
    intro listed a w _ hr hy hS H
    refine ⟨fun h => (by rw [h] at hr; cases hr), fun j hj => ?_⟩
    by_cases hji : j = i
    · subst hji; exact hy.wpOp hi hS (by rw [if_neg hirel]; exact ⟨hS, H⟩)
    · have := ready_mono hj hji
      rw [H.1] at this
      cases this
  | succ fuel ih =>
    intro listed a w hfree hr hy hS H
    refine ⟨fun h => (by rw [h] at hr; cases hr), fun j hj => ?_⟩
    by_cases hji : j = i
    · subst hji; exact hy.wpOp hi hS (by rw [if_neg hirel]; exact ⟨hS, H⟩)
    · have h1 := H.2 j (ready_mono hj hji)
      obtain ⟨hjun, oj, hoj, hall⟩ := mem_ready.1 hj
      have hnot : ∀ e ∈ oj.after, Region.binds md e = true → e.on ≠ i := fun e he hb heq => by
        have h1 := hall e he hb
        have h0 := (mem_ready.1 hr).1
        rw [heq] at h1
        rcases Nat.lt_or_ge i listed.size with h' | h'
        · simp [h'] at h0 h1; rw [h0] at h1; cases h1
        · simp [Array.getElem?_eq_none h'] at h1
      have hjrel : j ∉ rel := fun h => by
        obtain ⟨e, he, hb, hon⟩ := (hrel j h).2 oj hoj
        exact hnot e he hb hon
      simp only [if_neg hjrel] at h1 ⊢
      have h2 := wpOp_putIf hoj (hfree j oj hoj hji hjun hnot) (fun cs b => hsel i oi cs b hi) (fun cs b => hsel j oj cs b hoj) hQ hy h1
      have hfree' : ∀ k ok, ops[k]? = some ok → k ≠ i → (listed.setIfInBounds j true).getD k true = false →
          (∀ e ∈ ok.after, Region.binds md e = true → e.on ≠ i) → oi.apart ops ok = true := fun k ok hk hki hun hno => by
        refine hfree k ok hk hki ?_ hno
        by_cases hjk : j = k
        · subst hjk; exact hjun
        · rw [getD_set_ne true hjk] at hun; exact hun
      refine wpOp_mono (fun a' w' h3 => ⟨h3.2.1, ih (listed.setIfInBounds j true) a' w' hfree' (ready_mono hr (Ne.symm hji)) h3.1 h3.2.1 ?_⟩) h2
      rw [Array.setIfInBounds_comm _ _ hji]
      exact h3.2.2
/-- What yields whatever the world: none of 'rel' need wait for it. -/
theorem wpAnyR_first_pure {i : Nat} {oi : Oper} {v : Value} (hi : ops[i]? = some oi) (hsel : ∀ (j : Nat) (o : Oper) cs b, ops[j]? = some o → o.op ≠ .select cs b)
    (hQ : ∀ c a w, Q (.panic c) (a.put oi.dst v) w → Q (.panic c) a w) (hirel : i ∉ rel) :
    ∀ (fuel : Nat) (listed : Array Bool) (a : Act) (w : World),
      (∀ j oj, ops[j]? = some oj → j ≠ i → listed.getD j true = false → (∀ e ∈ oj.after, Region.binds md e = true → e.on ≠ i) → oi.apart ops oj = true) →
      i ∈ Region.ready md ops listed → Yields P ops oi v a → F w →
      wpAnyR P md ops Q rel F fuel (listed.setIfInBounds i true) (a.put oi.dst v) w → wpAnyR P md ops Q rel F (fuel + 1) listed a w := by
  intro fuel
  induction fuel with
  | zero =>
    intro listed a w _ hr hy hS H
    refine ⟨fun h => (by rw [h] at hr; cases hr), fun j hj => ?_⟩
    by_cases hji : j = i
    · subst hji; exact hy.wpOp hi (by rw [if_neg hirel]; exact ⟨hS, H⟩)
    · have := ready_mono hj hji
      rw [H.1] at this
      cases this
  | succ fuel ih =>
    intro listed a w hfree hr hy hS H
    refine ⟨fun h => (by rw [h] at hr; cases hr), fun j hj => ?_⟩
    by_cases hji : j = i
    · subst hji; exact hy.wpOp hi (by rw [if_neg hirel]; exact ⟨hS, H⟩)
    · have h1 := H.2 j (ready_mono hj hji)
      obtain ⟨hjun, oj, hoj, hall⟩ := mem_ready.1 hj
      have hnot : ∀ e ∈ oj.after, Region.binds md e = true → e.on ≠ i := fun e he hb heq => by
        have h1 := hall e he hb
        have h0 := (mem_ready.1 hr).1
        rw [heq] at h1
        rcases Nat.lt_or_ge i listed.size with h' | h'
        · simp [h'] at h0 h1; rw [h0] at h1; cases h1
        · simp [Array.getElem?_eq_none h'] at h1
      have hfree' : ∀ k ok, ops[k]? = some ok → k ≠ i → (listed.setIfInBounds j true).getD k true = false →
          (∀ e ∈ ok.after, Region.binds md e = true → e.on ≠ i) → oi.apart ops ok = true := fun k ok hk hki hun hno => by
        refine hfree k ok hk hki ?_ hno
        by_cases hjk : j = k
        · subst hjk; exact hjun
        · rw [getD_set_ne true hjk] at hun; exact hun
      have h2 := wpOp_put hoj (hfree j oj hoj hji hjun hnot) (fun cs b => hsel i oi cs b hi) (fun cs b => hsel j oj cs b hoj) hQ hy h1
      refine wpOp_mono (fun a' w' h3 => ?_) h2
      obtain ⟨h4, h5⟩ := h3
      split at h5
      · rename_i hjr
        rw [if_pos hjr]
        refine wpAny_first hi hsel hQ fuel _ a' w' hfree' (ready_mono hr (Ne.symm hji)) h4 ?_
        rw [Array.setIfInBounds_comm _ _ hji]
        exact h5
      · rename_i hjr
        rw [if_neg hjr]
        refine ⟨h5.1, ih (listed.setIfInBounds j true) a' w' hfree' (ready_mono hr (Ne.symm hji)) h4 h5.1 ?_⟩
        rw [Array.setIfInBounds_comm _ _ hji]
        exact h5.2
end

/-- What the statement holds fixed. -/
def Held (held : RO) (w : World) : Prop := ∀ x ∈ held, ∃ o, w.heap[x.1]? = some o ∧ x.2 o
theorem Held.of {E : Env} {ro held : RO} {own : List Blks} {w : World} (hw : Wd E ro own w) (h : RoOk held ro own) : Held held w := fun x hx => by
  rcases h x hx with ⟨q, hq, hqo⟩ | ⟨o, ho, hxo⟩
  · obtain ⟨o, h1, h2⟩ := hw.hasRo _ hq; exact ⟨o, h1, hqo o h2⟩
  · exact ⟨o, hw.has _ ho, hxo⟩
theorem Held.cell {held : RO} {w : World} (h : Held held w) {b off : Nat} {v : Value} (hh : Has held [] b off v) : w.cell? ⟨b, off, none⟩ = some v := by
  rcases hh with ⟨o, hm, hc⟩ | ⟨p, hm, hp⟩
  · cases hm
  · obtain ⟨o, ho, hpo⟩ := h _ hm; exact cell_of ho (hp o hpo)
/-- Blocks of one's own, held as they are. -/
def hold (l : Blks) : RO := l.map fun x => (x.1, fun o => o = x.2)
theorem hold_ok {l : Blks} {ro : RO} {own : List Blks} (h : ∀ x ∈ l, x ∈ own.flatten) : RoOk (hold l) ro own := fun x hx => by
  obtain ⟨y, hy, rfl⟩ := List.mem_map.1 hx; exact .inr ⟨y.2, h y hy, rfl⟩
theorem Has.hold {l : Blks} {own : List Blks} {b off : Nat} {v : Value} {o : Obj} (j : Nat) (h : l[j]? = some (b, o)) (hc : cellAt o off = some v) : Has (hold l) own b off v :=
  .inr ⟨fun o' => o' = o, List.mem_map.2 ⟨(b, o), List.mem_of_getElem? h, rfl⟩, fun o' ho => by rw [ho]; exact hc⟩

def okTake (ops : Array Oper) (rel : List Nat) (listed : Array Bool) (i : Nat) : Bool :=
  Region.noSelect ops && Region.free .any ops listed i && (Region.ready .any ops listed).contains i &&
    rel.all fun r => r != i && (match ops[r]? with | some o => o.after.any (fun e => Region.binds .any e && e.on == i) | none => true)
def okTakeP (ops : Array Oper) (rel : List Nat) (listed : Array Bool) (i : Nat) : Bool :=
  Region.noSelect ops && Region.free .any ops listed i && (Region.ready .any ops listed).contains i && !rel.contains i
def WH (P : Program) (n : Nat) (E : Env) (ops : Array Oper) (rel : List Nat) (held : RO) (Q : Post) (fuel : Nat) (listed : Array Bool) (ρ : Fr) (ro : RO) (own : List Blks) : Prop :=
  ∀ a w, Rep n ρ a → Wd E ro own w → Held held w → wpAnyR P .any ops (lift n E (fun ex ρ ro own => ex = .normal ∧ Q .normal ρ ro own)) rel (Held held) fuel listed a w
def WZ (P : Program) (n : Nat) (E : Env) (ops : Array Oper) (Q : Post) (fuel : Nat) (listed : Array Bool) (ρ : Fr) (ro : RO) (own : List Blks) : Prop :=
  ∀ a w, Rep n ρ a → Wd E ro own w → wpAny P .any ops (lift n E (fun ex ρ ro own => ex = .normal ∧ Q .normal ρ ro own)) fuel listed a w
section
variable {P : Program} {n : Nat} {E : Env} {Q : Post} {ρ : Fr} {ro held : RO} {own : List Blks} {ops : Array Oper} {rel : List Nat} {fuel i : Nat} {listed : Array Bool} {o : Oper}
theorem w_draw {id : Nat} (rel : List Nat) (held : RO) (hm : P.follows .mixedOrders = true) (hF : RoOk held ro own) (h : WH P n E ops rel held Q ops.size (Array.replicate ops.size false) ρ ro own) :
    W P n E (.region id ops true) Q ρ ro own := fun a w ha hw => by
  refine wp_mono (wp_region_any hm (wpAny_of_R _ _ _ _ (h a _ ha (hw.drawn _) (Held.of (hw.drawn _) hF)))) fun ex a' w' ⟨ρ', ro', own', h1, h2, h3, h4⟩ => ?_
  subst h3
  exact ⟨ρ', ro', own', h1, h2, h4⟩
theorem take_aux {v : Value} (ho : ops[i]? = some o) (hk : okTake ops rel listed i = true) (hd : dOk n o.dst = true) (hy : ∀ a, Rep n ρ a → YieldsIf P ops (Held held) o v a)
    (k : WH P n E ops rel held Q fuel (listed.setIfInBounds i true) (updo ρ o.dst v) ro own) : WH P n E ops rel held Q (fuel + 1) listed ρ ro own := fun a w ha hw hF => by
  simp only [okTake, Bool.and_eq_true] at hk
  obtain ⟨⟨⟨h1, h2⟩, h3⟩, h4⟩ := hk
  refine wpAnyR_first ho (Region.noSelect_spec h1) ?_ ?_ fuel listed a w (Region.free_spec ho h2) (by simpa using h3) (hy a ha) hF (k _ _ (ha.puto hd v) hw hF)
  · rintro c a w ⟨_, _, _, _, _, h, _⟩; cases h
  · intro r hr
    have := List.all_eq_true.1 h4 r hr
    simp only [Bool.and_eq_true, bne_iff_ne, ne_eq] at this
    refine ⟨this.1, fun o' ho' => ?_⟩
    have h5 := this.2
    rw [ho'] at h5
    simp only [Array.any_eq_true', Bool.and_eq_true, beq_iff_eq] at h5
    exact h5
theorem take_auxP {v : Value} (ho : ops[i]? = some o) (hk : okTakeP ops rel listed i = true) (hd : dOk n o.dst = true) (hy : ∀ a, Rep n ρ a → Yields P ops o v a)
    (k : WH P n E ops rel held Q fuel (listed.setIfInBounds i true) (updo ρ o.dst v) ro own) : WH P n E ops rel held Q (fuel + 1) listed ρ ro own := fun a w ha hw hF => by
  simp only [okTakeP, Bool.and_eq_true] at hk
  obtain ⟨⟨⟨h1, h2⟩, h3⟩, h4⟩ := hk
  refine wpAnyR_first_pure ho (Region.noSelect_spec h1) ?_ (by simpa using h4) fuel listed a w (Region.free_spec ho h2) (by simpa using h3) (hy a ha) hF (k _ _ (ha.puto hd v) hw hF)
  rintro c a w ⟨_, _, _, _, _, h, _⟩; cases h
theorem wh_pure {v : Value} {d : Nat} {op : Op} {t : TypeId} {p : String} {af : Array Edge} {g : Option (Nat × Bool)} (i : Nat) (ho : ops[i]? = some ⟨some d, op, t, p, af, g⟩) (hk : okTakeP ops rel listed i = true) (hd : Nat.blt d n = true)
    (hg : wantedF ops ρ ⟨some d, op, t, p, af, g⟩ = true) (h : PV P op ρ v) (k : WH P n E ops rel held Q fuel (listed.setIfInBounds i true) (upd ρ d v) ro own) : WH P n E ops rel held Q (fuel + 1) listed ρ ro own :=
  take_auxP ho hk hd (fun a ha => .inl ⟨by rw [wanted_eq ha]; exact hg, fun w => by rw [ha.eval]; exact h _ _ _ _ _ w⟩) k
theorem wh_load {v : Value} {d T b off : Nat} {x : Operand} {t : TypeId} {p : String} {af : Array Edge} {g : Option (Nat × Bool)} (i : Nat) (ho : ops[i]? = some ⟨some d, .load T x, t, p, af, g⟩) (hk : okTake ops rel listed i = true) (hd : Nat.blt d n = true)
    (hg : wantedF ops ρ ⟨some d, .load T x, t, p, af, g⟩ = true) (hT : isOne P T = true) (hx : ev ρ x = .pointer (some ⟨b, off, none⟩)) (hc : Has held [] b off v) (k : WH P n E ops rel held Q fuel (listed.setIfInBounds i true) (upd ρ d v) ro own) : WH P n E ops rel held Q (fuel + 1) listed ρ ro own :=
  take_aux ho hk hd (fun a ha => .inl ⟨by rw [wanted_eq ha]; exact hg, fun w hF => by rw [ha.eval]; simp [execOp, hx, Instr.loadAt, Instr.sureAddr, run_loadVar1 hT (hF.cell hc)]⟩) k
theorem wh_loadA {d T b off m : Nat} {cs : List Value} {x : Operand} {t : TypeId} {p : String} {af : Array Edge} {g : Option (Nat × Bool)} (i : Nat) (ho : ops[i]? = some ⟨some d, .load T x, t, p, af, g⟩) (hk : okTake ops rel listed i = true) (hd : Nat.blt d n = true)
    (hg : wantedF ops ρ ⟨some d, .load T x, t, p, af, g⟩ = true) (hT : isMany P T = true) (hm : sz P T = some m) (hl : cs.length = m) (hx : ev ρ x = .pointer (some ⟨b, off, none⟩)) (hc : ∀ (j : Nat) u, cs[j]? = some u → Has held [] b (off + j) u)
    (k : WH P n E ops rel held Q fuel (listed.setIfInBounds i true) (upd ρ d (.agg cs.toArray)) ro own) : WH P n E ops rel held Q (fuel + 1) listed ρ ro own :=
  take_aux ho hk hd (fun a ha => .inl ⟨by rw [wanted_eq ha]; exact hg, fun w hF => by
    subst hl
    have := run_loadCells_list (P := P) w ⟨b, off, none⟩ cs (fun j u hj => by rw [Addr.add_lit]; exact hF.cell (hc j u hj))
    rw [ha.eval]; simp [execOp, hx, Instr.loadAt, Instr.sureAddr, loadVar, run_isAgg_many hT, run_sizeOf_sz hm, this]⟩) k
theorem wh_skip (i : Nat) (ho : ops[i]? = some o) (hk : okTakeP ops rel listed i = true) (hd : dOk n o.dst = true) (hg : wantedF ops ρ o = false)
    (k : WH P n E ops rel held Q fuel (listed.setIfInBounds i true) (updo ρ o.dst undef) ro own) : WH P n E ops rel held Q (fuel + 1) listed ρ ro own :=
  take_auxP ho hk hd (fun a ha => .inr ⟨by rw [wanted_eq ha]; exact hg, rfl⟩) k
theorem wh_split {j d : Nat} {wnt b : Bool} (i : Nat) (ho : ops[i]? = some o) (hg : o.guard = some (j, wnt)) (hj : (ops[j]?).bind (·.dst) = some d) (hb : ρ d = .bool b)
    (ht : b = true → WH P n E ops rel held Q fuel listed (upd ρ d (.bool true)) ro own) (hf : b = false → WH P n E ops rel held Q fuel listed (upd ρ d (.bool false)) ro own) :
    WH P n E ops rel held Q fuel listed ρ ro own := by
  cases b with
  | true => have := ht rfl; rwa [upd_self hb] at this
  | false => have := hf rfl; rwa [upd_self hb] at this
/-- The one that may come up, carried out; what is held is shown anew. -/
theorem wh_do (i : Nat) (hr : Region.ready .any ops listed = [i]) (hi : rel.contains i = false) (ho : ops[i]? = some o) (hd : dOk n o.dst = true) (hg : wantedF ops ρ o = true)
    (h : OpW P n E o (fun v ro' own' => RoOk held ro' own' ∧ WH P n E ops rel held Q fuel (listed.setIfInBounds i true) (updo ρ o.dst v) ro' own') ρ ro own) : WH P n E ops rel held Q (fuel + 1) listed ρ ro own := fun a w ha hw hF => by
  refine ⟨fun h0 => (by rw [hr] at h0; cases h0), fun j hj => ?_⟩
  rw [hr, List.mem_singleton] at hj
  subst hj
  refine wpOp_step ho fun K hK => ?_
  rw [wanted_eq ha, hg, if_pos rfl]
  refine Oper.wp_of_false (fun a' w' ⟨v, ro', own', h1, h2, h3, h4⟩ => hK _ _ ?_) (h a w ha hw)
  rw [if_neg (by simpa using hi)]
  have hF' := Held.of h2 h3
  subst h1
  exact ⟨hF', h4 _ _ (ha.puto hd v) h2 hF'⟩
/-- One behind which nothing is held any more. -/
theorem wh_rel (i : Nat) (hr : Region.ready .any ops listed = [i]) (hi : rel.contains i = true) (ho : ops[i]? = some o) (hd : dOk n o.dst = true) (hg : wantedF ops ρ o = true)
    (h : OpW P n E o (fun v ro' own' => WZ P n E ops Q fuel (listed.setIfInBounds i true) (updo ρ o.dst v) ro' own') ρ ro own) : WH P n E ops rel held Q (fuel + 1) listed ρ ro own := fun a w ha hw hF => by
  refine ⟨fun h0 => (by rw [hr] at h0; cases h0), fun j hj => ?_⟩
  rw [hr, List.mem_singleton] at hj
  subst hj
  refine wpOp_step ho fun K hK => ?_
  rw [wanted_eq ha, hg, if_pos rfl]
  refine Oper.wp_of_false (fun a' w' ⟨v, ro', own', h1, h2, h3⟩ => hK _ _ ?_) (h a w ha hw)
  rw [if_pos (by simpa using hi)]
  subst h1
  exact h3 _ _ (ha.puto hd v) h2
/-- Two that may come up: each one first. -/
theorem wh_two {j : Nat} {o' : Oper} (i : Nat) (hr : Region.ready .any ops listed = [i, j]) (hi : rel.contains i = false) (hj : rel.contains j = false) (ho : ops[i]? = some o) (ho' : ops[j]? = some o') (hd : dOk n o.dst = true) (hd' : dOk n o'.dst = true)
    (hg : wantedF ops ρ o = true) (hg' : wantedF ops ρ o' = true)
    (h : OpW P n E o (fun v ro' own' => RoOk held ro' own' ∧ WH P n E ops rel held Q fuel (listed.setIfInBounds i true) (updo ρ o.dst v) ro' own') ρ ro own)
    (h' : OpW P n E o' (fun v ro' own' => RoOk held ro' own' ∧ WH P n E ops rel held Q fuel (listed.setIfInBounds j true) (updo ρ o'.dst v) ro' own') ρ ro own) : WH P n E ops rel held Q (fuel + 1) listed ρ ro own := fun a w ha hw hF => by
  refine ⟨fun h0 => (by rw [hr] at h0; cases h0), fun q hq => ?_⟩
  rw [hr] at hq
  simp only [List.mem_cons, List.not_mem_nil, or_false] at hq
  rcases hq with rfl | rfl
  · refine wpOp_step ho fun K hK => ?_
    rw [wanted_eq ha, hg, if_pos rfl]
    refine Oper.wp_of_false (fun a' w' ⟨v, ro', own', h1, h2, h3, h4⟩ => hK _ _ ?_) (h a w ha hw)
    rw [if_neg (by simpa using hi)]
    have hF' := Held.of h2 h3
    subst h1
    exact ⟨hF', h4 _ _ (ha.puto hd v) h2 hF'⟩
  · refine wpOp_step ho' fun K hK => ?_
    rw [wanted_eq ha, hg', if_pos rfl]
    refine Oper.wp_of_false (fun a' w' ⟨v, ro', own', h1, h2, h3, h4⟩ => hK _ _ ?_) (h' a w ha hw)
    rw [if_neg (by simpa using hj)]
    have hF' := Held.of h2 h3
    subst h1
    exact ⟨hF', h4 _ _ (ha.puto hd' v) h2 hF'⟩
theorem wh_done (hr : Region.ready .any ops listed = []) (h : Q .normal ρ ro own) : WH P n E ops rel held Q fuel listed ρ ro own := fun a w ha hw hF => by
  have hq : lift n E (fun ex ρ ro own => ex = .normal ∧ Q .normal ρ ro own) .normal a w := ⟨ρ, ro, own, ha, hw, rfl, h⟩
  cases fuel with
  | zero => exact ⟨hr, hq⟩
  | succ fuel => exact ⟨fun _ => hq, fun j hj => by rw [hr] at hj; cases hj⟩
theorem wz_done (hr : Region.ready .any ops listed = []) (h : Q .normal ρ ro own) : WZ P n E ops Q fuel listed ρ ro own := fun a w ha hw => by
  have hq : lift n E (fun ex ρ ro own => ex = .normal ∧ Q .normal ρ ro own) .normal a w := ⟨ρ, ro, own, ha, hw, rfl, h⟩
  cases fuel with
  | zero => exact ⟨hr, hq⟩
  | succ fuel => exact ⟨fun _ => hq, fun j hj => by rw [hr] at hj; cases hj⟩
theorem wh_erase (i : Nat) (h : WH P n E ops rel held Q fuel listed ρ ro (own.eraseIdx i)) : WH P n E ops rel held Q fuel listed ρ ro own := fun a w ha hw hF => h a w ha (hw.erase i) hF
end
end Go.Vc
