/- The frame of a walk as a function, the heap as a list of blocks: rules for straight code, branches, loops, calls. Over any program. -/
import Derived.OrdersHeld
import Derived.Below
import Derived.WalkKit
namespace Go.Vc
open Go
set_option linter.unusedVariables false
set_option linter.unusedSimpArgs false

abbrev Fr := Nat → Value
def upd (ρ : Fr) (d : Nat) (v : Value) : Fr := fun i => bif Nat.beq i d then v else ρ i
theorem upd_same (ρ : Fr) (d : Nat) (v : Value) : upd ρ d v d = v := by
  have : Nat.beq d d = true := Nat.beq_refl d
  show (bif Nat.beq d d then v else ρ d) = v; rw [this]; rfl
theorem upd_ne (ρ : Fr) {d i : Nat} (v : Value) (h : i ≠ d) : upd ρ d v i = ρ i := by
  show (bif Nat.beq i d then v else ρ i) = ρ i
  cases hb : Nat.beq i d
  · rfl
  · exact absurd (Nat.eq_of_beq_eq_true hb) h
theorem upd_self {ρ : Fr} {d : Nat} {v : Value} (h : ρ d = v) : upd ρ d v = ρ := by
  funext i; unfold upd; cases hb : Nat.beq i d
  · rfl
  · have := Nat.eq_of_beq_eq_true hb; subst this; exact h.symm
def updo (ρ : Fr) (d : Option Nat) (v : Value) : Fr := match d with | some d => upd ρ d v | none => ρ
def ev (ρ : Fr) : Operand → Value
  | .tmp t => ρ t
  | .const v => v
  | .global g => .pointer (some ⟨g, 0, none⟩)
  | .func f => .func (.func f) #[] #[]
/-- What is known of a frame's slots. -/
def Kn : List (Nat × Value) → Fr → Prop
  | [], _ => True
  | (s, v) :: l, ρ => ρ s = v ∧ Kn l ρ
def upds (ρ : Fr) : List (Nat × Value) → Fr
  | [] => ρ
  | (s, v) :: l => upd (upds ρ l) s v
theorem upds_of {l : List (Nat × Value)} {ρ : Fr} (h : Kn l ρ) : upds ρ l = ρ := by
  induction l with
  | nil => rfl
  | cons x l ih => obtain ⟨s, v⟩ := x; rw [upds, ih h.2]; exact upd_self h.1
theorem Kn.ex {l : List (Nat × Value)} {ρ : Fr} (h : Kn l ρ) : ∃ ρ', ρ = upds ρ' l := ⟨ρ, (upds_of h).symm⟩

structure Rep (n : Nat) (ρ : Fr) (a : Act) : Prop where
  defers : a.defers = []
  size : a.tmps.size = n
  get : ∀ i, a.tmps.getD i undef = ρ i
section
variable {n : Nat} {ρ : Fr} {a : Act}
theorem Rep.eval (h : Rep n ρ a) : a.eval = ev ρ := by
  funext x; cases x <;> simp only [Act.eval, ev]; exact h.get _
theorem Rep.put (h : Rep n ρ a) {d : Nat} (hd : d < n) (v : Value) : Rep n (upd ρ d v) (a.put (some d) v) := by
  refine ⟨h.defers, by simp [Act.put, h.size], fun i => ?_⟩
  have hi := h.get i
  simp only [Act.put, Array.getD_eq_getD_getElem?, Array.getElem?_setIfInBounds] at hi ⊢
  by_cases e : d = i
  · subst e; simp [h.size, hd, upd]
  · rw [upd_ne _ _ (Ne.symm e)]; simpa [e] using hi
def dOk (n : Nat) : Option Nat → Bool
  | some d => Nat.blt d n
  | none => true
theorem Rep.puto (h : Rep n ρ a) {d : Option Nat} (hd : dOk n d = true) (v : Value) : Rep n (updo ρ d v) (a.put d v) := by
  cases d with
  | none => exact h
  | some d => exact h.put (by simpa [dOk, Nat.blt_eq] using hd) v
end

abbrev Blks := List (Nat × Obj)
abbrev RO := List (Nat × (Obj → Prop))
def keysOf (own : List Blks) : List Nat := own.flatten.map (·.1)
structure Env where
  w0 : World
  keys : List Nat
structure Wd (E : Env) (ro : RO) (own : List Blks) (w : World) : Prop where
  tape : w.tape = E.w0.tape
  os : w.os = E.w0.os
  output : w.output = E.w0.output
  nodup : (keysOf own).Nodup
  has : ∀ x ∈ own.flatten, w.heap[x.1]? = some x.2
  hasRo : ∀ x ∈ ro, ∃ o, w.heap[x.1]? = some o ∧ x.2 o
  apart : ∀ x ∈ ro, x.1 ∉ keysOf own
  size : E.w0.heap.size ≤ w.heap.size
  frame : ∀ b, b < E.w0.heap.size → b ∉ E.keys → w.heap[b]? = E.w0.heap[b]?
  old : ∀ b ∈ keysOf own, b < E.w0.heap.size → b ∈ E.keys
section
variable {E : Env} {ro : RO} {own : List Blks} {w w' : World}
theorem Wd.heap (h : Wd E ro own w) (hh : w'.heap = w.heap) (ht : w'.tape = w.tape) (ho : w'.os = w.os) (hu : w'.output = w.output) : Wd E ro own w' :=
  ⟨ht.trans h.tape, ho.trans h.os, hu.trans h.output, h.nodup, by rw [hh]; exact h.has, by rw [hh]; exact h.hasRo, h.apart, by rw [hh]; exact h.size, by rw [hh]; exact h.frame, h.old⟩
theorem Wd.drawn (h : Wd E ro own w) (k : Nat) : Wd E ro own { w with drawn := k } := h.heap rfl rfl rfl rfl
theorem Wd.lt (h : Wd E ro own w) {b : Nat} (hb : b ∈ keysOf own) : b < w.heap.size := by
  obtain ⟨x, hx, rfl⟩ := List.mem_map.1 hb
  have := h.has x hx
  exact Array.getElem?_eq_some_iff.1 this |>.1
end

/-- The contract of a function: from a heap that holds 'own' (its own to write) and 'ro'. -/
def C (P : Program) (f : FuncId) (args : Array Value) (ro : RO) (own : List Blks) (R : Value → List Blks → Prop) : Prop :=
  ∀ w, Wd ⟨w, keysOf own⟩ ro own w → Calls P f args w fun e w' => ∃ v ro' own', e = .returned v ∧ Wd ⟨w, keysOf own⟩ ro' own' w' ∧ R v own'
theorem C.mono {P : Program} {f : FuncId} {args : Array Value} {ro : RO} {own : List Blks} {R R' : Value → List Blks → Prop} (h : C P f args ro own R)
    (hr : ∀ v o, R v o → R' v o) : C P f args ro own R' := fun w hw => (h w hw).mono fun e w' ⟨v, ro', own', h1, h2, h3⟩ => ⟨v, ro', own', h1, h2, hr _ _ h3⟩

abbrev Post := Exit → Fr → RO → List Blks → Prop
def lift (n : Nat) (E : Env) (Q : Post) : Exit → Act → World → Prop :=
  fun ex a w => ∃ ρ ro own, Rep n ρ a ∧ Wd E ro own w ∧ Q ex ρ ro own
def W (P : Program) (n : Nat) (E : Env) (c : Code) (Q : Post) (ρ : Fr) (ro : RO) (own : List Blks) : Prop :=
  ∀ a w, Rep n ρ a → Wd E ro own w → c.wp P (lift n E Q) a w
section
variable {P : Program} {n : Nat} {E : Env} {Q : Post} {ρ : Fr} {ro : RO} {own : List Blks}
theorem lift_mono {Q' : Exit → Act → World → Prop} {Q₁ : Post} (h : ∀ ex a w ρ ro own, Rep n ρ a → Wd E ro own w → Q₁ ex ρ ro own → Q' ex a w) :
    ∀ ex a w, lift n E Q₁ ex a w → Q' ex a w := fun ex a w ⟨ρ, ro, own, h1, h2, h3⟩ => h ex a w ρ ro own h1 h2 h3
theorem W.mono {c : Code} {Q' : Post} (h : W P n E c Q ρ ro own) (hq : ∀ ex ρ ro own, Q ex ρ ro own → Q' ex ρ ro own) : W P n E c Q' ρ ro own :=
  fun a w ha hw => wp_mono (h a w ha hw) (lift_mono fun ex a w ρ ro own h1 h2 h3 => ⟨ρ, ro, own, h1, h2, hq _ _ _ _ h3⟩)
theorem w_skip (h : Q .normal ρ ro own) : W P n E .skip Q ρ ro own := fun a w ha hw => wp_skip ⟨ρ, ro, own, ha, hw, h⟩
theorem w_label {l : Nat} (h : Q .normal ρ ro own) : W P n E (.label l) Q ρ ro own := fun a w ha hw => wp_label ⟨ρ, ro, own, ha, hw, h⟩
theorem w_exit {id : Nat} (h : Q (.exit id) ρ ro own) : W P n E (.exit id) Q ρ ro own := fun a w ha hw => wp_exit ⟨ρ, ro, own, ha, hw, h⟩
theorem w_ret (h : Q .ret ρ ro own) : W P n E .ret Q ρ ro own := fun a w ha hw => wp_ret ⟨ρ, ro, own, ha, hw, h⟩
def thenP (N : Fr → RO → List Blks → Prop) (Q : Post) : Post
  | .normal, ρ, ro, own => N ρ ro own
  | e, ρ, ro, own => Q e ρ ro own
theorem w_seq {x y : Code} (h : W P n E x (thenP (W P n E y Q) Q) ρ ro own) : W P n E (.seq x y) Q ρ ro own := fun a w ha hw =>
  wp_seq (wp_mono (h a w ha hw) (lift_mono fun ex a w ρ ro own h1 h2 h3 => by
    cases ex <;> first | exact h3 a w h1 h2 | exact ⟨ρ, ro, own, h1, h2, h3⟩))
/-- A cut: what is asked behind the first part is said. -/
theorem w_cut {x y : Code} (M : Fr → RO → List Blks → Prop) (h : W P n E x (thenP M Q) ρ ro own) (hy : ∀ ρ ro own, M ρ ro own → W P n E y Q ρ ro own) :
    W P n E (.seq x y) Q ρ ro own :=
  w_seq (h.mono fun ex ρ ro own h => by cases ex <;> first | exact hy _ _ _ h | exact h)
theorem w_cond {c : Operand} {x y : Code} {b : Bool} (hc : ev ρ c = .bool b) (ht : b = true → W P n E x Q ρ ro own) (hf : b = false → W P n E y Q ρ ro own) :
    W P n E (.cond c x y) Q ρ ro own := fun a w ha hw =>
  wp_cond_split (by rw [ha.eval]; exact hc) (fun h => ht h a w ha hw) (fun h => hf h a w ha hw)
theorem w_cond_true {c : Operand} {x y : Code} (hc : ev ρ c = .bool true) (ht : W P n E x Q ρ ro own) : W P n E (.cond c x y) Q ρ ro own :=
  w_cond hc (fun _ => ht) (fun h => by cases h)
theorem w_cond_false {c : Operand} {x y : Code} (hc : ev ρ c = .bool false) (ht : W P n E y Q ρ ro own) : W P n E (.cond c x y) Q ρ ro own :=
  w_cond hc (fun h => by cases h) (fun _ => ht)
theorem w_cond_dec {c : Operand} {x y : Code} {p : Prop} [Decidable p] (hc : ev ρ c = .bool (decide p)) (ht : p → W P n E x Q ρ ro own) (hf : ¬ p → W P n E y Q ρ ro own) :
    W P n E (.cond c x y) Q ρ ro own := w_cond hc (fun h => ht (of_decide_eq_true h)) (fun h => hf (of_decide_eq_false h))
theorem w_cond_ndec {c : Operand} {x y : Code} {p : Prop} [Decidable p] (hc : ev ρ c = .bool (!decide p)) (ht : ¬ p → W P n E x Q ρ ro own) (hf : p → W P n E y Q ρ ro own) :
    W P n E (.cond c x y) Q ρ ro own := w_cond hc (fun h => ht (by simpa using h)) (fun h => hf (by simpa using h))
theorem w_cond_not {c : Operand} {x y : Code} {b : Bool} (hc : ev ρ c = .bool (!b)) (ht : b = false → W P n E x Q ρ ro own) (hf : b = true → W P n E y Q ρ ro own) :
    W P n E (.cond c x y) Q ρ ro own := w_cond hc (fun h => ht (by simpa using h)) (fun h => hf (by simpa using h))
def blockP (id : Nat) (Q : Post) : Post
  | .exit id', ρ, ro, own => bif Nat.beq id' id then Q .normal ρ ro own else Q (.exit id') ρ ro own
  | e, ρ, ro, own => Q e ρ ro own
theorem w_block {id : Nat} {c : Code} (h : W P n E c (blockP id Q) ρ ro own) : W P n E (.block id c) Q ρ ro own := fun a w ha hw =>
  wp_block (wp_mono (h a w ha hw) (lift_mono fun ex a w ρ ro own h1 h2 h3 => by
    cases ex with
    | exit id' =>
      simp only [Exit.inBlock, blockP] at *
      cases hb : Nat.beq id' id
      · have : id' ≠ id := fun e => by subst e; simp at hb
        rw [if_neg this]; rw [hb] at h3; exact ⟨ρ, ro, own, h1, h2, h3⟩
      · have := Nat.eq_of_beq_eq_true hb
        rw [if_pos this]; rw [hb] at h3; exact ⟨ρ, ro, own, h1, h2, h3⟩
    | _ => exact ⟨ρ, ro, own, h1, h2, h3⟩))
theorem w_loop {ι : Type} {c : Code} (I : ι → Fr → RO → List Blks → Prop) (μ : ι → Nat) (i₀ : ι) (h₀ : I i₀ ρ ro own)
    (round : ∀ i ρ ro own, I i ρ ro own → W P n E c (thenP (fun ρ ro own => ∃ j, I j ρ ro own ∧ μ j < μ i) Q) ρ ro own) : W P n E (.loop c) Q ρ ro own := by
  intro a w ha hw b ks cs
  have key : ∀ k i ρ ro own a w, μ i = k → I i ρ ro own → Rep n ρ a → Wd E ro own w →
      ∃ e a' w', lift n E Q e a' w' ∧ Arrives P (lone (b.at a (.code c :: .inLoop c :: ks)) cs w) b ks cs e a' w' := by
    intro k
    induction k using Nat.strongRecOn with
    | _ k ih =>
      intro i ρ ro own a w hk hI ha hw
      obtain ⟨e, a₁, w₁, ⟨ρ', ro', own', r1, r2, r3⟩, harr⟩ := round i ρ ro own hI a w ha hw b (.inLoop c :: ks) cs
      cases e with
      | normal =>
        obtain ⟨j, hj, hlt⟩ := r3
        obtain ⟨e₂, a₂, w₂, hq₂, harr₂⟩ := ih (μ j) (hk ▸ hlt) j ρ' ro' own' a₁ w₁ rfl hj r1 r2
        exact ⟨e₂, a₂, w₂, hq₂, .of_steps (Steps.trans harr (.one step_inLoop)) harr₂⟩
      | exit id => exact ⟨_, a₁, w₁, ⟨ρ', ro', own', r1, r2, r3⟩, .pass (x := .inLoop c) rfl (fun _ _ => .inl (by simp)) harr⟩
      | goto l => exact ⟨_, a₁, w₁, ⟨ρ', ro', own', r1, r2, r3⟩, .pass (x := .inLoop c) rfl (fun _ _ => .inl (by simp)) harr⟩
      | ret => exact ⟨_, a₁, w₁, ⟨ρ', ro', own', r1, r2, r3⟩, .pass (x := .inLoop c) rfl (fun _ _ => .inl (by simp)) harr⟩
      | panic ch => exact ⟨_, a₁, w₁, ⟨ρ', ro', own', r1, r2, r3⟩, .pass (x := .inLoop c) rfl (fun _ _ => .inl (by simp)) harr⟩
      | outgrown => exact ⟨_, a₁, w₁, ⟨ρ', ro', own', r1, r2, r3⟩, .pass (x := .inLoop c) rfl (fun _ _ => .inl (by simp)) harr⟩
  obtain ⟨e, a', w', hq, harr⟩ := key _ _ _ _ _ a w rfl h₀ ha hw
  exact ⟨e, a', w', hq, .of_steps (.one step_loop) harr⟩
end
end Go.Vc
