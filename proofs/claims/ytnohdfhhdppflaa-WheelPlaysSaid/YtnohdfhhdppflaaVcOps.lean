/- Regions: a list of operations under the frame as a function; an operation that only computes. Over any program. -/
import Derived.Test.YtnohdfhhdppflaaVcBase
namespace Go.Vc
open Go
set_option linter.unusedVariables false
set_option linter.unusedSimpArgs false

/-- An operation that is carried out: what it yields, and the heap behind it. -/
def OpW (P : Program) (n : Nat) (E : Env) (o : Oper) (K : Value → RO → List Blks → Prop) (ρ : Fr) (ro : RO) (own : List Blks) : Prop :=
  ∀ a w, Rep n ρ a → Wd E ro own w → o.wp P a w (fun a' w' => ∃ v ro' own', a' = a.put o.dst v ∧ Wd E ro' own' w' ∧ K v ro' own') (fun _ _ _ => False)
def WL (P : Program) (n : Nat) (E : Env) (all : Array Oper) (l : List Oper) (Q : Post) (ρ : Fr) (ro : RO) (own : List Blks) : Prop :=
  ∀ a w, Rep n ρ a → Wd E ro own w → wpList P all (lift n E Q) l a w
def yieldF (all : Array Oper) (ρ : Fr) (j : Nat) : Option Bool :=
  match ((all[j]?).bind (·.dst)).map ρ with
  | some (.bool b) => some b
  | _ => none
def wantedF (all : Array Oper) (ρ : Fr) (o : Oper) : Bool := Region.wanted o (yieldF all ρ)

theorem Oper.wp_of_false {P : Program} {o : Oper} {a : Act} {w : World} {K K' : Act → World → Prop} {Q : Exit → Act → World → Prop}
    (h : ∀ a w, K a w → K' a w) (hh : o.wp P a w K (fun _ _ _ => False)) : o.wp P a w K' Q := by
  unfold Oper.wp at *
  generalize (execOp a.eval o).run P w = r at *
  cases r with
  | ok m w' =>
    cases m <;> simp only [Oper.upon] at hh ⊢ <;>
      first
        | exact h _ _ hh
        | exact Calls.mono hh (fun e w'' he => by cases e <;> first | exact h _ _ he | exact he.elim | (obtain ⟨_, _, hf⟩ := he; exact hf.elim))
        | exact Rows.mono hh (fun _ _ he => h _ _ he)
  | halt x w' => cases x <;> simp only [Oper.upon] at hh

section
variable {P : Program} {n : Nat} {E : Env} {Q : Post} {ρ : Fr} {ro : RO} {own : List Blks} {all : Array Oper} {o : Oper} {rest : List Oper}
theorem yield_eq {a : Act} (ha : Rep n ρ a) (j : Nat) : yielded all a.tmps j = yieldF all ρ j := by
  unfold yielded yieldF
  cases hd : (all[j]?).bind (·.dst) with
  | none => rfl
  | some d =>
    have hg := ha.get d
    simp only [Option.bind_some, Option.map_some]
    rw [Array.getD_eq_getD_getElem?] at hg
    cases ht : a.tmps[d]? with
    | none => rw [ht] at hg; simp only [Option.getD_none] at hg; rw [← hg]; rfl
    | some v => rw [ht] at hg; simp only [Option.getD_some] at hg; rw [hg]; generalize ρ d = u; cases u <;> rfl
theorem wanted_eq {a : Act} (ha : Rep n ρ a) : Region.wanted o (yielded all a.tmps) = wantedF all ρ o := by
  unfold wantedF Region.wanted
  cases o.guard with
  | none => rfl
  | some g => obtain ⟨j, b⟩ := g; simp only [yield_eq ha j]
theorem w_region {id : Nat} {l : List Oper} (h : WL P n E l.toArray l Q ρ ro own) : W P n E (.region id l.toArray false) Q ρ ro own :=
  fun a w ha hw => wp_region_lit (h a w ha hw)
theorem wl_nil (h : Q .normal ρ ro own) : WL P n E all [] Q ρ ro own := fun a w ha hw => wpList_nil ⟨ρ, ro, own, ha, hw, h⟩
theorem wl_cons (hd : dOk n o.dst = true) (hg : wantedF all ρ o = true) (h : OpW P n E o (fun v ro' own' => WL P n E all rest Q (updo ρ o.dst v) ro' own') ρ ro own) :
    WL P n E all (o :: rest) Q ρ ro own := fun a w ha hw => by
  refine wpList_step fun K hK => ?_
  rw [wanted_eq ha, hg, if_pos rfl]
  exact Oper.wp_of_false (fun a' w' ⟨v, ro', own', h1, h2, h3⟩ => hK _ _ (h1 ▸ h3 _ _ (ha.puto hd v) h2)) (h a w ha hw)
theorem wl_skip (hd : dOk n o.dst = true) (hg : wantedF all ρ o = false) (h : WL P n E all rest Q (updo ρ o.dst undef) ro own) :
    WL P n E all (o :: rest) Q ρ ro own := fun a w ha hw => by
  refine wpList_step fun K hK => ?_
  rw [wanted_eq ha, hg]
  exact hK _ _ (h _ _ (ha.puto hd _) hw)
theorem wl_split {j d : Nat} {wnt b : Bool} (hg : o.guard = some (j, wnt)) (hj : (all[j]?).bind (·.dst) = some d) (hb : ρ d = .bool b)
    (ht : b = true → WL P n E all (o :: rest) Q (upd ρ d (.bool true)) ro own) (hf : b = false → WL P n E all (o :: rest) Q (upd ρ d (.bool false)) ro own) :
    WL P n E all (o :: rest) Q ρ ro own := by
  cases b with
  | true => have := ht rfl; rwa [upd_self hb] at this
  | false => have := hf rfl; rwa [upd_self hb] at this
theorem wl_split_dec {j d : Nat} {wnt : Bool} {p : Prop} [Decidable p] (hg : o.guard = some (j, wnt)) (hj : (all[j]?).bind (·.dst) = some d) (hb : ρ d = .bool (decide p))
    (ht : p → WL P n E all (o :: rest) Q (upd ρ d (.bool true)) ro own) (hf : ¬ p → WL P n E all (o :: rest) Q (upd ρ d (.bool false)) ro own) :
    WL P n E all (o :: rest) Q ρ ro own := wl_split hg hj hb (fun h => ht (of_decide_eq_true h)) (fun h => hf (of_decide_eq_false h))

/-- What an operation that only computes yields. -/
def PV (P : Program) (op : Op) (ρ : Fr) (v : Value) : Prop :=
  ∀ d t p af g w, (execOp (ev ρ) ⟨d, op, t, p, af, g⟩).run P w = .ok (.value v) w
theorem OpW.pure {v : Value} {d : Option Tmp} {op : Op} {t : TypeId} {p : String} {af : Array Edge} {g : Option (Nat × Bool)} {K : Value → RO → List Blks → Prop}
    (h : PV P op ρ v) (k : K v ro own) : OpW P n E ⟨d, op, t, p, af, g⟩ K ρ ro own := fun a w ha hw => by
  unfold Oper.wp
  rw [ha.eval, h]
  exact ⟨v, ro, own, rfl, hw, k⟩
theorem wl_pure {v : Value} {d : Nat} {op : Op} {t : TypeId} {p : String} {af : Array Edge} {g : Option (Nat × Bool)}
    (hd : Nat.blt d n = true) (hg : wantedF all ρ ⟨some d, op, t, p, af, g⟩ = true) (h : PV P op ρ v) (k : WL P n E all rest Q (upd ρ d v) ro own) :
    WL P n E all (⟨some d, op, t, p, af, g⟩ :: rest) Q ρ ro own := wl_cons hd hg (OpW.pure h k)
end

section
variable {P : Program} {n : Nat} {E : Env} {Q : Post} {ρ : Fr} {ro : RO} {own : List Blks} {all : Array Oper} {rest : List Oper}
theorem wl_do {d : Nat} {op : Op} {t : TypeId} {p : String} {af : Array Edge} {g : Option (Nat × Bool)} (hd : Nat.blt d n = true) (hg : wantedF all ρ ⟨some d, op, t, p, af, g⟩ = true)
    (h : OpW P n E ⟨some d, op, t, p, af, g⟩ (fun v ro' own' => WL P n E all rest Q (upd ρ d v) ro' own') ρ ro own) : WL P n E all (⟨some d, op, t, p, af, g⟩ :: rest) Q ρ ro own := wl_cons hd hg h
theorem wl_no {op : Op} {t : TypeId} {p : String} {af : Array Edge} {g : Option (Nat × Bool)} (hg : wantedF all ρ ⟨none, op, t, p, af, g⟩ = true)
    (h : OpW P n E ⟨none, op, t, p, af, g⟩ (fun v ro' own' => WL P n E all rest Q ρ ro' own') ρ ro own) : WL P n E all (⟨none, op, t, p, af, g⟩ :: rest) Q ρ ro own := wl_cons rfl hg h
theorem wl_skipd {d : Nat} {op : Op} {t : TypeId} {p : String} {af : Array Edge} {g : Option (Nat × Bool)} (hd : Nat.blt d n = true) (hg : wantedF all ρ ⟨some d, op, t, p, af, g⟩ = false)
    (h : WL P n E all rest Q (upd ρ d undef) ro own) : WL P n E all (⟨some d, op, t, p, af, g⟩ :: rest) Q ρ ro own := wl_skip hd hg h
end
/-! ### Values -/
def v8 (x : BitVec 8) : Value := .int .u8 x.toNat
def v32 (x : BitVec 32) : Value := .int .u32 x.toNat
def v64 (x : BitVec 64) : Value := .int .u64 x.toNat
/-- The operand is a literal: 'hx' by 'rfl'. -/
theorem v8_lit {x : Value} (k : Nat) (h : x = .int .u8 k) (hk : k < 256) : x = v8 (BitVec.ofNat 8 k) := by subst h; simp [v8, Nat.mod_eq_of_lt hk]
theorem v32_lit {x : Value} (k : Nat) (h : x = .int .u32 k) (hk : k < 4294967296) : x = v32 (BitVec.ofNat 32 k) := by subst h; simp [v32, Nat.mod_eq_of_lt hk]
theorem v64_lit {x : Value} (k : Nat) (h : x = .int .u64 k) (hk : k < 18446744073709551616) : x = v64 (BitVec.ofNat 64 k) := by subst h; simp [v64, Nat.mod_eq_of_lt hk]

section
variable {P : Program} {ρ : Fr} {x y z c : Operand} {T T' : TypeId}
theorem pv_move : PV P (.move x) ρ (ev ρ x) := fun _ _ _ _ _ _ => rfl
theorem pv_assign : PV P (.assign x) ρ (ev ρ x) := fun _ _ _ _ _ _ => rfl
theorem pv_pick_t (hc : ev ρ c = .bool true) : PV P (.pick c x y) ρ (ev ρ x) := fun _ _ _ _ _ w => by simp [execOp, hc, asBool]
theorem pv_pick_f (hc : ev ρ c = .bool false) : PV P (.pick c x y) ρ (ev ρ y) := fun _ _ _ _ _ w => by simp [execOp, hc, asBool]
theorem pv_pick {b : Bool} (hc : ev ρ c = .bool b) : PV P (.pick c x y) ρ (if b then ev ρ x else ev ρ y) := fun _ _ _ _ _ w => by simp [execOp, hc, asBool]
theorem pv_nilCheck {a : Addr} (hx : ev ρ x = .pointer (some a)) : PV P (.nilCheck x) ρ (.pointer (some a)) := fun _ _ _ _ _ w => by simp [execOp, hx]
theorem pv_extract {vs : Array Value} {i : Nat} {v : Value} (hx : ev ρ x = .tuple vs) (hv : vs[i]? = some v) : PV P (.extract x i) ρ v := fun _ _ _ _ _ w => by
  simp [execOp, hx, Instr.extract, hv]
theorem pv_makeFunc {f : Fn} : PV P (.makeFunc f #[] #[]) ρ (.func f #[] #[]) := fun _ _ _ _ _ w => by
  simp [execOp, Instr.makeFunc]
/-- Integers, as they come. -/
theorem pv_bin {op : BinOp} {k : IntKind} {a b : Int} {v : Value} (hx : ev ρ x = .int k a) (hy : ev ρ y = .int k b)
    (h : ∀ w, (binOp op T (.int k a) (.int k b)).run P w = .ok v w) : PV P (.binOp op T x y T') ρ v := fun _ _ _ _ _ w => by
  have hguard : (eqGuard op T x y (.int k a) (.int k b)).run P w = .ok () w := by
    unfold eqGuard; cases op <;> simp
  simp [execOp, hx, hy, hguard, h]
theorem pv_add {k : IntKind} {a b : Int} (hx : ev ρ x = .int k a) (hy : ev ρ y = .int k b) : PV P (.binOp .add T x y T') ρ (.int k (k.wrap (a + b))) :=
  pv_bin hx hy fun w => by simp [binOp, Op.intArith]
theorem pv_sub {k : IntKind} {a b : Int} (hx : ev ρ x = .int k a) (hy : ev ρ y = .int k b) : PV P (.binOp .sub T x y T') ρ (.int k (k.wrap (a - b))) :=
  pv_bin hx hy fun w => by simp [binOp, Op.intArith]
theorem pv_mul {k : IntKind} {a b : Int} (hx : ev ρ x = .int k a) (hy : ev ρ y = .int k b) : PV P (.binOp .mul T x y T') ρ (.int k (k.wrap (a * b))) :=
  pv_bin hx hy fun w => by simp [binOp, Op.intArith]
theorem pv_quo {k : IntKind} {a b : Int} (hx : ev ρ x = .int k a) (hy : ev ρ y = .int k b) (h : b ≠ 0) : PV P (.binOp .quo T x y T') ρ (.int k (k.wrap (a.tdiv b))) :=
  pv_bin hx hy fun w => by simp [binOp, Op.intDiv, h]
theorem pv_rem {k : IntKind} {a b : Int} (hx : ev ρ x = .int k a) (hy : ev ρ y = .int k b) (h : b ≠ 0) : PV P (.binOp .rem T x y T') ρ (.int k (a.tmod b)) :=
  pv_bin hx hy fun w => by simp [binOp, Op.intDiv, h]
theorem pv_eql {k : IntKind} {a b : Int} (hx : ev ρ x = .int k a) (hy : ev ρ y = .int k b) : PV P (.binOp .eql T x y T') ρ (.bool (decide (a = b))) :=
  pv_bin hx hy fun w => by simp [binOp, Op.intCmp]; rfl
theorem pv_neq {k : IntKind} {a b : Int} (hx : ev ρ x = .int k a) (hy : ev ρ y = .int k b) : PV P (.binOp .neq T x y T') ρ (.bool (decide (a ≠ b))) :=
  pv_bin hx hy fun w => by
    simp only [binOp, Op.intCmp, ne_eq]; simp [bne]; rfl
theorem pv_lss {k : IntKind} {a b : Int} (hx : ev ρ x = .int k a) (hy : ev ρ y = .int k b) : PV P (.binOp .lss T x y T') ρ (.bool (decide (a < b))) :=
  pv_bin hx hy fun w => by simp [binOp, Op.intCmp]
theorem pv_leq {k : IntKind} {a b : Int} (hx : ev ρ x = .int k a) (hy : ev ρ y = .int k b) : PV P (.binOp .leq T x y T') ρ (.bool (decide (a ≤ b))) :=
  pv_bin hx hy fun w => by simp [binOp, Op.intCmp]
theorem pv_gtr {k : IntKind} {a b : Int} (hx : ev ρ x = .int k a) (hy : ev ρ y = .int k b) : PV P (.binOp .gtr T x y T') ρ (.bool (decide (b < a))) :=
  pv_bin hx hy fun w => by simp [binOp, Op.intCmp]
theorem pv_geq {k : IntKind} {a b : Int} (hx : ev ρ x = .int k a) (hy : ev ρ y = .int k b) : PV P (.binOp .geq T x y T') ρ (.bool (decide (b ≤ a))) :=
  pv_bin hx hy fun w => by simp [binOp, Op.intCmp]
theorem pv_not {b : Bool} (hx : ev ρ x = .bool b) : PV P (.unOp .not T x) ρ (.bool (!b)) := fun _ _ _ _ _ w => by simp [execOp, hx, Op.unary]
theorem pv_not_t (hx : ev ρ x = .bool true) : PV P (.unOp .not T x) ρ (.bool false) := pv_not hx
theorem pv_not_f (hx : ev ρ x = .bool false) : PV P (.unOp .not T x) ρ (.bool true) := pv_not hx
theorem pv_neg {k : IntKind} {a : Int} (hx : ev ρ x = .int k a) : PV P (.unOp .neg T x) ρ (.int k (k.wrap (0 - a))) := fun _ _ _ _ _ w => by
  simp [execOp, hx, Op.unary, Op.intArith]
theorem pv_conv {k k' : IntKind} {a : Int} {d : TypeDesc} (hs : P.underlying T = some d) (hd : P.underlying T' = some (.int k')) (hx : ev ρ x = .int k a) : PV P (.convert T T' x) ρ (.int k' (k'.wrap a)) :=
  fun _ _ _ _ _ w => by simp [execOp, hx, convert, run_underlying hs, run_underlying hd, Conv.intToInt]

/-! ### int: no wrap -/
theorem wrap_i64 {a : Int} (h : -9223372036854775808 ≤ a) (h' : a ≤ 9223372036854775807) : IntKind.i64.wrap a = a := by
  show (if (true && decide (a % 18446744073709551616 ≥ 9223372036854775808)) = true then a % 18446744073709551616 - 18446744073709551616 else a % 18446744073709551616) = a
  by_cases h0 : a % 18446744073709551616 ≥ 9223372036854775808
  · rw [if_pos (by simp [h0])]; omega
  · rw [if_neg (by simp [h0])]; omega
theorem pv_iadd {a b : Int} (hx : ev ρ x = .int .i64 a) (hy : ev ρ y = .int .i64 b) (h : -9223372036854775808 ≤ a + b ∧ a + b ≤ 9223372036854775807) : PV P (.binOp .add T x y T') ρ (.int .i64 (a + b)) := by
  have := pv_add (P := P) (T := T) (T' := T') hx hy; rwa [wrap_i64 h.1 h.2] at this
end
end Go.Vc
