/- The words at their widths; rows of one cell an element; ends of pieces. Over any program. -/
import Derived.Test.YtnohdfhhdppflaaVcDraw
namespace Go.Vc
open Go
set_option linter.unusedVariables false
set_option linter.unusedSimpArgs false
section
variable {P : Program} {n : Nat} {E : Env} {Q : Post} {ρ : Fr} {ro : RO} {own : List Blks} {M : Fr → RO → List Blks → Prop}
theorem thenP_n (h : M ρ ro own) : thenP M Q .normal ρ ro own := h
theorem thenP_x {id : Nat} (h : Q (.exit id) ρ ro own) : thenP M Q (.exit id) ρ ro own := h
theorem thenP_r (h : Q .ret ρ ro own) : thenP M Q .ret ρ ro own := h
theorem blockP_n {id : Nat} (h : Q .normal ρ ro own) : blockP id Q .normal ρ ro own := h
theorem blockP_r {id : Nat} (h : Q .ret ρ ro own) : blockP id Q .ret ρ ro own := h
theorem blockP_eq {id : Nat} (h : Q .normal ρ ro own) : blockP id Q (.exit id) ρ ro own := by
  show (bif Nat.beq id id then Q .normal ρ ro own else Q (.exit id) ρ ro own)
  rw [show Nat.beq id id = true from Nat.beq_refl id]; exact h
theorem blockP_ne {id id' : Nat} (hn : Nat.beq id' id = false) (h : Q (.exit id') ρ ro own) : blockP id Q (.exit id') ρ ro own := by
  show (bif Nat.beq id' id then Q .normal ρ ro own else Q (.exit id') ρ ro own)
  rw [hn]; exact h
theorem roOk_arr {α : Type} {f : α → Value} {T : TypeId} {b off : Nat} {xs data : List α} (i j : Nat) (h : (own[i]?).bind (·[j]?) = some (b, arr f T data)) (hx : ∀ k, k < xs.length → data[off + k]? = xs[k]?) : RoOk [(b, AtO f off xs)] ro own := by
  cases hg : own[i]? with
  | none => rw [hg] at h; cases h
  | some g => rw [hg] at h; exact roOk_one (mem_of_ij hg h) (AtO_arr hx)
/-- Less is spoken of, in other groups. -/
def Sub (own' own : List Blks) : Prop := ∃ l, (own'.flatten ++ l).Perm own.flatten
theorem Sub.refl {own : List Blks} : Sub own own := ⟨[], by simp⟩
theorem Sub.flat {own own' : List Blks} (h : own'.flatten = own.flatten) : Sub own' own := ⟨[], by simp [h]⟩
theorem Sub.pk {own : List Blks} (is : List Nat) : Sub (pk is own) own := ⟨(dr is own).flatten, pk_dr is own⟩
theorem Sub.pk' {own own' : List Blks} (is : List Nat) (h : own'.flatten = (Vc.pk is own).flatten) : Sub own' own := ⟨(dr is own).flatten, by rw [h]; exact pk_dr is own⟩
theorem Wd.sub {w : World} {own' : List Blks} (h : Wd E ro own w) (hs : Sub own' own) : Wd E ro own' w := by
  obtain ⟨l, hl⟩ := hs
  have : Wd E ro (own' ++ [l]) w := h.perm (by simpa using hl)
  exact this.drop (by simp)
theorem w_sub {own' : List Blks} {c : Code} (hs : Sub own' own) (h : W P n E c Q ρ ro own') : W P n E c Q ρ ro own := fun a w ha hw => h a w ha (Wd.sub hw hs)
theorem w_loop2 {ι : Type} {c : Code} (I : ι → Fr → RO → List Blks → Prop) (μ : ι → Nat) (i₀ : ι) (h₀ : I i₀ ρ ro own)
    (round : ∀ i ρ ro own, I i ρ ro own → W P n E c (thenP (fun ρ ro own => ∃ j own2, Sub own2 own ∧ I j ρ ro own2 ∧ μ j < μ i) Q) ρ ro own) : W P n E (.loop c) Q ρ ro own :=
  w_loop (fun i ρ ro own => ∃ own2, Sub own2 own ∧ I i ρ ro own2) μ i₀ ⟨own, Sub.refl, h₀⟩ fun i ρ ro own ⟨own2, hs, hI⟩ =>
    (w_sub hs (round i ρ ro own2 hI)).mono fun ex ρ ro own h => by
      cases ex with
      | normal => obtain ⟨j, own3, h1, h2, h3⟩ := h; exact ⟨j, ⟨own3, h1, h2⟩, h3⟩
      | _ => exact h
def retP2 (P : Program) (rs : List ResultVar) (R : Value → List Blks → Prop) : Post
  | .normal, ρ, ro, own => ∃ v own2, Res P rs ρ ro own v ∧ Sub own2 own ∧ R v own2
  | .ret, ρ, ro, own => ∃ v own2, Res P rs ρ ro own v ∧ Sub own2 own ∧ R v own2
  | _, _, _, _ => False
theorem c_of_w2 {f : FuncId} {fn : Func} {c : Code} {args : List Value} {rs : List ResultVar} {R : Value → List Blks → Prop} (hf : P.funcs[f]? = some fn) (hb : fn.body = some c) (hn : fn.ntmps = n) (hr : fn.results.toList = rs) (hl : Nat.ble args.length n = true)
    (h : ∀ E, W P n E c (retP2 P rs R) (ini args) ro own) : C P f args.toArray ro own R := by
  subst hn; subst hr
  have := c_of_w (R := fun v own => ∃ own2, Sub own2 own ∧ R v own2) hf hb hl (fun E => (h E).mono fun ex ρ ro own hq => by
    cases ex <;> first | exact hq | (obtain ⟨v, own2, h1, h2, h3⟩ := hq; exact ⟨v, h1, own2, h2, h3⟩))
  intro w hw
  exact (this w hw).mono fun e w' ⟨v, ro', own', h1, h2, own2, h3, h4⟩ => ⟨v, ro', own2, h1, Wd.sub h2 h3, h4⟩
theorem ret_n {rs : List ResultVar} {R : Value → List Blks → Prop} {v : Value} (hv : Res P rs ρ ro own v) (h : R v own) : retP2 P rs R .normal ρ ro own := ⟨v, own, hv, Sub.refl, h⟩
theorem ret_r {rs : List ResultVar} {R : Value → List Blks → Prop} {v : Value} (hv : Res P rs ρ ro own v) (h : R v own) : retP2 P rs R .ret ρ ro own := ⟨v, own, hv, Sub.refl, h⟩
theorem ret_s {rs : List ResultVar} {R : Value → List Blks → Prop} {v : Value} (own2 : List Blks) (hv : Res P rs ρ ro own v) (hs : Sub own2 own) (h : R v own2) : retP2 P rs R .ret ρ ro own := ⟨v, own2, hv, hs, h⟩
end
def structF (P : Program) (t : TypeId) : Array Field := match P.underlying t with | some (.struct fs) => fs | _ => #[]
section
variable {P : Program} {ρ : Fr} {x y z c : Operand} {T T' : TypeId} {b off len cap : Nat} {k : IntKind} {i : Int}
theorem pvm_move_b {b : Bool} (h : ev ρ x = .bool b) : PV P (.move x) ρ (.bool b) := h ▸ pv_move
theorem pvm_assign_b {b : Bool} (h : ev ρ x = .bool b) : PV P (.assign x) ρ (.bool b) := h ▸ pv_assign
theorem pvk_t_b {q : Operand} {b : Bool} (hq : ev ρ q = .bool true) (h : ev ρ x = .bool b) : PV P (.pick q x y) ρ (.bool b) := h ▸ pv_pick_t hq
theorem pvk_f_b {q : Operand} {b : Bool} (hq : ev ρ q = .bool false) (h : ev ρ y = .bool b) : PV P (.pick q x y) ρ (.bool b) := h ▸ pv_pick_f hq
theorem pvm_move_i {k : IntKind} {a : Int} (h : ev ρ x = .int k a) : PV P (.move x) ρ (.int k a) := h ▸ pv_move
theorem pvm_assign_i {k : IntKind} {a : Int} (h : ev ρ x = .int k a) : PV P (.assign x) ρ (.int k a) := h ▸ pv_assign
theorem pvk_t_i {q : Operand} {k : IntKind} {a : Int} (hq : ev ρ q = .bool true) (h : ev ρ x = .int k a) : PV P (.pick q x y) ρ (.int k a) := h ▸ pv_pick_t hq
theorem pvk_f_i {q : Operand} {k : IntKind} {a : Int} (hq : ev ρ q = .bool false) (h : ev ρ y = .int k a) : PV P (.pick q x y) ρ (.int k a) := h ▸ pv_pick_f hq
theorem pvm_move_8 {a : BitVec 8} (h : ev ρ x = v8 a) : PV P (.move x) ρ (v8 a) := h ▸ pv_move
theorem pvm_assign_8 {a : BitVec 8} (h : ev ρ x = v8 a) : PV P (.assign x) ρ (v8 a) := h ▸ pv_assign
theorem pvk_t_8 {q : Operand} {a : BitVec 8} (hq : ev ρ q = .bool true) (h : ev ρ x = v8 a) : PV P (.pick q x y) ρ (v8 a) := h ▸ pv_pick_t hq
theorem pvk_f_8 {q : Operand} {a : BitVec 8} (hq : ev ρ q = .bool false) (h : ev ρ y = v8 a) : PV P (.pick q x y) ρ (v8 a) := h ▸ pv_pick_f hq
theorem pvm_move_32 {a : BitVec 32} (h : ev ρ x = v32 a) : PV P (.move x) ρ (v32 a) := h ▸ pv_move
theorem pvm_assign_32 {a : BitVec 32} (h : ev ρ x = v32 a) : PV P (.assign x) ρ (v32 a) := h ▸ pv_assign
theorem pvk_t_32 {q : Operand} {a : BitVec 32} (hq : ev ρ q = .bool true) (h : ev ρ x = v32 a) : PV P (.pick q x y) ρ (v32 a) := h ▸ pv_pick_t hq
theorem pvk_f_32 {q : Operand} {a : BitVec 32} (hq : ev ρ q = .bool false) (h : ev ρ y = v32 a) : PV P (.pick q x y) ρ (v32 a) := h ▸ pv_pick_f hq
theorem pvm_move_64 {a : BitVec 64} (h : ev ρ x = v64 a) : PV P (.move x) ρ (v64 a) := h ▸ pv_move
theorem pvm_assign_64 {a : BitVec 64} (h : ev ρ x = v64 a) : PV P (.assign x) ρ (v64 a) := h ▸ pv_assign
theorem pvk_t_64 {q : Operand} {a : BitVec 64} (hq : ev ρ q = .bool true) (h : ev ρ x = v64 a) : PV P (.pick q x y) ρ (v64 a) := h ▸ pv_pick_t hq
theorem pvk_f_64 {q : Operand} {a : BitVec 64} (hq : ev ρ q = .bool false) (h : ev ρ y = v64 a) : PV P (.pick q x y) ρ (v64 a) := h ▸ pv_pick_f hq
theorem pvm_move_p {a : Option Addr} (h : ev ρ x = .pointer a) : PV P (.move x) ρ (.pointer a) := h ▸ pv_move
theorem pvm_assign_p {a : Option Addr} (h : ev ρ x = .pointer a) : PV P (.assign x) ρ (.pointer a) := h ▸ pv_assign
theorem pvk_t_p {q : Operand} {a : Option Addr} (hq : ev ρ q = .bool true) (h : ev ρ x = .pointer a) : PV P (.pick q x y) ρ (.pointer a) := h ▸ pv_pick_t hq
theorem pvk_f_p {q : Operand} {a : Option Addr} (hq : ev ρ q = .bool false) (h : ev ρ y = .pointer a) : PV P (.pick q x y) ρ (.pointer a) := h ▸ pv_pick_f hq
theorem pvm_move_s {a : Option Addr} {l c : Nat} (h : ev ρ x = .slice a l c) : PV P (.move x) ρ (.slice a l c) := h ▸ pv_move
theorem pvm_assign_s {a : Option Addr} {l c : Nat} (h : ev ρ x = .slice a l c) : PV P (.assign x) ρ (.slice a l c) := h ▸ pv_assign
theorem pvk_t_s {q : Operand} {a : Option Addr} {l c : Nat} (hq : ev ρ q = .bool true) (h : ev ρ x = .slice a l c) : PV P (.pick q x y) ρ (.slice a l c) := h ▸ pv_pick_t hq
theorem pvk_f_s {q : Operand} {a : Option Addr} {l c : Nat} (hq : ev ρ q = .bool false) (h : ev ρ y = .slice a l c) : PV P (.pick q x y) ρ (.slice a l c) := h ▸ pv_pick_f hq
theorem pvm_move_str {s : ByteArray} (h : ev ρ x = .string s) : PV P (.move x) ρ (.string s) := h ▸ pv_move
theorem pvm_assign_str {s : ByteArray} (h : ev ρ x = .string s) : PV P (.assign x) ρ (.string s) := h ▸ pv_assign
theorem pvk_t_str {q : Operand} {s : ByteArray} (hq : ev ρ q = .bool true) (h : ev ρ x = .string s) : PV P (.pick q x y) ρ (.string s) := h ▸ pv_pick_t hq
theorem pvk_f_str {q : Operand} {s : ByteArray} (hq : ev ρ q = .bool false) (h : ev ρ y = .string s) : PV P (.pick q x y) ρ (.string s) := h ▸ pv_pick_f hq
theorem pvm_move_a {cs : Array Value} (h : ev ρ x = .agg cs) : PV P (.move x) ρ (.agg cs) := h ▸ pv_move
theorem pvm_assign_a {cs : Array Value} (h : ev ρ x = .agg cs) : PV P (.assign x) ρ (.agg cs) := h ▸ pv_assign
theorem pvk_t_a {q : Operand} {cs : Array Value} (hq : ev ρ q = .bool true) (h : ev ρ x = .agg cs) : PV P (.pick q x y) ρ (.agg cs) := h ▸ pv_pick_t hq
theorem pvk_f_a {q : Operand} {cs : Array Value} (hq : ev ρ q = .bool false) (h : ev ρ y = .agg cs) : PV P (.pick q x y) ρ (.agg cs) := h ▸ pv_pick_f hq
theorem pvm_move_t {cs : Array Value} (h : ev ρ x = .tuple cs) : PV P (.move x) ρ (.tuple cs) := h ▸ pv_move
theorem pvm_assign_t {cs : Array Value} (h : ev ρ x = .tuple cs) : PV P (.assign x) ρ (.tuple cs) := h ▸ pv_assign
theorem pvk_t_t {q : Operand} {cs : Array Value} (hq : ev ρ q = .bool true) (h : ev ρ x = .tuple cs) : PV P (.pick q x y) ρ (.tuple cs) := h ▸ pv_pick_t hq
theorem pvk_f_t {q : Operand} {cs : Array Value} (hq : ev ρ q = .bool false) (h : ev ρ y = .tuple cs) : PV P (.pick q x y) ρ (.tuple cs) := h ▸ pv_pick_f hq
theorem pvm_move_f {fn : Fn} {fs cs : Array Value} (h : ev ρ x = .func fn fs cs) : PV P (.move x) ρ (.func fn fs cs) := h ▸ pv_move
theorem pvm_assign_f {fn : Fn} {fs cs : Array Value} (h : ev ρ x = .func fn fs cs) : PV P (.assign x) ρ (.func fn fs cs) := h ▸ pv_assign
theorem pvk_t_f {q : Operand} {fn : Fn} {fs cs : Array Value} (hq : ev ρ q = .bool true) (h : ev ρ x = .func fn fs cs) : PV P (.pick q x y) ρ (.func fn fs cs) := h ▸ pv_pick_t hq
theorem pvk_f_f {q : Operand} {fn : Fn} {fs cs : Array Value} (hq : ev ρ q = .bool false) (h : ev ρ y = .func fn fs cs) : PV P (.pick q x y) ρ (.func fn fs cs) := h ▸ pv_pick_f hq
theorem pvk_and {q : Operand} {a b : Bool} (hq : ev ρ q = .bool a) (h : ev ρ x = .bool b) : PV P (.pick q x (.const (.bool false))) ρ (.bool (a && b)) := fun _ _ _ _ _ w => by
  cases a <;> simp [execOp, hq, asBool, h, show ev ρ (.const (.bool false)) = .bool false from rfl]
theorem pvk_or {q : Operand} {a b : Bool} (hq : ev ρ q = .bool a) (h : ev ρ y = .bool b) : PV P (.pick q (.const (.bool true)) y) ρ (.bool (a || b)) := fun _ _ _ _ _ w => by
  cases a <;> simp [execOp, hq, asBool, h, show ev ρ (.const (.bool true)) = .bool true from rfl]
theorem pv_indexAddr_arr1 {len : Nat} (h : arrOf P T = some (len, 1)) (hx : ev ρ x = .pointer (some ⟨b, off, none⟩)) (hi : ev ρ y = .int k i) (h0 : 0 ≤ i) (h1 : i < len) :
    PV P (.indexAddr T x y) ρ (.pointer (some ⟨b, off + i.toNat, none⟩)) := by
  have := pv_indexAddr_arr h hx hi h0 h1; rwa [Nat.mul_one] at this
theorem pv_indexAddr1 {e : TypeId} (h : sliceOf P T = some (e, 1)) (hx : ev ρ x = .slice (some ⟨b, off, none⟩) len cap) (hi : ev ρ y = .int k i) (h0 : 0 ≤ i) (h1 : i < len) :
    PV P (.indexAddr T x y) ρ (.pointer (some ⟨b, off + i.toNat, none⟩)) := by
  have := pv_indexAddr h hx hi h0 h1; rwa [Nat.mul_one] at this
theorem pvc_i_i {a : Int} {d : TypeDesc} (hs : P.underlying T = some d) (hd : P.underlying T' = some (.int .i64)) (hx : ev ρ x = .int .i64 a) (h : -9223372036854775808 ≤ a ∧ a ≤ 9223372036854775807) : PV P (.convert T T' x) ρ (.int .i64 a) := by
  have := pv_conv (P := P) hs hd hx; rwa [wrap_i64 h.1 h.2] at this
theorem pvc_64_n {a : BitVec 64} {d : TypeDesc} (m : Nat) (hs : P.underlying T = some d) (hd : P.underlying T' = some (.int .i64)) (hx : ev ρ x = v64 a) (hm : a.toNat = m) (hl : m ≤ 9223372036854775807) : PV P (.convert T T' x) ρ (.int .i64 m) := by
  have := pv_conv (P := P) hs hd hx; rw [hm, wrap_i64 (by omega) (by omega)] at this; exact this
theorem pvc_64_i {a : BitVec 64} {d : TypeDesc} (hs : P.underlying T = some d) (hd : P.underlying T' = some (.int .i64)) (hx : ev ρ x = v64 a) : PV P (.convert T T' x) ρ (.int .i64 (IntKind.i64.wrap a.toNat)) := pv_conv hs hd hx
theorem pv8_add {a b : BitVec 8} (hx : ev ρ x = v8 a) (hy : ev ρ y = v8 b) : PV P (.binOp .add T x y T') ρ (v8 (a + b)) := pvu_add (k := .u8) rfl hx hy
theorem pv8_sub {a b : BitVec 8} (hx : ev ρ x = v8 a) (hy : ev ρ y = v8 b) : PV P (.binOp .sub T x y T') ρ (v8 (a - b)) := pvu_sub (k := .u8) rfl hx hy
theorem pv8_mul {a b : BitVec 8} (hx : ev ρ x = v8 a) (hy : ev ρ y = v8 b) : PV P (.binOp .mul T x y T') ρ (v8 (a * b)) := pvu_mul (k := .u8) rfl hx hy
theorem pv8_and {a b : BitVec 8} (hx : ev ρ x = v8 a) (hy : ev ρ y = v8 b) : PV P (.binOp .and T x y T') ρ (v8 (a &&& b)) := pvu_and (k := .u8) rfl hx hy
theorem pv8_or {a b : BitVec 8} (hx : ev ρ x = v8 a) (hy : ev ρ y = v8 b) : PV P (.binOp .or T x y T') ρ (v8 (a ||| b)) := pvu_or (k := .u8) rfl hx hy
theorem pv8_xor {a b : BitVec 8} (hx : ev ρ x = v8 a) (hy : ev ρ y = v8 b) : PV P (.binOp .xor T x y T') ρ (v8 (a ^^^ b)) := pvu_xor (k := .u8) rfl hx hy
theorem pv8_andNot {a b : BitVec 8} (hx : ev ρ x = v8 a) (hy : ev ρ y = v8 b) : PV P (.binOp .andNot T x y T') ρ (v8 (a &&& ~~~b)) := pvu_andNot (k := .u8) rfl hx hy
theorem pv8_lss {a b : BitVec 8} (hx : ev ρ x = v8 a) (hy : ev ρ y = v8 b) : PV P (.binOp .lss T x y T') ρ (.bool (decide (a.toNat < b.toNat))) := pvu_lss (k := .u8) hx hy
theorem pv8_leq {a b : BitVec 8} (hx : ev ρ x = v8 a) (hy : ev ρ y = v8 b) : PV P (.binOp .leq T x y T') ρ (.bool (decide (a.toNat ≤ b.toNat))) := pvu_leq (k := .u8) hx hy
theorem pv8_gtr {a b : BitVec 8} (hx : ev ρ x = v8 a) (hy : ev ρ y = v8 b) : PV P (.binOp .gtr T x y T') ρ (.bool (decide (b.toNat < a.toNat))) := pvu_gtr (k := .u8) hx hy
theorem pv8_geq {a b : BitVec 8} (hx : ev ρ x = v8 a) (hy : ev ρ y = v8 b) : PV P (.binOp .geq T x y T') ρ (.bool (decide (b.toNat ≤ a.toNat))) := pvu_geq (k := .u8) hx hy
theorem pv8_eql {a b : BitVec 8} (hx : ev ρ x = v8 a) (hy : ev ρ y = v8 b) : PV P (.binOp .eql T x y T') ρ (.bool (decide (a = b))) := pvu_eql (k := .u8) hx hy
theorem pv8_neq {a b : BitVec 8} (hx : ev ρ x = v8 a) (hy : ev ρ y = v8 b) : PV P (.binOp .neq T x y T') ρ (.bool (decide (a ≠ b))) := pvu_neq (k := .u8) hx hy
theorem pv8_shl {a : BitVec 8} {yk : IntKind} {m : Int} (hx : ev ρ x = v8 a) (hy : ev ρ y = .int yk m) (hm : 0 ≤ m) : PV P (.binOp .shl T x y T') ρ (v8 (a <<< m.toNat)) := pvu_shl (k := .u8) rfl hx hy hm
theorem pv8_shr {a : BitVec 8} {yk : IntKind} {m : Int} (hx : ev ρ x = v8 a) (hy : ev ρ y = .int yk m) (hm : 0 ≤ m) : PV P (.binOp .shr T x y T') ρ (v8 (a >>> m.toNat)) := pvu_shr (k := .u8) rfl hx hy hm
theorem pv8_not {a : BitVec 8} (hx : ev ρ x = v8 a) : PV P (.unOp .xor T x) ρ (v8 (~~~a)) := pvu_not (k := .u8) rfl hx
theorem pvc_8_8 {a : BitVec 8} {d : TypeDesc} (hs : P.underlying T = some d) (hd : P.underlying T' = some (.int .u8)) (hx : ev ρ x = v8 a) : PV P (.convert T T' x) ρ (v8 (BitVec.ofNat 8 a.toNat)) := pvu_conv (k := .u8) (k' := .u8) rfl hs hd hx
theorem pvc_8_32 {a : BitVec 8} {d : TypeDesc} (hs : P.underlying T = some d) (hd : P.underlying T' = some (.int .u32)) (hx : ev ρ x = v8 a) : PV P (.convert T T' x) ρ (v32 (BitVec.ofNat 32 a.toNat)) := pvu_conv (k := .u8) (k' := .u32) rfl hs hd hx
theorem pvc_8_64 {a : BitVec 8} {d : TypeDesc} (hs : P.underlying T = some d) (hd : P.underlying T' = some (.int .u64)) (hx : ev ρ x = v8 a) : PV P (.convert T T' x) ρ (v64 (BitVec.ofNat 64 a.toNat)) := pvu_conv (k := .u8) (k' := .u64) rfl hs hd hx
theorem pvc_i_8 {a : Int} {d : TypeDesc} (hs : P.underlying T = some d) (hd : P.underlying T' = some (.int .u8)) (hx : ev ρ x = .int .i64 a) : PV P (.convert T T' x) ρ (v8 (BitVec.ofInt 8 a)) := pvi_conv (k' := .u8) rfl hs hd hx
theorem pvc_8_i {a : BitVec 8} {d : TypeDesc} (hs : P.underlying T = some d) (hd : P.underlying T' = some (.int .i64)) (hx : ev ρ x = v8 a) : PV P (.convert T T' x) ρ (.int .i64 a.toNat) := pvu_toInt (k := .u8) (by decide) hs hd hx
theorem pv32_add {a b : BitVec 32} (hx : ev ρ x = v32 a) (hy : ev ρ y = v32 b) : PV P (.binOp .add T x y T') ρ (v32 (a + b)) := pvu_add (k := .u32) rfl hx hy
theorem pv32_sub {a b : BitVec 32} (hx : ev ρ x = v32 a) (hy : ev ρ y = v32 b) : PV P (.binOp .sub T x y T') ρ (v32 (a - b)) := pvu_sub (k := .u32) rfl hx hy
theorem pv32_mul {a b : BitVec 32} (hx : ev ρ x = v32 a) (hy : ev ρ y = v32 b) : PV P (.binOp .mul T x y T') ρ (v32 (a * b)) := pvu_mul (k := .u32) rfl hx hy
theorem pv32_and {a b : BitVec 32} (hx : ev ρ x = v32 a) (hy : ev ρ y = v32 b) : PV P (.binOp .and T x y T') ρ (v32 (a &&& b)) := pvu_and (k := .u32) rfl hx hy
theorem pv32_or {a b : BitVec 32} (hx : ev ρ x = v32 a) (hy : ev ρ y = v32 b) : PV P (.binOp .or T x y T') ρ (v32 (a ||| b)) := pvu_or (k := .u32) rfl hx hy
theorem pv32_xor {a b : BitVec 32} (hx : ev ρ x = v32 a) (hy : ev ρ y = v32 b) : PV P (.binOp .xor T x y T') ρ (v32 (a ^^^ b)) := pvu_xor (k := .u32) rfl hx hy
theorem pv32_andNot {a b : BitVec 32} (hx : ev ρ x = v32 a) (hy : ev ρ y = v32 b) : PV P (.binOp .andNot T x y T') ρ (v32 (a &&& ~~~b)) := pvu_andNot (k := .u32) rfl hx hy
theorem pv32_lss {a b : BitVec 32} (hx : ev ρ x = v32 a) (hy : ev ρ y = v32 b) : PV P (.binOp .lss T x y T') ρ (.bool (decide (a.toNat < b.toNat))) := pvu_lss (k := .u32) hx hy
theorem pv32_leq {a b : BitVec 32} (hx : ev ρ x = v32 a) (hy : ev ρ y = v32 b) : PV P (.binOp .leq T x y T') ρ (.bool (decide (a.toNat ≤ b.toNat))) := pvu_leq (k := .u32) hx hy
theorem pv32_gtr {a b : BitVec 32} (hx : ev ρ x = v32 a) (hy : ev ρ y = v32 b) : PV P (.binOp .gtr T x y T') ρ (.bool (decide (b.toNat < a.toNat))) := pvu_gtr (k := .u32) hx hy
theorem pv32_geq {a b : BitVec 32} (hx : ev ρ x = v32 a) (hy : ev ρ y = v32 b) : PV P (.binOp .geq T x y T') ρ (.bool (decide (b.toNat ≤ a.toNat))) := pvu_geq (k := .u32) hx hy
theorem pv32_eql {a b : BitVec 32} (hx : ev ρ x = v32 a) (hy : ev ρ y = v32 b) : PV P (.binOp .eql T x y T') ρ (.bool (decide (a = b))) := pvu_eql (k := .u32) hx hy
theorem pv32_neq {a b : BitVec 32} (hx : ev ρ x = v32 a) (hy : ev ρ y = v32 b) : PV P (.binOp .neq T x y T') ρ (.bool (decide (a ≠ b))) := pvu_neq (k := .u32) hx hy
theorem pv32_shl {a : BitVec 32} {yk : IntKind} {m : Int} (hx : ev ρ x = v32 a) (hy : ev ρ y = .int yk m) (hm : 0 ≤ m) : PV P (.binOp .shl T x y T') ρ (v32 (a <<< m.toNat)) := pvu_shl (k := .u32) rfl hx hy hm
theorem pv32_shr {a : BitVec 32} {yk : IntKind} {m : Int} (hx : ev ρ x = v32 a) (hy : ev ρ y = .int yk m) (hm : 0 ≤ m) : PV P (.binOp .shr T x y T') ρ (v32 (a >>> m.toNat)) := pvu_shr (k := .u32) rfl hx hy hm
theorem pv32_not {a : BitVec 32} (hx : ev ρ x = v32 a) : PV P (.unOp .xor T x) ρ (v32 (~~~a)) := pvu_not (k := .u32) rfl hx
theorem pvc_32_8 {a : BitVec 32} {d : TypeDesc} (hs : P.underlying T = some d) (hd : P.underlying T' = some (.int .u8)) (hx : ev ρ x = v32 a) : PV P (.convert T T' x) ρ (v8 (BitVec.ofNat 8 a.toNat)) := pvu_conv (k := .u32) (k' := .u8) rfl hs hd hx
theorem pvc_32_32 {a : BitVec 32} {d : TypeDesc} (hs : P.underlying T = some d) (hd : P.underlying T' = some (.int .u32)) (hx : ev ρ x = v32 a) : PV P (.convert T T' x) ρ (v32 (BitVec.ofNat 32 a.toNat)) := pvu_conv (k := .u32) (k' := .u32) rfl hs hd hx
theorem pvc_32_64 {a : BitVec 32} {d : TypeDesc} (hs : P.underlying T = some d) (hd : P.underlying T' = some (.int .u64)) (hx : ev ρ x = v32 a) : PV P (.convert T T' x) ρ (v64 (BitVec.ofNat 64 a.toNat)) := pvu_conv (k := .u32) (k' := .u64) rfl hs hd hx
theorem pvc_i_32 {a : Int} {d : TypeDesc} (hs : P.underlying T = some d) (hd : P.underlying T' = some (.int .u32)) (hx : ev ρ x = .int .i64 a) : PV P (.convert T T' x) ρ (v32 (BitVec.ofInt 32 a)) := pvi_conv (k' := .u32) rfl hs hd hx
theorem pvc_32_i {a : BitVec 32} {d : TypeDesc} (hs : P.underlying T = some d) (hd : P.underlying T' = some (.int .i64)) (hx : ev ρ x = v32 a) : PV P (.convert T T' x) ρ (.int .i64 a.toNat) := pvu_toInt (k := .u32) (by decide) hs hd hx
theorem pv64_add {a b : BitVec 64} (hx : ev ρ x = v64 a) (hy : ev ρ y = v64 b) : PV P (.binOp .add T x y T') ρ (v64 (a + b)) := pvu_add (k := .u64) rfl hx hy
theorem pv64_sub {a b : BitVec 64} (hx : ev ρ x = v64 a) (hy : ev ρ y = v64 b) : PV P (.binOp .sub T x y T') ρ (v64 (a - b)) := pvu_sub (k := .u64) rfl hx hy
theorem pv64_mul {a b : BitVec 64} (hx : ev ρ x = v64 a) (hy : ev ρ y = v64 b) : PV P (.binOp .mul T x y T') ρ (v64 (a * b)) := pvu_mul (k := .u64) rfl hx hy
theorem pv64_and {a b : BitVec 64} (hx : ev ρ x = v64 a) (hy : ev ρ y = v64 b) : PV P (.binOp .and T x y T') ρ (v64 (a &&& b)) := pvu_and (k := .u64) rfl hx hy
theorem pv64_or {a b : BitVec 64} (hx : ev ρ x = v64 a) (hy : ev ρ y = v64 b) : PV P (.binOp .or T x y T') ρ (v64 (a ||| b)) := pvu_or (k := .u64) rfl hx hy
theorem pv64_xor {a b : BitVec 64} (hx : ev ρ x = v64 a) (hy : ev ρ y = v64 b) : PV P (.binOp .xor T x y T') ρ (v64 (a ^^^ b)) := pvu_xor (k := .u64) rfl hx hy
theorem pv64_andNot {a b : BitVec 64} (hx : ev ρ x = v64 a) (hy : ev ρ y = v64 b) : PV P (.binOp .andNot T x y T') ρ (v64 (a &&& ~~~b)) := pvu_andNot (k := .u64) rfl hx hy
theorem pv64_lss {a b : BitVec 64} (hx : ev ρ x = v64 a) (hy : ev ρ y = v64 b) : PV P (.binOp .lss T x y T') ρ (.bool (decide (a.toNat < b.toNat))) := pvu_lss (k := .u64) hx hy
theorem pv64_leq {a b : BitVec 64} (hx : ev ρ x = v64 a) (hy : ev ρ y = v64 b) : PV P (.binOp .leq T x y T') ρ (.bool (decide (a.toNat ≤ b.toNat))) := pvu_leq (k := .u64) hx hy
theorem pv64_gtr {a b : BitVec 64} (hx : ev ρ x = v64 a) (hy : ev ρ y = v64 b) : PV P (.binOp .gtr T x y T') ρ (.bool (decide (b.toNat < a.toNat))) := pvu_gtr (k := .u64) hx hy
theorem pv64_geq {a b : BitVec 64} (hx : ev ρ x = v64 a) (hy : ev ρ y = v64 b) : PV P (.binOp .geq T x y T') ρ (.bool (decide (b.toNat ≤ a.toNat))) := pvu_geq (k := .u64) hx hy
theorem pv64_eql {a b : BitVec 64} (hx : ev ρ x = v64 a) (hy : ev ρ y = v64 b) : PV P (.binOp .eql T x y T') ρ (.bool (decide (a = b))) := pvu_eql (k := .u64) hx hy
theorem pv64_neq {a b : BitVec 64} (hx : ev ρ x = v64 a) (hy : ev ρ y = v64 b) : PV P (.binOp .neq T x y T') ρ (.bool (decide (a ≠ b))) := pvu_neq (k := .u64) hx hy
theorem pv64_shl {a : BitVec 64} {yk : IntKind} {m : Int} (hx : ev ρ x = v64 a) (hy : ev ρ y = .int yk m) (hm : 0 ≤ m) : PV P (.binOp .shl T x y T') ρ (v64 (a <<< m.toNat)) := pvu_shl (k := .u64) rfl hx hy hm
theorem pv64_shr {a : BitVec 64} {yk : IntKind} {m : Int} (hx : ev ρ x = v64 a) (hy : ev ρ y = .int yk m) (hm : 0 ≤ m) : PV P (.binOp .shr T x y T') ρ (v64 (a >>> m.toNat)) := pvu_shr (k := .u64) rfl hx hy hm
theorem pv64_not {a : BitVec 64} (hx : ev ρ x = v64 a) : PV P (.unOp .xor T x) ρ (v64 (~~~a)) := pvu_not (k := .u64) rfl hx
theorem pvc_64_8 {a : BitVec 64} {d : TypeDesc} (hs : P.underlying T = some d) (hd : P.underlying T' = some (.int .u8)) (hx : ev ρ x = v64 a) : PV P (.convert T T' x) ρ (v8 (BitVec.ofNat 8 a.toNat)) := pvu_conv (k := .u64) (k' := .u8) rfl hs hd hx
theorem pvc_64_32 {a : BitVec 64} {d : TypeDesc} (hs : P.underlying T = some d) (hd : P.underlying T' = some (.int .u32)) (hx : ev ρ x = v64 a) : PV P (.convert T T' x) ρ (v32 (BitVec.ofNat 32 a.toNat)) := pvu_conv (k := .u64) (k' := .u32) rfl hs hd hx
theorem pvc_64_64 {a : BitVec 64} {d : TypeDesc} (hs : P.underlying T = some d) (hd : P.underlying T' = some (.int .u64)) (hx : ev ρ x = v64 a) : PV P (.convert T T' x) ρ (v64 (BitVec.ofNat 64 a.toNat)) := pvu_conv (k := .u64) (k' := .u64) rfl hs hd hx
theorem pvc_i_64 {a : Int} {d : TypeDesc} (hs : P.underlying T = some d) (hd : P.underlying T' = some (.int .u64)) (hx : ev ρ x = .int .i64 a) : PV P (.convert T T' x) ρ (v64 (BitVec.ofInt 64 a)) := pvi_conv (k' := .u64) rfl hs hd hx
end
end Go.Vc
