/- Integers without wrap; bytes and words as bit vectors. Over any program. -/
import Derived.Test.YtnohdfhhdppflaaVcOps
namespace Go.Vc
open Go
set_option linter.unusedVariables false
set_option linter.unusedSimpArgs false
section
variable {P : Program} {ρ : Fr} {x y z c : Operand} {T T' : TypeId}
theorem pv_isub {a b : Int} (hx : ev ρ x = .int .i64 a) (hy : ev ρ y = .int .i64 b) (h : -9223372036854775808 ≤ a - b ∧ a - b ≤ 9223372036854775807) : PV P (.binOp .sub T x y T') ρ (.int .i64 (a - b)) := by
  have := pv_sub (P := P) (T := T) (T' := T') hx hy; rwa [wrap_i64 h.1 h.2] at this
theorem pv_imul {a b : Int} (hx : ev ρ x = .int .i64 a) (hy : ev ρ y = .int .i64 b) (h : -9223372036854775808 ≤ a * b ∧ a * b ≤ 9223372036854775807) : PV P (.binOp .mul T x y T') ρ (.int .i64 (a * b)) := by
  have := pv_mul (P := P) (T := T) (T' := T') hx hy; rwa [wrap_i64 h.1 h.2] at this
theorem pv_iquo {a b : Int} (hx : ev ρ x = .int .i64 a) (hy : ev ρ y = .int .i64 b) (h : 0 ≤ a ∧ a ≤ 9223372036854775807 ∧ 0 < b) : PV P (.binOp .quo T x y T') ρ (.int .i64 (a / b)) := by
  have := pv_quo (P := P) (T := T) (T' := T') hx hy (by omega)
  rw [Int.tdiv_eq_ediv_of_nonneg h.1, wrap_i64 (by have := Int.ediv_nonneg h.1 (Int.le_of_lt h.2.2); omega) (by have := Int.ediv_le_self b h.1; omega)] at this
  exact this
theorem pv_irem {a b : Int} (hx : ev ρ x = .int .i64 a) (hy : ev ρ y = .int .i64 b) (h : 0 ≤ a ∧ 0 < b) : PV P (.binOp .rem T x y T') ρ (.int .i64 (a % b)) := by
  have := pv_rem (P := P) (T := T) (T' := T') hx hy (by omega)
  rw [Int.tmod_eq_emod_of_nonneg h.1] at this
  exact this

/-! ### unsigned words -/
theorem wrapU {k : IntKind} (hk : k.signed = false) (a : Int) : k.wrap a = a % (2 ^ k.bits : Int) := by
  simp [IntKind.wrap, hk]
theorem wrapU_nat {k : IntKind} (hk : k.signed = false) (x : BitVec k.bits) : k.wrap (x.toNat : Int) = x.toNat := by
  rw [wrapU hk]; have := x.isLt; rw [Int.emod_eq_of_lt (by omega) (by exact_mod_cast this)]
theorem wrapU_of {k : IntKind} (hk : k.signed = false) (m : Nat) : k.wrap (m : Int) = ((BitVec.ofNat k.bits m).toNat : Int) := by
  rw [wrapU hk, BitVec.toNat_ofNat]; push_cast; rfl
theorem wrapU_int {k : IntKind} (hk : k.signed = false) (m : Int) : k.wrap m = ((BitVec.ofInt k.bits m).toNat : Int) := by
  rw [wrapU hk, BitVec.toNat_ofInt]
  have : (0 : Int) ≤ m % ((2 ^ k.bits : Nat) : Int) := Int.emod_nonneg _ (by exact_mod_cast (Nat.pos_iff_ne_zero.1 (Nat.two_pow_pos _)))
  rw [Int.toNat_of_nonneg this]; push_cast; rfl
def vi (n : Int) : Value := .int .i64 n
def vu (k : IntKind) (x : BitVec k.bits) : Value := .int k x.toNat
section
variable {k : IntKind} {a b : BitVec k.bits}
theorem pvu_add (hk : k.signed = false) (hx : ev ρ x = vu k a) (hy : ev ρ y = vu k b) : PV P (.binOp .add T x y T') ρ (vu k (a + b)) := by
  have := pv_add (P := P) (T := T) (T' := T') hx hy
  rw [show (a.toNat : Int) + b.toNat = ((a.toNat + b.toNat : Nat) : Int) by push_cast; rfl, wrapU_of hk, BitVec.ofNat_add, BitVec.ofNat_toNat, BitVec.ofNat_toNat] at this
  simpa [vu] using this
theorem pvu_mul (hk : k.signed = false) (hx : ev ρ x = vu k a) (hy : ev ρ y = vu k b) : PV P (.binOp .mul T x y T') ρ (vu k (a * b)) := by
  have := pv_mul (P := P) (T := T) (T' := T') hx hy
  rw [show (a.toNat : Int) * b.toNat = ((a.toNat * b.toNat : Nat) : Int) by push_cast; rfl, wrapU_of hk, BitVec.ofNat_mul, BitVec.ofNat_toNat, BitVec.ofNat_toNat] at this
  simpa [vu] using this
theorem pvu_sub (hk : k.signed = false) (hx : ev ρ x = vu k a) (hy : ev ρ y = vu k b) : PV P (.binOp .sub T x y T') ρ (vu k (a - b)) := by
  have := pv_sub (P := P) (T := T) (T' := T') hx hy
  have e : k.wrap ((a.toNat : Int) - b.toNat) = ((a - b).toNat : Int) := by
    rw [wrapU hk, BitVec.toNat_sub]
    have ha := a.isLt
    have hb := b.isLt
    rw [show (2 ^ k.bits : Int) = ((2 ^ k.bits : Nat) : Int) by push_cast; rfl]
    generalize 2 ^ k.bits = N at *
    push_cast
    rw [Int.natCast_sub (by omega)]
    rw [show (N : Int) - b.toNat + a.toNat = (a.toNat - b.toNat) + N by omega, Int.add_emod_right]
  rw [e] at this
  exact this
theorem pv_intBits {op : BinOp} {k : IntKind} {a b : Int} {v : Value} (hop : op = .and ∨ op = .or ∨ op = .xor ∨ op = .andNot) (hx : ev ρ x = .int k a) (hy : ev ρ y = .int k b)
    (h : ∀ w, (Op.intBits op k a b).run P w = .ok v w) : PV P (.binOp op T x y T') ρ v :=
  pv_bin hx hy fun w => by rcases hop with rfl | rfl | rfl | rfl <;> simpa [binOp] using h w
theorem pvu_and (hk : k.signed = false) (hx : ev ρ x = vu k a) (hy : ev ρ y = vu k b) : PV P (.binOp .and T x y T') ρ (vu k (a &&& b)) :=
  pv_intBits (by simp) hx hy fun w => by simp only [Op.intBits, BitVec.ofInt_natCast, BitVec.ofNat_toNat, BitVec.setWidth_eq, wrapU_nat hk]; rfl
theorem pvu_or (hk : k.signed = false) (hx : ev ρ x = vu k a) (hy : ev ρ y = vu k b) : PV P (.binOp .or T x y T') ρ (vu k (a ||| b)) :=
  pv_intBits (by simp) hx hy fun w => by simp only [Op.intBits, BitVec.ofInt_natCast, BitVec.ofNat_toNat, BitVec.setWidth_eq, wrapU_nat hk]; rfl
theorem pvu_xor (hk : k.signed = false) (hx : ev ρ x = vu k a) (hy : ev ρ y = vu k b) : PV P (.binOp .xor T x y T') ρ (vu k (a ^^^ b)) :=
  pv_intBits (by simp) hx hy fun w => by simp only [Op.intBits, BitVec.ofInt_natCast, BitVec.ofNat_toNat, BitVec.setWidth_eq, wrapU_nat hk]; rfl
theorem pvu_andNot (hk : k.signed = false) (hx : ev ρ x = vu k a) (hy : ev ρ y = vu k b) : PV P (.binOp .andNot T x y T') ρ (vu k (a &&& ~~~b)) :=
  pv_intBits (by simp) hx hy fun w => by simp only [Op.intBits, BitVec.ofInt_natCast, BitVec.ofNat_toNat, BitVec.setWidth_eq, wrapU_nat hk]; rfl
theorem pvu_not (hk : k.signed = false) (hx : ev ρ x = vu k a) : PV P (.unOp .xor T x) ρ (vu k (~~~a)) := fun _ _ _ _ _ w => by
  have hm : BitVec.ofInt k.bits k.max = BitVec.allOnes k.bits := by
    cases k <;> first | rfl | (simp [IntKind.signed] at hk)
  have hr : (Op.unary .xor (.int k a.toNat)).run P w = .ok (vu k (~~~a)) w := by
    simp only [Op.unary, hk, Bool.false_eq_true, if_false, Op.intBits, hm, BitVec.ofInt_natCast, BitVec.ofNat_toNat, BitVec.setWidth_eq, BitVec.allOnes_xor, wrapU_nat hk]; rfl
  have hx' : ev ρ x = .int k a.toNat := hx
  simp [execOp, hx', hr]
theorem pv_shift {op : BinOp} {k yk : IntKind} {a b : Int} {v : Value} (hop : op = .shl ∨ op = .shr) (hx : ev ρ x = .int k a) (hy : ev ρ y = .int yk b)
    (h : ∀ w, (Op.shift op k a yk b).run P w = .ok v w) : PV P (.binOp op T x y T') ρ v := fun _ _ _ _ _ w => by
  have hguard : (eqGuard op T x y (.int k a) (.int yk b)).run P w = .ok () w := by
    unfold eqGuard; cases op <;> simp
  rcases hop with rfl | rfl <;> simp [execOp, hx, hy, hguard, binOp, h]
theorem pvu_shl {yk : IntKind} {m : Int} (hk : k.signed = false) (hx : ev ρ x = vu k a) (hy : ev ρ y = .int yk m) (hm : 0 ≤ m) : PV P (.binOp .shl T x y T') ρ (vu k (a <<< m.toNat)) :=
  pv_shift (by simp) hx hy fun w => by
    have h0 : ¬ m < 0 := by omega
    have h1 : k.wrap ((a.toNat : Int) * 2 ^ (min m.toNat k.bits)) = ((a <<< m.toNat).toNat : Int) := by
      rw [show (a.toNat : Int) * 2 ^ (min m.toNat k.bits) = ((a.toNat * 2 ^ (min m.toNat k.bits) : Nat) : Int) by push_cast; rfl, wrapU_of hk, BitVec.toNat_shiftLeft, BitVec.toNat_ofNat, Nat.shiftLeft_eq]
      rcases Nat.le_total m.toNat k.bits with hle | hle
      · rw [Nat.min_eq_left hle]
      · rw [Nat.min_eq_right hle]
        obtain ⟨d, hd⟩ := Nat.exists_eq_add_of_le hle
        rw [hd, Nat.pow_add, ← Nat.mul_assoc, Nat.mul_mod_left, Nat.mul_right_comm, Nat.mul_mod_left]
    simp [Op.shift, h0, h1, vu]
theorem pvu_shr {yk : IntKind} {m : Int} (hk : k.signed = false) (hx : ev ρ x = vu k a) (hy : ev ρ y = .int yk m) (hm : 0 ≤ m) : PV P (.binOp .shr T x y T') ρ (vu k (a >>> m.toNat)) :=
  pv_shift (by simp) hx hy fun w => by
    have h0 : ¬ m < 0 := by omega
    have h1 : (a.toNat : Int).fdiv (2 ^ (min m.toNat k.bits)) = ((a >>> m.toNat).toNat : Int) := by
      rw [BitVec.toNat_ushiftRight, Nat.shiftRight_eq_div_pow]
      have e : (a.toNat : Int).fdiv (2 ^ (min m.toNat k.bits)) = ((a.toNat / 2 ^ (min m.toNat k.bits) : Nat) : Int) := by
        rw [show (2 ^ (min m.toNat k.bits) : Int) = ((2 ^ (min m.toNat k.bits) : Nat) : Int) by push_cast; rfl]
        generalize 2 ^ (min m.toNat k.bits) = N
        rw [Int.fdiv_eq_ediv_of_nonneg _ (by omega)]; exact (Int.natCast_ediv _ _).symm
      rw [e]
      rcases Nat.le_total m.toNat k.bits with hle | hle
      · rw [Nat.min_eq_left hle]
      · rw [Nat.min_eq_right hle, Nat.div_eq_of_lt a.isLt, Nat.div_eq_of_lt (Nat.lt_of_lt_of_le a.isLt (Nat.pow_le_pow_right (by omega) hle))]
    simp [Op.shift, h0, h1, vu]
theorem pvu_lss (hx : ev ρ x = vu k a) (hy : ev ρ y = vu k b) : PV P (.binOp .lss T x y T') ρ (.bool (decide (a.toNat < b.toNat))) := by
  have := pv_lss (P := P) (T := T) (T' := T') hx hy; simpa using this
theorem pvu_leq (hx : ev ρ x = vu k a) (hy : ev ρ y = vu k b) : PV P (.binOp .leq T x y T') ρ (.bool (decide (a.toNat ≤ b.toNat))) := by
  have := pv_leq (P := P) (T := T) (T' := T') hx hy; simpa using this
theorem pvu_gtr (hx : ev ρ x = vu k a) (hy : ev ρ y = vu k b) : PV P (.binOp .gtr T x y T') ρ (.bool (decide (b.toNat < a.toNat))) := by
  have := pv_gtr (P := P) (T := T) (T' := T') hx hy; simpa using this
theorem pvu_geq (hx : ev ρ x = vu k a) (hy : ev ρ y = vu k b) : PV P (.binOp .geq T x y T') ρ (.bool (decide (b.toNat ≤ a.toNat))) := by
  have := pv_geq (P := P) (T := T) (T' := T') hx hy; simpa using this
theorem natInt_iff : ((a.toNat : Int) = b.toNat) ↔ a = b := by rw [Int.natCast_inj, BitVec.toNat_inj]
theorem pvu_eql (hx : ev ρ x = vu k a) (hy : ev ρ y = vu k b) : PV P (.binOp .eql T x y T') ρ (.bool (decide (a = b))) := by
  have := pv_eql (P := P) (T := T) (T' := T') hx hy; simpa only [natInt_iff] using this
theorem pvu_neq (hx : ev ρ x = vu k a) (hy : ev ρ y = vu k b) : PV P (.binOp .neq T x y T') ρ (.bool (decide (a ≠ b))) := by
  have := pv_neq (P := P) (T := T) (T' := T') hx hy; simpa only [ne_eq, natInt_iff] using this
end
/-- Between kinds. -/
theorem pvu_conv {k k' : IntKind} {a : BitVec k.bits} {d : TypeDesc} (hk' : k'.signed = false) (hs : P.underlying T = some d) (hd : P.underlying T' = some (.int k')) (hx : ev ρ x = vu k a) :
    PV P (.convert T T' x) ρ (vu k' (BitVec.ofNat k'.bits a.toNat)) := by
  have := pv_conv (P := P) hs hd hx; rw [wrapU_of hk'] at this; exact this
theorem pvi_conv {k k' : IntKind} {a : Int} {d : TypeDesc} (hk' : k'.signed = false) (hs : P.underlying T = some d) (hd : P.underlying T' = some (.int k')) (hx : ev ρ x = .int k a) :
    PV P (.convert T T' x) ρ (vu k' (BitVec.ofInt k'.bits a)) := by
  have := pv_conv (P := P) hs hd hx; rw [wrapU_int hk'] at this; exact this
/-- A byte or a word of 32 bits as an int. -/
theorem pvu_toInt {k : IntKind} {a : BitVec k.bits} {d : TypeDesc} (hk : k.bits ≤ 32) (hs : P.underlying T = some d) (hd : P.underlying T' = some (.int .i64)) (hx : ev ρ x = vu k a) :
    PV P (.convert T T' x) ρ (.int .i64 a.toNat) := by
  have := pv_conv (P := P) hs hd hx
  have hl : a.toNat < 4294967296 := Nat.lt_of_lt_of_le a.isLt (by have := Nat.pow_le_pow_right (n := 2) (by omega) hk; simpa using this)
  rw [wrap_i64 (by omega) (by omega)] at this; exact this
end
end Go.Vc
