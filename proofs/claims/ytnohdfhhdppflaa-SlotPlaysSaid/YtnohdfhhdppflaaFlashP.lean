/- Flash, as the program has it: its state, and what each method makes of it. Plain. -/
import Derived.Test.YtnohdfhhdppflaaVcExt
namespace Go.Fl
open Go Go.Vc
set_option linter.unusedVariables false
structure Fs where
  b : List (BitVec 8)
  er : Nat → Int
  wear : Int
  down : Bool
  fused : Bool
  left : Int
  torn : Int
  steps : Int
abbrev w64 (n : Int) : Int := IntKind.i64.wrap n
def Fs.ready (s : Fs) (at_ n : Int) : Int := if s.down then 11 else if n < 0 ∨ 3584 < n ∨ at_ < 0 ∨ 3584 - n < at_ then 1 else 0
def Fs.more (s : Fs) : Fs := { s with steps := w64 (s.steps + 1) }
def Fs.tick (s : Fs) : Fs := { s with steps := w64 (s.steps + 1), left := w64 (s.left - 1) }
def Fs.blows (s : Fs) : Bool := s.fused && decide (w64 (s.left - 1) < 0)
/-- A step: the state behind it. -/
def Fs.stepS (s : Fs) : Fs := if s.blows then { s.tick with down := true } else s.tick
/-- The bytes are programmed, one by one. -/
def Fs.prog (s : Fs) (k : Nat) : List (BitVec 8) → Fs × Int
  | [] => (s, 0)
  | x :: xs =>
    if s.stepS.down then ({ s.stepS with b := s.stepS.b.set k (s.stepS.b.getD k 0 &&& (x ||| BitVec.ofInt 8 s.stepS.torn)) }, 11)
    else Fs.prog { s.stepS with b := s.stepS.b.set k (s.stepS.b.getD k 0 &&& x) } (k + 1) xs
def Fs.program (s : Fs) (at_ : Int) (xs : List (BitVec 8)) : Fs × Int :=
  if s.ready at_ xs.length = 0 then s.prog at_.toNat xs else (s, s.ready at_ xs.length)
theorem Fs.stepS_b (s : Fs) : s.stepS.b = s.b := by unfold Fs.stepS; split <;> rfl
theorem getD_of {l : List (BitVec 8)} {k : Nat} (h : k < l.length) : l[k]? = some (l.getD k 0) := by simp [List.getD, h]
theorem Fs.ready_0 {s : Fs} {at_ n : Int} (h : s.ready at_ n = 0) : s.down = false ∧ 0 ≤ n ∧ n ≤ 3584 ∧ 0 ≤ at_ ∧ at_ + n ≤ 3584 := by
  unfold Fs.ready at h
  split at h
  · omega
  · rename_i hd
    split at h
    · omega
    · exact ⟨by simpa using hd, by omega, by omega, by omega, by omega⟩
/-- The bytes (the row may be longer). -/
def Fs.bs (s : Fs) : List (BitVec 8) := s.b.take 3584
def Fs.read (s : Fs) (at_ n : Int) : List (BitVec 8) × Int := if s.ready at_ n = 0 then ((s.bs.drop at_.toNat).take n.toNat, 0) else ([], s.ready at_ n)
def Fs.blank (s : Fs) (at_ n : Int) : Bool := decide ((s.read at_ n).2 = 0) && !((s.read at_ n).1.any fun x => decide (x ≠ 255#8))
def fill255 (l : List (BitVec 8)) (k n : Nat) : List (BitVec 8) := l.take k ++ List.replicate n 255#8 ++ l.drop (k + n)
/-- A sector is erased. -/
def Fs.eraseN (s : Fs) : Nat := if s.stepS.down then ((max 0 s.stepS.torn) % 257).toNat else 256
def Fs.setEr (s : Fs) (k : Nat) (n : Int) : Fs := { s with er := fun j => if j = k then n else s.er j }
def Fs.erasedN (s : Fs) (k n : Nat) : Fs := { Fs.setEr s.stepS k (w64 (s.stepS.er k + 1)) with b := fill255 s.stepS.b (k * 256) n }
def Fs.erased (s : Fs) (k : Nat) : Fs := s.erasedN k s.eraseN
def Fs.erase (s : Fs) (k : Int) : Fs × Int :=
  if s.down then (s, 11) else if k < 0 ∨ 14 ≤ k then (s, 1) else if s.wear ≤ s.er k.toNat then (s, 10)
  else (s.erased k.toNat, if s.stepS.down then 11 else 0)
def Fs.fuse (s : Fs) (n torn : Int) : Fs := { s with fused := decide (0 ≤ n), left := n, torn := torn }
def Fs.start (s : Fs) : Fs := { s with down := false, fused := s.fused && decide (0 ≤ s.left) }
theorem Fs.eraseN_t {s : Fs} (h : s.stepS.down = true) : (s.eraseN : Int) = max 0 s.stepS.torn % 257 := by
  unfold Fs.eraseN; rw [if_pos h]; omega
theorem Fs.eraseN_f {s : Fs} (h : s.stepS.down = false) : s.eraseN = 256 := by
  unfold Fs.eraseN; rw [if_neg (by simp [h])]
theorem Fs.eraseN_le (s : Fs) : s.eraseN ≤ 256 := by
  unfold Fs.eraseN; split <;> omega
theorem Fs.bs_len {s : Fs} (hb : 3584 ≤ s.b.length) : s.bs.length = 3584 := by simp [Fs.bs]; omega
theorem Fs.read_len (s : Fs) (at_ n : Int) : (s.read at_ n).1.length ≤ 3584 := by
  unfold Fs.read Fs.bs; split <;> simp; omega
theorem fill255_len (l : List (BitVec 8)) (k n : Nat) (h : k + n ≤ l.length) : (fill255 l k n).length = l.length := by simp [fill255]; omega
theorem fill255_zero (l : List (BitVec 8)) (k : Nat) : fill255 l k 0 = l := by simp [fill255]
theorem fill255_succ (l : List (BitVec 8)) (k n : Nat) (h : k + n < l.length) : (fill255 l k n).set (k + n) 255#8 = fill255 l k (n + 1) := by
  unfold fill255
  have h1 : (l.take k).length = k := by simp; omega
  rw [List.append_assoc, List.set_append, if_neg (by omega), h1, List.set_append, if_neg (by simp), List.length_replicate]
  rw [show k + n - k - n = 0 by omega, show l.drop (k + n) = l[k + n] :: l.drop (k + n + 1) from List.drop_eq_getElem_cons h, List.set_cons_zero]
  rw [List.replicate_succ', List.append_assoc, List.append_assoc]; rfl
/-- A flash, made anew. -/
def Fs.new (wear : Int) (b : List (BitVec 8)) : Fs := { b := b, er := fun _ => 0, wear := max 1 (min wear 10000), down := false, fused := false, left := 0, torn := 0, steps := 0 }
end Go.Fl
