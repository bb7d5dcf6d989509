/- Slots, as the program has them. Plain. -/
import Derived.Test.YtnohdfhhdppflaaShaP
namespace Go.Fl
open Go Go.Vc
set_option linter.unusedVariables false
def may (n : Nat) : Bool := decide (1 ≤ n ∧ n ≤ 512)
def slotNo (slot length : Int) : Prop := (slot ≠ 0 ∧ slot ≠ 1) ∨ length < 0 ∨ 512 < length
instance (slot length : Int) : Decidable (slotNo slot length) := by unfold slotNo; infer_instance
def Fs.sRead (s : Fs) (slot length : Int) : List (BitVec 8) × Int := if slotNo slot length then ([], 1) else s.read ((2 + slot * 2) * 256) length
def Fs.clr (s : Fs) (k : Int) : Fs × Int := if s.blank (k * 256) 256 then (s, 0) else s.erase k
def Fs.clear (s : Fs) (slot : Int) : Fs × Int := if (s.clr (2 + slot * 2 + 0)).2 ≠ 0 then s.clr (2 + slot * 2 + 0) else (s.clr (2 + slot * 2 + 0)).1.clr (2 + slot * 2 + 1)
def Fs.write2 (s : Fs) (slot : Int) (xs : List (BitVec 8)) : Fs × Int :=
  if (s.program ((2 + slot * 2) * 256) xs).2 ≠ 0 then s.program ((2 + slot * 2) * 256) xs
  else ((s.program ((2 + slot * 2) * 256) xs).1, if ((s.program ((2 + slot * 2) * 256) xs).1.sRead slot xs.length).2 = 0 ∧ ((s.program ((2 + slot * 2) * 256) xs).1.sRead slot xs.length).1 ≠ xs then 13 else ((s.program ((2 + slot * 2) * 256) xs).1.sRead slot xs.length).2)
def Fs.write (s : Fs) (slot : Int) (xs : List (BitVec 8)) : Fs × Int :=
  if (slot ≠ 0 ∧ slot ≠ 1) ∨ may xs.length = false then (s, 1)
  else if s.down then (s, 11)
  else if (s.clear slot).2 ≠ 0 then s.clear slot
  else (s.clear slot).1.write2 slot xs
theorem Fs.prog_len (xs : List (BitVec 8)) : ∀ (s : Fs) (k : Nat), (s.prog k xs).1.b.length = s.b.length := by
  induction xs with
  | nil => intro s k; rfl
  | cons x xs ih =>
    intro s k
    unfold Fs.prog
    split
    · simp [Fs.stepS_b]
    · rw [ih]; simp [Fs.stepS_b]
theorem Fs.program_len (s : Fs) (at_ : Int) (xs : List (BitVec 8)) : (s.program at_ xs).1.b.length = s.b.length := by
  unfold Fs.program; split
  · exact Fs.prog_len ..
  · rfl
theorem Fs.erase_len (s : Fs) (hb : 3584 ≤ s.b.length) (k : Int) : (s.erase k).1.b.length = s.b.length := by
  unfold Fs.erase; split
  · rfl
  · split
    · rfl
    · split
      · rfl
      · have := s.eraseN_le
        show (fill255 s.stepS.b (k.toNat * 256) s.eraseN).length = _
        rw [fill255_len _ _ _ (by rw [Fs.stepS_b]; omega), Fs.stepS_b]
theorem Fs.clr_len (s : Fs) (hb : 3584 ≤ s.b.length) (k : Int) : (s.clr k).1.b.length = s.b.length := by
  unfold Fs.clr; split
  · rfl
  · exact s.erase_len hb k
theorem Fs.clear_len (s : Fs) (hb : 3584 ≤ s.b.length) (k : Int) : (s.clear k).1.b.length = s.b.length := by
  have h1 := s.clr_len hb (2 + k * 2 + 0)
  unfold Fs.clear; split
  · exact h1
  · rw [Fs.clr_len _ (by omega), h1]
theorem Fs.write_len (s : Fs) (hb : 3584 ≤ s.b.length) (k : Int) (xs : List (BitVec 8)) : (s.write k xs).1.b.length = s.b.length := by
  have h1 := s.clear_len hb k
  unfold Fs.write; split
  · rfl
  · split
    · rfl
    · split
      · exact h1
      · unfold Fs.write2; split
        · rw [Fs.program_len]; exact h1
        · show (Fs.program _ _ _).1.b.length = _
          rw [Fs.program_len]; exact h1
theorem Fs.sRead_len (s : Fs) (slot n : Int) : (s.sRead slot n).1.length ≤ 3584 := by
  unfold Fs.sRead; split
  · simp
  · exact s.read_len ..
def clrInv (s : Fs) (slot : Int) (i : Nat) (st : Fs) : Prop := (i = 0 → st = s) ∧ (i = 1 → (s.clr (2 + slot * 2 + 0)).2 = 0 ∧ st = (s.clr (2 + slot * 2 + 0)).1) ∧ (i = 2 → s.clear slot = (st, 0))
theorem clrInv_succ {s st : Fs} {slot : Int} {i : Nat} (h : clrInv s slot i st) (hi : i < 2) (h0 : (st.clr (2 + slot * 2 + (i : Int))).2 = 0) : clrInv s slot (i + 1) (st.clr (2 + slot * 2 + (i : Int))).1 := by
  obtain ⟨a, b, c⟩ := h
  have : i = 0 ∨ i = 1 := by omega
  rcases this with rfl | rfl
  · obtain rfl := a rfl
    exact ⟨by intro h; omega, fun _ => ⟨h0, rfl⟩, by intro h; omega⟩
  · obtain ⟨b1, rfl⟩ := b rfl
    refine ⟨by intro h; omega, by intro h; omega, fun _ => ?_⟩
    unfold Fs.clear
    rw [if_neg (Decidable.not_not.2 b1)]
    exact Prod.ext rfl h0
theorem clrInv_stop {s st : Fs} {slot : Int} {i : Nat} (h : clrInv s slot i st) (hi : i < 2) (h0 : (st.clr (2 + slot * 2 + (i : Int))).2 ≠ 0) : s.clear slot = st.clr (2 + slot * 2 + (i : Int)) := by
  obtain ⟨a, b, c⟩ := h
  have : i = 0 ∨ i = 1 := by omega
  rcases this with rfl | rfl
  · obtain rfl := a rfl
    exact if_pos h0
  · obtain ⟨b1, rfl⟩ := b rfl
    unfold Fs.clear
    rw [if_neg (Decidable.not_not.2 b1)]; rfl
structure SlotR where
  ver : Int
  len : Int
  hash : List (BitVec 8)
def slotOf (ver : Int) (xs : List (BitVec 8)) : SlotR := if may xs.length then ⟨ver, xs.length, Sha.sha xs⟩ else ⟨0, 0, []⟩
def SlotR.V (r : SlotR) (hv : Value) : Value := .agg #[.int .u32 r.ver, .int .i64 r.len, hv]
def Fs.right (s : Fs) (slot : Int) (r : SlotR) : Bool := decide (1 ≤ r.len) && (decide ((s.sRead slot r.len).2 = 0) && decide (Sha.sha (s.sRead slot r.len).1 = r.hash))
end Go.Fl
