/- The reference's hash, by pieces: the same. Plain. -/
import Derived.Test.YtnohdfhhdppflaaShaP
namespace Go.Sha
open Go Go.Vc
set_option linter.unusedVariables false
set_option maxRecDepth 100000
section
attribute [local semireducible] sw1 sw2 words mix rnds takes lenB filled sha sumsN
theorem tr_or (x : D) (n : Nat) : x >>> n ||| x <<< (32 - n) = tr x n := by unfold tr; rw [BitVec.or_comm]
theorem choice_x (e a b : D) : e &&& a ^^^ ~~~e &&& b = e &&& a ||| ~~~e &&& b := by
  apply BitVec.eq_of_getLsbD_eq
  intro i hi
  simp only [BitVec.getLsbD_xor, BitVec.getLsbD_or, BitVec.getLsbD_and, BitVec.getLsbD_not, hi, decide_true, Bool.true_and]
  cases e.getLsbD i <;> cases a.getLsbD i <;> cases b.getLsbD i <;> rfl
theorem most_x (a b c : D) : a &&& b ^^^ a &&& c ^^^ b &&& c = a &&& b ||| a &&& c ||| b &&& c := by
  apply BitVec.eq_of_getLsbD_eq
  intro i hi
  simp only [BitVec.getLsbD_xor, BitVec.getLsbD_or, BitVec.getLsbD_and]
  cases a.getLsbD i <;> cases b.getLsbD i <;> cases c.getLsbD i <;> rfl
theorem add4 (a b c d : D) : a + b + c + d = d + c + b + a := by
  rw [BitVec.add_comm (a + b + c) d, BitVec.add_comm (a + b) c, BitVec.add_comm a b, ← BitVec.add_assoc, ← BitVec.add_assoc]
/-- A number out of bytes. -/
def num (n : D) (xs : List B) : D := xs.foldl (fun n x => n <<< 8 ||| BitVec.ofNat 32 x.toNat) n
theorem set_set' (w : List D) (i : Nat) (a b : D) : (w.set i a).set i b = w.set i b := by simp
theorem getD_set_self (w : List D) (i : Nat) (a : D) (h : i < w.length) : (w.set i a).getD i 0 = a := by
  rw [List.getD_eq_getElem?_getD, List.getElem?_set, if_pos rfl, if_pos h]; rfl
theorem sw1_four (w : List D) (i : Nat) (hi : i < w.length) (a b c d : B) (rest : List B) : sw1 w (4 * i) (a :: b :: c :: d :: rest) = sw1 (w.set i (num (w.getD i 0) [a, b, c, d])) (4 * (i + 1)) rest := by
  simp only [sw1]
  rw [show 4 * i / 4 = i by omega, show (4 * i + 1) / 4 = i by omega, show (4 * i + 1 + 1) / 4 = i by omega, show (4 * i + 1 + 1 + 1) / 4 = i by omega]
  simp only [set_set', getD_set_self w i _ hi]
  rfl
theorem four_of {l : List B} (h : l.length = 4) : ∃ a b c d, l = [a, b, c, d] := by
  match l, h with
  | [a, b, c, d], _ => exact ⟨a, b, c, d, rfl⟩
theorem sw1_take (w : List D) (i : Nat) (hi : i < w.length) (l : List B) (hl : 4 ≤ l.length) : sw1 w (4 * i) l = sw1 (w.set i (num (w.getD i 0) (l.take 4))) (4 * (i + 1)) (l.drop 4) := by
  obtain ⟨a, b, c, d, h⟩ := four_of (l := l.take 4) (by rw [List.length_take]; omega)
  have : l = l.take 4 ++ l.drop 4 := (List.take_append_drop 4 l).symm
  rw [h] at this ⊢
  rw [this]
  exact sw1_four w i hi a b c d (l.drop 4)
theorem add8_step {s x y : List D} {j : Nat} (hy : y.length = 8) (hlt : j < 8) (hall : ∀ k, k < 8 → y.getD k 0 = if k < j then s.getD k 0 + x.getD k 0 else s.getD k 0) :
    ∀ k, k < 8 → (y.set j (y.getD j 0 + x.getD j 0)).getD k 0 = if k < j + 1 then s.getD k 0 + x.getD k 0 else s.getD k 0 := by
  intro k hk
  rw [List.getD_eq_getElem?_getD, List.getElem?_set]
  by_cases hjk : j = k
  · subst hjk
    rw [if_pos rfl, if_pos (by omega), if_pos (by omega), Option.getD_some, hall j hk, if_neg (by omega)]
  · rw [if_neg hjk, ← List.getD_eq_getElem?_getD, hall k hk]
    by_cases h1 : k < j
    · rw [if_pos h1, if_pos (by omega)]
    · rw [if_neg h1, if_neg (by omega)]
theorem be4_len (st : List D) (j : Nat) (h8 : st.length = 8) : ((st.take j).flatMap be4).length ≤ 64 := by
  have h : ∀ l : List D, (l.flatMap be4).length = 4 * l.length := by
    intro l
    induction l with
    | nil => rfl
    | cons a l ih => rw [List.flatMap_cons, List.length_append, ih, List.length_cons]; show 4 + _ = _; omega
  rw [h, List.length_take]; omega
/-- The eight bytes of the length. -/
theorem lenB_four (n : Nat) : be4 (BitVec.ofNat 32 ((BitVec.ofInt 64 (n : Int) * 8#64) >>> 32).toNat) ++ be4 (BitVec.ofNat 32 (BitVec.ofInt 64 (n : Int) * 8#64).toNat) = lenB n := by
  have e : BitVec.ofInt 64 (n : Int) * 8#64 = BitVec.ofInt 64 (n : Int) <<< 3 := by
    apply BitVec.eq_of_toNat_eq
    rw [BitVec.toNat_mul, BitVec.toNat_shiftLeft, Nat.shiftLeft_eq]; rfl
  rw [e]
  have hl : lenB n = [BitVec.ofNat 8 ((BitVec.ofInt 64 (n : Int) <<< 3) >>> 56).toNat, BitVec.ofNat 8 ((BitVec.ofInt 64 (n : Int) <<< 3) >>> 48).toNat, BitVec.ofNat 8 ((BitVec.ofInt 64 (n : Int) <<< 3) >>> 40).toNat, BitVec.ofNat 8 ((BitVec.ofInt 64 (n : Int) <<< 3) >>> 32).toNat,
    BitVec.ofNat 8 ((BitVec.ofInt 64 (n : Int) <<< 3) >>> 24).toNat, BitVec.ofNat 8 ((BitVec.ofInt 64 (n : Int) <<< 3) >>> 16).toNat, BitVec.ofNat 8 ((BitVec.ofInt 64 (n : Int) <<< 3) >>> 8).toNat, BitVec.ofNat 8 ((BitVec.ofInt 64 (n : Int) <<< 3) >>> 0).toNat] := rfl
  rw [hl]
  generalize BitVec.ofInt 64 (n : Int) <<< 3 = S
  have hS := S.isLt
  have hb : ∀ k m : Nat, (k = 0 ∨ k = 8 ∨ k = 16 ∨ k = 24) → m = 32 + k → BitVec.ofNat 8 (BitVec.ofNat 32 (S >>> 32).toNat >>> k).toNat = BitVec.ofNat 8 (S >>> m).toNat := by
    intro k m hk hm
    subst hm
    apply BitVec.eq_of_toNat_eq
    simp only [BitVec.toNat_ofNat, BitVec.toNat_ushiftRight, Nat.shiftRight_eq_div_pow]
    rcases hk with rfl | rfl | rfl | rfl <;> omega
  have hc : ∀ k : Nat, (k = 0 ∨ k = 8 ∨ k = 16 ∨ k = 24) → BitVec.ofNat 8 (BitVec.ofNat 32 S.toNat >>> k).toNat = BitVec.ofNat 8 (S >>> k).toNat := by
    intro k hk
    apply BitVec.eq_of_toNat_eq
    simp only [BitVec.toNat_ofNat, BitVec.toNat_ushiftRight, Nat.shiftRight_eq_div_pow]
    rcases hk with rfl | rfl | rfl | rfl <;> omega
  have z : ∀ x : D, BitVec.ofNat 8 x.toNat = BitVec.ofNat 8 (x >>> 0).toNat := fun x => by simp
  unfold be4
  rw [z (BitVec.ofNat 32 (S >>> 32).toNat), z (BitVec.ofNat 32 S.toNat), hb 24 56 (by omega) rfl, hb 16 48 (by omega) rfl, hb 8 40 (by omega) rfl, hb 0 32 (by omega) rfl, hc 24 (by omega), hc 16 (by omega), hc 8 (by omega), hc 0 (by omega)]
  rfl
end
end Go.Sha
