/- The hash, as the program computes it. Plain. -/
import Derived.Test.YtnohdfhhdppflaaFlashP
namespace Go.Sha
open Go Go.Vc
set_option linter.unusedVariables false
abbrev B := BitVec 8
abbrev D := BitVec 32
def tr (x : D) (n : Nat) : D := x <<< (32 - n) ||| x >>> n
def K256 : List D := [BitVec.ofNat 32 1116352408, BitVec.ofNat 32 1899447441, BitVec.ofNat 32 3049323471, BitVec.ofNat 32 3921009573, BitVec.ofNat 32 961987163, BitVec.ofNat 32 1508970993, BitVec.ofNat 32 2453635748, BitVec.ofNat 32 2870763221, BitVec.ofNat 32 3624381080, BitVec.ofNat 32 310598401, BitVec.ofNat 32 607225278, BitVec.ofNat 32 1426881987, BitVec.ofNat 32 1925078388, BitVec.ofNat 32 2162078206, BitVec.ofNat 32 2614888103, BitVec.ofNat 32 3248222580, BitVec.ofNat 32 3835390401, BitVec.ofNat 32 4022224774, BitVec.ofNat 32 264347078, BitVec.ofNat 32 604807628, BitVec.ofNat 32 770255983, BitVec.ofNat 32 1249150122, BitVec.ofNat 32 1555081692, BitVec.ofNat 32 1996064986, BitVec.ofNat 32 2554220882, BitVec.ofNat 32 2821834349, BitVec.ofNat 32 2952996808, BitVec.ofNat 32 3210313671, BitVec.ofNat 32 3336571891, BitVec.ofNat 32 3584528711, BitVec.ofNat 32 113926993, BitVec.ofNat 32 338241895, BitVec.ofNat 32 666307205, BitVec.ofNat 32 773529912, BitVec.ofNat 32 1294757372, BitVec.ofNat 32 1396182291, BitVec.ofNat 32 1695183700, BitVec.ofNat 32 1986661051, BitVec.ofNat 32 2177026350, BitVec.ofNat 32 2456956037, BitVec.ofNat 32 2730485921, BitVec.ofNat 32 2820302411, BitVec.ofNat 32 3259730800, BitVec.ofNat 32 3345764771, BitVec.ofNat 32 3516065817, BitVec.ofNat 32 3600352804, BitVec.ofNat 32 4094571909, BitVec.ofNat 32 275423344, BitVec.ofNat 32 430227734, BitVec.ofNat 32 506948616, BitVec.ofNat 32 659060556, BitVec.ofNat 32 883997877, BitVec.ofNat 32 958139571, BitVec.ofNat 32 1322822218, BitVec.ofNat 32 1537002063, BitVec.ofNat 32 1747873779, BitVec.ofNat 32 1955562222, BitVec.ofNat 32 2024104815, BitVec.ofNat 32 2227730452, BitVec.ofNat 32 2361852424, BitVec.ofNat 32 2428436474, BitVec.ofNat 32 2756734187, BitVec.ofNat 32 3204031479, BitVec.ofNat 32 3329325298]
def H0 : List D := [BitVec.ofNat 32 1779033703, BitVec.ofNat 32 3144134277, BitVec.ofNat 32 1013904242, BitVec.ofNat 32 2773480762, BitVec.ofNat 32 1359893119, BitVec.ofNat 32 2600822924, BitVec.ofNat 32 528734635, BitVec.ofNat 32 1541459225]
def sw1 (w : List D) (i : Nat) : List B → List D
  | [] => w
  | c :: cs => sw1 (w.set (i / 4) ((w.getD (i / 4) 0) <<< 8 ||| BitVec.ofNat 32 c.toNat)) (i + 1) cs
def mix (w : List D) (i : Nat) : D :=
  (tr (w.getD (i - 2) 0) 17 ^^^ tr (w.getD (i - 2) 0) 19 ^^^ w.getD (i - 2) 0 >>> 10) + w.getD (i - 7) 0 + (tr (w.getD (i - 15) 0) 7 ^^^ tr (w.getD (i - 15) 0) 18 ^^^ w.getD (i - 15) 0 >>> 3) + w.getD (i - 16) 0
def sw2 (w : List D) (i : Nat) : Nat → List D
  | 0 => w
  | f + 1 => sw2 (w.set i (mix w i)) (i + 1) f
def words (b : List B) : List D := sw2 (sw1 (List.replicate 64 0) 0 b) 16 48
def one (k w e x5 x6 x7 : D) : D := x7 + (tr e 6 ^^^ tr e 11 ^^^ tr e 25) + (e &&& x5 ||| ~~~e &&& x6) + k + w
def two (a x1 x2 : D) : D := (tr a 2 ^^^ tr a 13 ^^^ tr a 22) + (a &&& x1 ||| a &&& x2 ||| x1 &&& x2)
def rnd (k w : D) : List D → List D
  | [a, x1, x2, x3, e, x5, x6, x7] => [one k w e x5 x6 x7 + two a x1 x2, a, x1, x2, x3 + one k w e x5 x6 x7, e, x5, x6]
  | _ => []
def rnds (w : List D) (i : Nat) (x : List D) : Nat → List D
  | 0 => x
  | f + 1 => rnds w (i + 1) (rnd (K256.getD i 0) (w.getD i 0) x) f
def takes (s : List D) (b : List B) : List D := List.zipWith (· + ·) s (rnds (words b) 0 s 64)
def padN (n : Nat) : Nat := (119 - n % 64) % 64
def lenB (n : Nat) : List B := (List.range 8).map fun k => BitVec.ofNat 8 ((BitVec.ofInt 64 n <<< 3) >>> (56 - 8 * k)).toNat
def filled (b : List B) : List B := b ++ [128#8] ++ List.replicate (padN b.length) 0#8 ++ lenB b.length
def sumsN (s : List D) (l : List B) : Nat → List D
  | 0 => s
  | f + 1 => sumsN (takes s (l.take 64)) (l.drop 64) f
def be4 (x : D) : List B := [BitVec.ofNat 8 (x >>> 24).toNat, BitVec.ofNat 8 (x >>> 16).toNat, BitVec.ofNat 8 (x >>> 8).toNat, BitVec.ofNat 8 x.toNat]
def sha (b : List B) : List B := (sumsN H0 (filled b) ((filled b).length / 64)).flatMap be4
theorem getD_ofD {l : List D} {k : Nat} (h : k < l.length) : l[k]? = some (l.getD k 0) := by simp [List.getD, h]
theorem sw1_len (b : List B) : ∀ (w : List D) (i : Nat), (sw1 w i b).length = w.length := by
  induction b with
  | nil => intro w i; rfl
  | cons c cs ih => intro w i; unfold sw1; rw [ih, List.length_set]
theorem sw2_len (f : Nat) : ∀ (w : List D) (i : Nat), (sw2 w i f).length = w.length := by
  induction f with
  | zero => intro w i; rfl
  | succ f ih => intro w i; unfold sw2; rw [ih, List.length_set]
theorem words_len (b : List B) : (words b).length = 64 := by unfold words; rw [sw2_len, sw1_len, List.length_replicate]
theorem len8 {l : List D} (h : l.length = 8) : ∃ a b c d e f g k, l = [a, b, c, d, e, f, g, k] := by
  match l, h with
  | [a, b, c, d, e, f, g, k], _ => exact ⟨a, b, c, d, e, f, g, k, rfl⟩
theorem rnd_len {k w : D} {l : List D} (h : l.length = 8) : (rnd k w l).length = 8 := by
  obtain ⟨a, b, c, d, e, f, g, k, rfl⟩ := len8 h; rfl
theorem rnds_len (w : List D) (f : Nat) : ∀ (i : Nat) (x : List D), x.length = 8 → (rnds w i x f).length = 8 := by
  induction f with
  | zero => intro i x h; exact h
  | succ f ih => intro i x h; exact ih _ _ (rnd_len h)
theorem takes_len {s : List D} {b : List B} (h : s.length = 8) : (takes s b).length = 8 := by
  unfold takes; rw [List.length_zipWith, h, rnds_len _ _ _ _ h]; rfl
theorem sumsN_len (f : Nat) : ∀ (s : List D) (l : List B), s.length = 8 → (sumsN s l f).length = 8 := by
  induction f with
  | zero => intro s l h; exact h
  | succ f ih => intro s l h; exact ih _ _ (takes_len h)
theorem filled_len (b : List B) : (filled b).length = b.length + 1 + padN b.length + 8 := by simp [filled, lenB]; omega
theorem filled_mod (b : List B) : (filled b).length % 64 = 0 := by rw [filled_len]; unfold padN; omega
theorem sha_len (b : List B) : (sha b).length = 32 := by
  unfold sha
  obtain ⟨a, b, c, d, e, f, g, k, h⟩ := len8 (sumsN_len ((filled b).length / 64) H0 (filled b) rfl)
  rw [h]; rfl
theorem tr_amount : ∀ n : Fin 32, 1 ≤ n.1 → (BitVec.ofInt 64 (-(n.1 : Int)) &&& 31#64) = BitVec.ofNat 64 (32 - n.1) ∧ (32#64 - BitVec.ofNat 64 (32 - n.1)).toNat = n.1 := by decide
theorem zip8 {s x y : List D} (hs : s.length = 8) (hx : x.length = 8) (hy : y.length = 8) (h : ∀ k, k < 8 → y.getD k 0 = if k < 8 then s.getD k 0 + x.getD k 0 else s.getD k 0) : y = List.zipWith (· + ·) s x := by
  obtain ⟨a0, a1, a2, a3, a4, a5, a6, a7, rfl⟩ := len8 hs
  obtain ⟨x0, x1, x2, x3, x4, x5, x6, x7, rfl⟩ := len8 hx
  obtain ⟨y0, y1, y2, y3, y4, y5, y6, y7, rfl⟩ := len8 hy
  have e0 : y0 = a0 + x0 := h 0 (by omega)
  have e1 : y1 = a1 + x1 := h 1 (by omega)
  have e2 : y2 = a2 + x2 := h 2 (by omega)
  have e3 : y3 = a3 + x3 := h 3 (by omega)
  have e4 : y4 = a4 + x4 := h 4 (by omega)
  have e5 : y5 = a5 + x5 := h 5 (by omega)
  have e6 : y6 = a6 + x6 := h 6 (by omega)
  have e7 : y7 = a7 + x7 := h 7 (by omega)
  subst e0 e1 e2 e3 e4 e5 e6 e7
  rfl
theorem lenB_get {n k : Nat} (h : k < 8) : (lenB n).take (k + 1) = (lenB n).take k ++ [BitVec.ofNat 8 ((BitVec.ofInt 64 n <<< 3) >>> ((56 : Int) - 8 * (k : Int)).toNat).toNat] := by
  have hl : (lenB n).length = 8 := by simp [lenB]
  rw [List.take_succ_eq_append_getElem (by omega)]
  congr 2
  simp only [lenB, List.getElem_map, List.getElem_range]
  rw [show ((56 : Int) - 8 * (k : Int)).toNat = 56 - 8 * k by omega]
theorem lenB_len (n : Nat) : (lenB n).length = 8 := by simp [lenB]
theorem padN_le (n : Nat) : padN n < 64 := by unfold padN; omega
theorem padN_mod (n j : Nat) (h : j ≤ padN n) : (n + 1 + j) % 64 = 56 ↔ j = padN n := by unfold padN at *; omega
theorem be4_take {st : List D} {j : Nat} (h : j < st.length) : (st.take (j + 1)).flatMap be4 = (st.take j).flatMap be4 ++ be4 (st.getD j 0) := by
  rw [List.take_succ_eq_append_getElem h, List.flatMap_append]
  simp [List.getD, h]
theorem sumsN_step {st : List D} {l : List B} {f : Nat} (h : 0 < f) : sumsN st l f = sumsN (takes st (l.take 64)) (l.drop 64) (f - 1) := by
  cases f with
  | zero => omega
  | succ f => rfl
theorem sumsN_zero {st : List D} {l : List B} {f : Nat} (h : f = 0) : sumsN st l f = st := by subst h; rfl
theorem K256_len : K256.length = 64 := rfl
theorem H0_len : H0.length = 8 := rfl
attribute [irreducible] words rnds takes sumsN sw1 sw2 filled lenB sha padN mix K256 H0
end Go.Sha
