/- Writing a slot: what comes of it. Plain. -/
import Derived.Test.YtnohdfhhdppflaaSlotL
namespace Go.Fl
open Go Go.Vc
set_option linter.unusedVariables false
set_option maxRecDepth 100000
/-- What a slot holds: bytes, and blank ones behind them. -/
def Fs.Has (s : Fs) (w : Nat) (xs : List (BitVec 8)) : Prop := ∀ j, j < 512 → s.g ((2 + w * 2) * 256 + j) = if j < xs.length then xs.getD j 0 else 255#8
def out (w i : Nat) : Prop := i < (2 + w * 2) * 256 ∨ (2 + w * 2) * 256 + 512 ≤ i
theorem in1 {w i : Nat} (h : (2 + w * 2 + 1) * 256 ≤ i ∧ i < (2 + w * 2 + 1) * 256 + 256) : (2 + w * 2) * 256 ≤ i ∧ i < (2 + w * 2) * 256 + 512 := by omega
theorem in0 {w i : Nat} (h : (2 + w * 2) * 256 ≤ i ∧ i < (2 + w * 2) * 256 + 256) : (2 + w * 2) * 256 ≤ i ∧ i < (2 + w * 2) * 256 + 512 := by omega
theorem in2 {w i : Nat} (h1 : ¬ ((2 + w * 2 + 1) * 256 ≤ i ∧ i < (2 + w * 2 + 1) * 256 + 256)) (h : ¬ ((2 + w * 2) * 256 ≤ i ∧ i < (2 + w * 2) * 256 + 256)) : ¬ ((2 + w * 2) * 256 ≤ i ∧ i < (2 + w * 2) * 256 + 512) := by omega
theorem Fs.clear_ok {s : Fs} (h : s.Ok) (w : Nat) (hw : w < 2) (h0 : s.Blank (2 + w * 2) ∨ s.er (2 + w * 2) < s.wear) (h1 : s.Blank (2 + w * 2 + 1) ∨ s.er (2 + w * 2 + 1) < s.wear) :
    (s.clear w).2 = 0 ∧ (s.clear w).1.Ok ∧ (s.clear w).1.wear = s.wear ∧ (∀ j, j ≠ 2 + w * 2 → j ≠ 2 + w * 2 + 1 → (s.clear w).1.er j = s.er j) ∧
    (¬ s.Blank (2 + w * 2) → (s.clear w).1.er (2 + w * 2) = w64 (s.er (2 + w * 2) + 1)) ∧
    (¬ s.Blank (2 + w * 2 + 1) → (s.clear w).1.er (2 + w * 2 + 1) = w64 (s.er (2 + w * 2 + 1) + 1)) ∧
    (s.Blank (2 + w * 2) → (s.clear w).1.er (2 + w * 2) = s.er (2 + w * 2)) ∧
    (s.Blank (2 + w * 2 + 1) → (s.clear w).1.er (2 + w * 2 + 1) = s.er (2 + w * 2 + 1)) ∧
    ∀ i, (s.clear w).1.g i = if (2 + w * 2) * 256 ≤ i ∧ i < (2 + w * 2) * 256 + 512 then 255#8 else s.g i := by
  obtain ⟨a1, a2, a3, a4, ⟨a5, a5'⟩, a6⟩ := s.clr_ok h (2 + w * 2) (by omega) h0
  have hb1 : (s.clr (2 + w * 2 : Nat)).1.Blank (2 + w * 2 + 1) ↔ s.Blank (2 + w * 2 + 1) := by
    unfold Fs.Blank
    constructor
    · intro hh i hi; have := hh i hi; rwa [a6, if_neg (by omega)] at this
    · intro hh i hi; rw [a6, if_neg (by omega)]; exact hh i hi
  have he1 : (s.clr (2 + w * 2 : Nat)).1.er (2 + w * 2 + 1) = s.er (2 + w * 2 + 1) := a4 _ (by omega)
  obtain ⟨c1, c2, c3, c4, ⟨c5, c5'⟩, c6⟩ := Fs.clr_ok a2 (2 + w * 2 + 1) (by omega) (by rw [hb1, he1, a3]; exact h1)
  have hc : s.clear (w : Int) = (s.clr (2 + w * 2 : Nat)).1.clr (2 + w * 2 + 1 : Nat) := by
    unfold Fs.clear
    have e : (2 + (w : Int) * 2 + 0) = ((2 + w * 2 : Nat) : Int) := by omega
    have e' : (2 + (w : Int) * 2 + 1) = ((2 + w * 2 + 1 : Nat) : Int) := by omega
    rw [e, e', if_neg (by rw [a1]; decide)]
  rw [hc]
  refine ⟨c1, c2, c3.trans a3, fun j h1 h2 => (c4 j h2).trans (a4 j h1), fun hn => (c4 _ (by omega)).trans (a5 hn), fun hn => ?_, fun hb => ?_, fun hb => ?_, fun i => ?_⟩
  · rw [c5 (fun hh => hn (hb1.1 hh)), he1]
  · rw [c4 _ (by omega), a5' hb]
  · rw [c5' (hb1.2 hb)]; exact he1
  · rw [c6 i]
    by_cases hi1 : (2 + w * 2 + 1) * 256 ≤ i ∧ i < (2 + w * 2 + 1) * 256 + 256
    · rw [if_pos hi1, if_pos (in1 hi1)]
    · rw [if_neg hi1, a6 i]
      by_cases hi0 : (2 + w * 2) * 256 ≤ i ∧ i < (2 + w * 2) * 256 + 256
      · rw [if_pos hi0, if_pos (in0 hi0)]
      · rw [if_neg hi0, if_neg (in2 hi1 hi0)]
theorem Fs.sRead_has {s : Fs} (h : s.Ok) (w : Nat) (hw : w < 2) (xs : List (BitVec 8)) (hl : xs.length ≤ 512) (hH : ∀ j, j < xs.length → s.g ((2 + w * 2) * 256 + j) = xs.getD j 0) : s.sRead w xs.length = (xs, 0) := by
  unfold Fs.sRead
  rw [if_neg (by unfold slotNo; omega)]
  have e : (2 + (w : Int) * 2) * 256 = (((2 + w * 2) * 256 : Nat) : Int) := by omega
  rw [e, s.read_ok h _ _ (by omega), s.bs_eq h.len (by omega) hH]
theorem Fs.Has.read {s : Fs} {w : Nat} {xs : List (BitVec 8)} (hH : s.Has w xs) (h : s.Ok) (hw : w < 2) (hl : xs.length ≤ 512) : s.sRead w xs.length = (xs, 0) :=
  s.sRead_has h w hw xs hl (fun j hj => by rw [hH j (by omega), if_pos hj])
theorem and255 (x : BitVec 8) : 255#8 &&& x = x := by show BitVec.allOnes 8 &&& x = x; exact BitVec.allOnes_and
theorem Fs.write_ok {s : Fs} (h : s.Ok) (w : Nat) (hw : w < 2) (xs : List (BitVec 8)) (hx1 : 1 ≤ xs.length) (hx2 : xs.length ≤ 512) (h0 : s.Blank (2 + w * 2) ∨ s.er (2 + w * 2) < s.wear) (h1 : s.Blank (2 + w * 2 + 1) ∨ s.er (2 + w * 2 + 1) < s.wear) :
    (s.write w xs).2 = 0 ∧ (s.write w xs).1.Ok ∧ (s.write w xs).1.wear = s.wear ∧ (∀ j, j ≠ 2 + w * 2 → j ≠ 2 + w * 2 + 1 → (s.write w xs).1.er j = s.er j) ∧
    (¬ s.Blank (2 + w * 2) → (s.write w xs).1.er (2 + w * 2) = w64 (s.er (2 + w * 2) + 1)) ∧
    (¬ s.Blank (2 + w * 2 + 1) → (s.write w xs).1.er (2 + w * 2 + 1) = w64 (s.er (2 + w * 2 + 1) + 1)) ∧
    (s.Blank (2 + w * 2) → (s.write w xs).1.er (2 + w * 2) = s.er (2 + w * 2)) ∧
    (s.Blank (2 + w * 2 + 1) → (s.write w xs).1.er (2 + w * 2 + 1) = s.er (2 + w * 2 + 1)) ∧
    (s.write w xs).1.Has w xs ∧ ∀ i, out w i → (s.write w xs).1.g i = s.g i := by
  obtain ⟨a1, a2, a3, a4, a5, a6, a7, a7', a8⟩ := s.clear_ok h w hw h0 h1
  have e : (2 + (w : Int) * 2) * 256 = (((2 + w * 2) * 256 : Nat) : Int) := by omega
  obtain ⟨p1, p2, p3, p4, p5⟩ := Fs.program_ok a2 ((2 + w * 2) * 256) xs (by omega)
  have hH : ((s.clear w).1.program (((2 + w * 2) * 256 : Nat) : Int) xs).1.Has w xs := by
    intro j hj
    rw [p5, a8, if_pos (show (2 + w * 2) * 256 ≤ (2 + w * 2) * 256 + j ∧ (2 + w * 2) * 256 + j < (2 + w * 2) * 256 + 512 by omega)]
    by_cases hjx : j < xs.length
    · rw [if_pos (by omega), if_pos hjx, and255, show (2 + w * 2) * 256 + j - (2 + w * 2) * 256 = j by omega]
    · rw [if_neg (by omega), if_neg hjx]
  have hrd := hH.read p2 hw hx2
  have hwr : s.write w xs = (((s.clear w).1.program (((2 + w * 2) * 256 : Nat) : Int) xs).1, 0) := by
    unfold Fs.write
    rw [if_neg (by have : may xs.length = true := by { unfold may; rw [decide_eq_true ⟨hx1, hx2⟩] }; rw [this]; simp; omega), if_neg (by simp [h.down]), if_neg (by rw [a1]; decide)]
    unfold Fs.write2
    rw [e, if_neg (by rw [p1]; decide), hrd]
    simp
  rw [hwr]
  refine ⟨rfl, p2, p4.trans a3, fun j h1 h2 => by dsimp only; rw [p3]; exact a4 j h1 h2, fun hn => by dsimp only; rw [p3]; exact a5 hn, fun hn => by dsimp only; rw [p3]; exact a6 hn, fun hn => by dsimp only; rw [p3]; exact a7 hn, fun hn => by dsimp only; rw [p3]; exact a7' hn, hH, fun i hi => ?_⟩
  dsimp only
  unfold out at hi
  rw [p5, if_neg (by omega), a8, if_neg (by omega)]
theorem Fs.write_worn0 {s : Fs} (h : s.Ok) (w : Nat) (hw : w < 2) (xs : List (BitVec 8)) (hx1 : 1 ≤ xs.length) (hx2 : xs.length ≤ 512) (hb : ¬ s.Blank (2 + w * 2)) (he : s.wear ≤ s.er (2 + w * 2)) : s.write w xs = (s, 10) := by
  have hc := s.clr_worn h (2 + w * 2) (by omega) hb he
  have hcl : s.clear (w : Int) = (s, 10) := by
    unfold Fs.clear
    rw [show (2 + (w : Int) * 2 + 0) = ((2 + w * 2 : Nat) : Int) by omega, hc]; rfl
  unfold Fs.write
  rw [if_neg (by have : may xs.length = true := by { unfold may; rw [decide_eq_true ⟨hx1, hx2⟩] }; rw [this]; simp; omega), if_neg (by simp [h.down]), hcl]; rfl
theorem Fs.write_worn1 {s : Fs} (h : s.Ok) (w : Nat) (hw : w < 2) (xs : List (BitVec 8)) (hx1 : 1 ≤ xs.length) (hx2 : xs.length ≤ 512) (hb0 : s.Blank (2 + w * 2)) (hb : ¬ s.Blank (2 + w * 2 + 1)) (he : s.wear ≤ s.er (2 + w * 2 + 1)) : s.write w xs = (s, 10) := by
  obtain ⟨a1, a2, a3, a4, ⟨a5, a5'⟩, a6⟩ := s.clr_ok h (2 + w * 2) (by omega) (.inl hb0)
  have hc := s.clr_worn h (2 + w * 2 + 1) (by omega) hb he
  have hcl : s.clear (w : Int) = (s, 10) := by
    unfold Fs.clear
    rw [show (2 + (w : Int) * 2 + 0) = ((2 + w * 2 : Nat) : Int) by omega, show (2 + (w : Int) * 2 + 1) = ((2 + w * 2 + 1 : Nat) : Int) by omega, if_neg (by rw [a1]; decide), a5' hb0, hc]
  unfold Fs.write
  rw [if_neg (by have : may xs.length = true := by { unfold may; rw [decide_eq_true ⟨hx1, hx2⟩] }; rw [this]; simp; omega), if_neg (by simp [h.down]), hcl]; rfl
/-- Written again, where the first sector needs no erasing or cannot be erased: the bytes stay. -/
theorem Fs.write_same {s : Fs} (h : s.Ok) (w : Nat) (hw : w < 2) (xs : List (BitVec 8)) (hx1 : 1 ≤ xs.length) (hx2 : xs.length ≤ 512) (hH : s.Has w xs) (h0 : s.Blank (2 + w * 2) ∨ s.wear ≤ s.er (2 + w * 2)) :
    (s.write w xs).1.Ok ∧ (s.write w xs).1.wear = s.wear ∧ (∀ j, j ≠ 2 + w * 2 → j ≠ 2 + w * 2 + 1 → (s.write w xs).1.er j = s.er j) ∧ (s.write w xs).1.Has w xs ∧ (∀ i, out w i → (s.write w xs).1.g i = s.g i) ∧
    (¬ s.Blank (2 + w * 2) → (s.write w xs).2 = 10) := by
  by_cases hb0 : s.Blank (2 + w * 2)
  · by_cases hb1 : s.Blank (2 + w * 2 + 1) ∨ s.er (2 + w * 2 + 1) < s.wear
    · obtain ⟨a1, a2, a3, a4, a5, a6, a7, a7', a8, a9⟩ := s.write_ok h w hw xs hx1 hx2 (.inl hb0) hb1
      exact ⟨a2, a3, a4, a8, a9, fun hh => absurd hb0 hh⟩
    · rw [s.write_worn1 h w hw xs hx1 hx2 hb0 (fun hh => hb1 (.inl hh)) (by have : ¬ s.er (2 + w * 2 + 1) < s.wear := fun hh => hb1 (.inr hh); omega)]
      exact ⟨h, rfl, fun _ _ _ => rfl, hH, fun _ _ => rfl, fun hh => absurd hb0 hh⟩
  · rw [s.write_worn0 h w hw xs hx1 hx2 hb0 (by rcases h0 with h | h; exact absurd h hb0; exact h)]
    exact ⟨h, rfl, fun _ _ _ => rfl, hH, fun _ _ => rfl, fun _ => rfl⟩
theorem Fs.new_ok {wear : Int} {b : List (BitVec 8)} (hl : 3584 ≤ b.length) : (Fs.new wear b).Ok := ⟨hl, rfl, rfl⟩
theorem Fs.new_g {wear : Int} {b : List (BitVec 8)} (ht : b.take 3584 = List.replicate 3584 255#8) {i : Nat} (hi : i < 3584) : (Fs.new wear b).g i = 255#8 := by
  show b.getD i 0 = _
  have : (b.take 3584)[i]? = some 255#8 := by rw [ht, List.getElem?_replicate, if_pos hi]
  rw [List.getElem?_take, if_pos hi] at this
  rw [List.getD_eq_getElem?_getD, this]; rfl
/-- The statement SlotApart, of what is computed. -/
theorem apart {b0 : List (BitVec 8)} (hl : 3584 ≤ b0.length) (ht : b0.take 3584 = List.replicate 3584 255#8) (w : Nat) (hw : w < 2) (a b : List (BitVec 8)) (ha1 : 1 ≤ a.length) (ha2 : a.length ≤ 512) (hb1 : 1 ≤ b.length) (hb2 : b.length ≤ 512)
    (s1 s2 s3 s4 s5 : Fs) (e1 : s1 = ((Fs.new 1 b0).write w a).1) (e2 : s2 = (s1.program (((2 + w * 2) * 256 : Nat) : Int) [0#8]).1) (e3 : s3 = (s2.write w b).1) (e4 : s4 = (s3.write w b).1) (e5 : s5 = (s4.write ((1 - w : Nat) : Int) b).1) :
    ((Fs.new 1 b0).write w a).2 = 0 ∧ 3584 ≤ s1.b.length ∧ 3584 ≤ s2.b.length ∧ (s2.write w b).2 = 0 ∧ 3584 ≤ s3.b.length ∧ 3584 ≤ s4.b.length ∧ s4.sRead w b.length = (b, 0) ∧ (((b.take 256).all fun x => decide (x = 255#8)) = false → (s3.write w b).2 = 10) ∧
    (s4.write ((1 - w : Nat) : Int) b).2 = 0 ∧ 3584 ≤ s5.b.length ∧ ∀ k, k < 14 → k / 2 ≠ (2 + 2 * (1 - w)) / 2 → (s5.bs.drop (k * 256)).take 256 = (s4.bs.drop (k * 256)).take 256 := by
  have o0 := Fs.new_ok (wear := 1) hl
  have g0 : ∀ i, i < 3584 → (Fs.new 1 b0).g i = 255#8 := fun i hi => Fs.new_g ht hi
  have bl : ∀ k, k < 14 → (Fs.new 1 b0).Blank k := fun k hk i hi => g0 _ (by omega)
  obtain ⟨p1, p2, p3, p4, _, _, p5, p6, p7, p8⟩ := Fs.write_ok o0 w hw a ha1 ha2 (.inl (bl _ (by omega))) (.inl (bl _ (by omega)))
  rw [← e1] at p2 p3 p4 p5 p6 p7 p8
  have w1 : s1.wear = 1 := p3
  have er1 : ∀ k, s1.er k = 0 := by
    intro k
    by_cases hk0 : k = 2 + w * 2
    · subst hk0; exact p5 (bl _ (by omega))
    · by_cases hk1 : k = 2 + w * 2 + 1
      · subst hk1; exact p6 (bl _ (by omega))
      · exact p4 k hk0 hk1
  obtain ⟨q1, q2, q3, q4, q5⟩ := Fs.program_ok p2 ((2 + w * 2) * 256) [0#8] (by simp; omega)
  rw [← e2] at q2 q3 q4 q5
  have nb : ¬ s2.Blank (2 + w * 2) := by
    intro hh
    have := hh 0 (by omega)
    rw [Nat.add_zero, q5, if_pos ⟨Nat.le_refl _, by simp⟩, Nat.sub_self] at this
    simp at this
  obtain ⟨r1, r2, r3, r4, r5, r6, r7, r7', r8, r9⟩ := Fs.write_ok q2 w hw b hb1 hb2 (.inr (by rw [q3, q4, er1, w1]; decide)) (.inr (by rw [q3, q4, er1, w1]; decide))
  rw [← e3] at r2 r3 r4 r5 r6 r7 r7' r8 r9
  have er3 : s3.er (2 + w * 2) = 1 := by rw [r5 nb, q3, er1]; rfl
  have w3 : s3.wear = 1 := by rw [r3, q4, w1]
  obtain ⟨t1, t2, t3, t4, t5, t6⟩ := Fs.write_same r2 w hw b hb1 hb2 r8 (.inr (by rw [w3, er3]; decide))
  rw [← e4] at t1 t2 t3 t4 t5
  have gout : ∀ i, i < 3584 → out w i → s4.g i = 255#8 := by
    intro i hi ho
    rw [t5 i ho, r9 i ho, q5, if_neg (by unfold out at ho; simp only [List.length_singleton]; omega), p8 i ho, g0 i hi]
  have hw' : 1 - w < 2 := by omega
  have bl4 : ∀ j, j < 2 → s4.Blank (2 + (1 - w) * 2 + j) := fun j hj i hi => gout _ (by omega) (by unfold out; omega)
  obtain ⟨u1, u2, u3, u4, u5, u6, u7, u7', u8, u9⟩ := Fs.write_ok t1 (1 - w) hw' b hb1 hb2 (.inl (bl4 0 (by omega))) (.inl (bl4 1 (by omega)))
  rw [← e5] at u2 u9
  refine ⟨p1, p2.len, q2.len, r1, r2.len, t1.len, t4.read t1 hw hb2, fun hall => t6 (fun hbk => ?_), u1, u2.len, fun k hk hne => ?_⟩
  · rw [List.all_eq_false] at hall
    obtain ⟨x, hx, hxn⟩ := hall
    obtain ⟨j, hj, rfl⟩ := List.mem_iff_getElem.1 hx
    rw [List.length_take] at hj
    have h1 := r8 j (by omega)
    rw [if_pos (by omega), hbk j (by omega), List.getD_eq_getElem?_getD, List.getElem?_eq_getElem (by omega)] at h1
    rw [List.getElem_take] at hxn
    simp only [Option.getD_some] at h1
    rw [← h1] at hxn
    simp at hxn
  · apply List.ext_getElem?
    intro j
    by_cases hj : j < 256
    · rw [Fs.bs_get u2.len (by omega) hj, Fs.bs_get t1.len (by omega) hj, u9 _ (by unfold out; omega)]
    · rw [List.getElem?_eq_none (by rw [List.length_take]; omega), List.getElem?_eq_none (by rw [List.length_take]; omega)]
end Go.Fl
