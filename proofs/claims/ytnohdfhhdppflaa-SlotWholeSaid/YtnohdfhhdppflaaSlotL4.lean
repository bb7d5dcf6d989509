/- The statement SlotWhole, of what is computed. Plain. -/
import Derived.Test.YtnohdfhhdppflaaSlotL3
namespace Go.Fl
open Go Go.Vc
set_option linter.unusedVariables false
set_option maxRecDepth 100000
theorem Fs.Has.keep {s s' : Fs} {w : Nat} (hw : w < 2) {xs : List (BitVec 8)} (h : s.Has (1 - w) xs) (hg : ∀ i, out w i → s'.g i = s.g i) : s'.Has (1 - w) xs := fun j hj => by
  rw [hg _ (by unfold out; omega)]; exact h j hj
theorem whole {b0 : List (BitVec 8)} (hl : 3584 ≤ b0.length) (ht : b0.take 3584 = List.replicate 3584 255#8) (w : Nat) (hw : w < 2) (a b : List (BitVec 8)) (ha1 : 1 ≤ a.length) (ha2 : a.length ≤ 512) (hb1 : 1 ≤ b.length) (hb2 : b.length ≤ 512) (n torn : Int)
    (s1 s2 s4 s7 : Fs) (e1 : s1 = ((Fs.new 10 b0).write ((1 - w : Nat) : Int) a).1) (e2 : s2 = (s1.write w a).1) (e4 : s4 = ((s2.fuse n torn).write w b).1) (e7 : s7 = ((s4.start.fuse (-1) 0).write w b).1) :
    ((Fs.new 10 b0).write ((1 - w : Nat) : Int) a).2 = 0 ∧ 3584 ≤ s1.b.length ∧ (s1.write w a).2 = 0 ∧ 3584 ≤ s2.b.length ∧ (((s2.fuse n torn).write w b).2 = 0 ∨ ((s2.fuse n torn).write w b).2 = 11) ∧ 3584 ≤ s4.b.length ∧
    ((s4.start.fuse (-1) 0).write w b).2 = 0 ∧ 3584 ≤ s7.b.length ∧ s7.sRead w b.length = (b, 0) ∧ s7.sRead ((1 - w : Nat) : Int) a.length = (a, 0) ∧ s7.right w (slotOf 1 b) = true := by
  have o0 := Fs.new_ok (wear := 10) hl
  have g0 : ∀ i, i < 3584 → (Fs.new 10 b0).g i = 255#8 := fun i hi => Fs.new_g ht hi
  have bl : ∀ k, k < 14 → (Fs.new 10 b0).Blank k := fun k hk i hi => g0 _ (by omega)
  have hw' : 1 - w < 2 := by omega
  obtain ⟨p1, p2, p3, p4, _, _, p5, p6, p7, p8⟩ := Fs.write_ok o0 (1 - w) hw' a ha1 ha2 (.inl (bl _ (by omega))) (.inl (bl _ (by omega)))
  rw [← e1] at p2 p3 p4 p5 p6 p7 p8
  have er1 : ∀ k, s1.er k = 0 := by
    intro k
    by_cases hk0 : k = 2 + (1 - w) * 2
    · subst hk0; exact p5 (bl _ (by omega))
    · by_cases hk1 : k = 2 + (1 - w) * 2 + 1
      · subst hk1; exact p6 (bl _ (by omega))
      · exact p4 k hk0 hk1
  have w1 : s1.wear = 10 := p3
  have bl1 : ∀ j, j < 2 → s1.Blank (2 + w * 2 + j) := fun j hj i hi => by rw [p8 _ (by unfold out; omega)]; exact g0 _ (by omega)
  obtain ⟨q1, q2, q3, q4, _, _, q5, q6, q7, q8⟩ := Fs.write_ok p2 w hw a ha1 ha2 (.inl (bl1 0 (by omega))) (.inl (bl1 1 (by omega)))
  rw [← e2] at q2 q3 q4 q5 q6 q7 q8
  have er2 : ∀ k, s2.er k = 0 := by
    intro k
    by_cases hk0 : k = 2 + w * 2
    · subst hk0; exact (q5 (bl1 0 (by omega))).trans (er1 _)
    · by_cases hk1 : k = 2 + w * 2 + 1
      · subst hk1; exact (q6 (bl1 1 (by omega))).trans (er1 _)
      · exact (q4 k hk0 hk1).trans (er1 _)
  have w2 : s2.wear = 10 := q3.trans w1
  obtain ⟨r1, r2, r3, r4, r5⟩ := Fs.write_any (s := s2.fuse n torn) q2.down q2.len w hw b hb1 hb2 (fun k => by
    show 0 ≤ s2.er k ∧ s2.er k + 1 < s2.wear ∧ s2.wear ≤ 10000
    rw [er2, w2]; decide)
  rw [← e4] at r2 r3 r4 r5
  have er4 : ∀ k, s4.er k < 10 := fun k => by
    have h : s4.er k = s2.er k ∨ s4.er k = s2.er k + 1 := r4 k
    rw [er2] at h; omega
  have w4 : s4.wear = 10 := r2.trans w2
  have l4 : 3584 ≤ s4.b.length := by have := q2.len; have h : s4.b.length = s2.b.length := r3; omega
  have o6 : (s4.start.fuse (-1) 0).Ok := ⟨l4, rfl, rfl⟩
  have hE : ∀ k, (s4.start.fuse (-1) 0).er k < (s4.start.fuse (-1) 0).wear := fun k => by
    show s4.er k < s4.wear; rw [w4]; exact er4 k
  obtain ⟨t1, t2, t3, t4, _, _, t5, t6, t7, t8⟩ := Fs.write_ok o6 w hw b hb1 hb2 (.inr (hE _)) (.inr (hE _))
  rw [← e7] at t2 t3 t4 t5 t6 t7 t8
  have h1 : s2.Has (1 - w) a := p7.keep hw q8
  have h2 : s4.Has (1 - w) a := h1.keep hw r5
  have h3 : s7.Has (1 - w) a := Fs.Has.keep (s := s4) hw h2 t8
  have hrd := t7.read t2 hw hb2
  refine ⟨p1, p2.len, q1, q2.len, r1, l4, t1, t2.len, hrd, h3.read t2 hw' ha2, ?_⟩
  have hs : slotOf 1 b = ⟨1, b.length, Sha.sha b⟩ := by
    unfold slotOf; rw [if_pos (by unfold may; rw [decide_eq_true ⟨hb1, hb2⟩])]
  rw [hs]; unfold Fs.right; dsimp only; rw [hrd]; simp; omega
end Go.Fl
