/- Writing a slot while a fuse may blow. Plain. -/
import Derived.Test.YtnohdfhhdppflaaSlotL2
namespace Go.Fl
open Go Go.Vc
set_option linter.unusedVariables false
set_option maxRecDepth 100000
theorem Fs.stepS_er (s : Fs) : s.stepS.er = s.er ∧ s.stepS.wear = s.wear ∧ s.stepS.b = s.b := by
  unfold Fs.stepS; split <;> exact ⟨rfl, rfl, rfl⟩
theorem Fs.stepS_up {s : Fs} (h : s.stepS.down = false) (hd : s.down = false) : s.stepS = s.tick := by
  unfold Fs.stepS at h ⊢
  split at h
  · cases h
  · rename_i hb; rw [if_neg hb]
theorem set_g {s : Fs} {k : Nat} {v : BitVec 8} {i : Nat} (hk : k < s.b.length) : ({ s with b := s.b.set k v } : Fs).g i = if i = k then v else s.g i := by
  show (s.b.set k v).getD i 0 = _
  rw [List.getD_eq_getElem?_getD, List.getElem?_set]
  by_cases hik : k = i
  · subst hik; rw [if_pos rfl, if_pos rfl, if_pos hk]; rfl
  · rw [if_neg hik, if_neg (fun h => hik h.symm), ← List.getD_eq_getElem?_getD]; rfl
/-- Bytes programmed, whatever the fuse: all of them, or power is lost; nothing else is turned. -/
theorem Fs.prog_any (xs : List (BitVec 8)) : ∀ (s : Fs) (k : Nat), s.down = false → k + xs.length ≤ s.b.length →
    (s.prog k xs).1.er = s.er ∧ (s.prog k xs).1.wear = s.wear ∧ (s.prog k xs).1.b.length = s.b.length ∧ (∀ i, ¬ (k ≤ i ∧ i < k + xs.length) → (s.prog k xs).1.g i = s.g i) ∧
    (((s.prog k xs).2 = 0 ∧ (s.prog k xs).1.down = false ∧ ∀ i, k ≤ i → i < k + xs.length → (s.prog k xs).1.g i = s.g i &&& xs.getD (i - k) 0) ∨ ((s.prog k xs).2 = 11 ∧ (s.prog k xs).1.down = true)) := by
  induction xs with
  | nil => intro s k hd hl; exact ⟨rfl, rfl, rfl, fun _ _ => rfl, .inl ⟨rfl, hd, fun i h1 h2 => by rw [List.length_nil] at h2; omega⟩⟩
  | cons x xs ih =>
    intro s k hd hl
    simp only [List.length_cons] at hl
    obtain ⟨e1, e2, e3⟩ := s.stepS_er
    unfold Fs.prog
    cases hst : s.stepS.down with
    | true =>
      rw [if_pos rfl]
      refine ⟨e1, e2, by show (s.stepS.b.set k _).length = _; rw [List.length_set, e3], fun i hi => ?_, .inr ⟨rfl, hst⟩⟩
      rw [set_g (by rw [e3]; omega), if_neg (by simp only [List.length_cons] at hi; omega)]
      show s.stepS.b.getD i 0 = s.b.getD i 0; rw [e3]
    | false =>
      rw [if_neg (by decide)]
      obtain ⟨h1, h2, h3, h4, h5⟩ := ih { s.stepS with b := s.stepS.b.set k (s.stepS.b.getD k 0 &&& x) } (k + 1) hst (by show k + 1 + xs.length ≤ (s.stepS.b.set k _).length; rw [List.length_set, e3]; omega)
      have hg : ∀ i, Fs.g { s.stepS with b := s.stepS.b.set k (s.stepS.b.getD k 0 &&& x) } i = if i = k then s.g k &&& x else s.g i := by
        intro i
        rw [set_g (by rw [e3]; omega)]
        unfold Fs.g; rw [e3]
      refine ⟨h1.trans e1, h2.trans e2, h3.trans (by show (s.stepS.b.set k _).length = _; rw [List.length_set, e3]), fun i hi => ?_, ?_⟩
      · simp only [List.length_cons] at hi
        rw [h4 i (by omega), hg i, if_neg (by omega)]
      · rcases h5 with ⟨a1, a2, a3⟩ | ⟨a1, a2⟩
        · refine .inl ⟨a1, a2, fun i hi1 hi2 => ?_⟩
          simp only [List.length_cons] at hi2
          by_cases hik : i = k
          · subst hik
            rw [h4 i (by omega), hg i, if_pos rfl, Nat.sub_self]; rfl
          · rw [a3 i (by omega) (by omega), hg i, if_neg hik, show i - k = (i - (k + 1)) + 1 by omega]; rfl
        · exact .inr ⟨a1, a2⟩
/-- A sector erased, whatever the fuse. -/
theorem Fs.erase_any {s : Fs} (hd : s.down = false) (hl : 3584 ≤ s.b.length) (k : Nat) (hk : k < 14) (hw : ¬ s.wear ≤ s.er k) :
    (s.erase k).1.wear = s.wear ∧ (s.erase k).1.b.length = s.b.length ∧ (∀ j, (s.erase k).1.er j = if j = k then w64 (s.er k + 1) else s.er j) ∧ (∀ i, ¬ (k * 256 ≤ i ∧ i < k * 256 + 256) → (s.erase k).1.g i = s.g i) ∧
    (((s.erase k).2 = 0 ∧ (s.erase k).1.down = false ∧ ∀ i, k * 256 ≤ i → i < k * 256 + 256 → (s.erase k).1.g i = 255#8) ∨ ((s.erase k).2 = 11 ∧ (s.erase k).1.down = true)) := by
  obtain ⟨e1, e2, e3⟩ := s.stepS_er
  have he : s.erase (k : Int) = (s.erased k, if s.stepS.down then 11 else 0) := by
    unfold Fs.erase
    rw [if_neg (by simp [hd]), if_neg (by omega), Int.toNat_natCast, if_neg hw]
  have hn := s.eraseN_le
  have hb : (s.erased k).b = fill255 s.b (k * 256) s.eraseN := by
    show fill255 s.stepS.b (k * 256) s.eraseN = _
    rw [e3]
  have hg : ∀ i, (s.erased k).g i = if k * 256 ≤ i ∧ i < k * 256 + s.eraseN then 255#8 else s.g i := by
    intro i; show (s.erased k).b.getD i 0 = _; rw [hb, fill255_getD _ _ _ _ (by omega)]; rfl
  rw [he]
  refine ⟨e2, by rw [hb, fill255_len _ _ _ (by omega)], fun j => ?_, fun i hi => ?_, ?_⟩
  · show (if j = k then w64 (s.stepS.er k + 1) else s.stepS.er j) = _; rw [e1]
  · rw [hg i, if_neg (by omega)]
  · cases hst : s.stepS.down with
    | true => exact .inr ⟨rfl, hst⟩
    | false =>
      refine .inl ⟨rfl, hst, fun i h1 h2 => ?_⟩
      rw [hg i, Fs.eraseN_f hst, if_pos ⟨h1, h2⟩]
theorem Fs.blank_up {s : Fs} (hd : s.down = false) (hl : 3584 ≤ s.b.length) (k : Nat) (hk : k < 14) : s.blank ((k : Int) * 256) 256 = true ↔ s.Blank k := by
  have h : Fs.Ok { s with fused := false } := ⟨hl, hd, rfl⟩
  exact Fs.blank_ok h k hk
/-- One sector cleared, whatever the fuse. -/
theorem Fs.clr_any {s : Fs} (hd : s.down = false) (hl : 3584 ≤ s.b.length) (k : Nat) (hk : k < 14) (hw : ¬ s.wear ≤ s.er k) :
    (s.clr k).1.wear = s.wear ∧ (s.clr k).1.b.length = s.b.length ∧ (∀ j, (s.clr k).1.er j = s.er j ∨ (j = k ∧ (s.clr k).1.er j = w64 (s.er k + 1))) ∧ (∀ i, ¬ (k * 256 ≤ i ∧ i < k * 256 + 256) → (s.clr k).1.g i = s.g i) ∧
    (((s.clr k).2 = 0 ∧ (s.clr k).1.down = false ∧ ∀ i, k * 256 ≤ i → i < k * 256 + 256 → (s.clr k).1.g i = 255#8) ∨ ((s.clr k).2 = 11 ∧ (s.clr k).1.down = true)) := by
  unfold Fs.clr
  by_cases hb : s.Blank k
  · rw [if_pos ((s.blank_up hd hl k hk).2 hb)]
    refine ⟨rfl, rfl, fun _ => .inl rfl, fun _ _ => rfl, .inl ⟨rfl, hd, fun i h1 h2 => ?_⟩⟩
    have := hb (i - k * 256) (by omega)
    rwa [show k * 256 + (i - k * 256) = i by omega] at this
  · rw [if_neg (fun hh => hb ((s.blank_up hd hl k hk).1 hh))]
    obtain ⟨h1, h2, h3, h4, h5⟩ := s.erase_any hd hl k hk hw
    refine ⟨h1, h2, fun j => ?_, h4, h5⟩
    rw [h3 j]
    by_cases hj : j = k
    · rw [if_pos hj]; exact .inr ⟨hj, rfl⟩
    · rw [if_neg hj]; exact .inl rfl
/-- A slot written, whatever the fuse: it is told as OK, or power is lost; no sector is erased twice; the other slot stays. -/
theorem Fs.write_any {s : Fs} (hd : s.down = false) (hl : 3584 ≤ s.b.length) (w : Nat) (hw : w < 2) (xs : List (BitVec 8)) (hx1 : 1 ≤ xs.length) (hx2 : xs.length ≤ 512) (hE : ∀ k, 0 ≤ s.er k ∧ s.er k + 1 < s.wear ∧ s.wear ≤ 10000) :
    ((s.write w xs).2 = 0 ∨ (s.write w xs).2 = 11) ∧ (s.write w xs).1.wear = s.wear ∧ (s.write w xs).1.b.length = s.b.length ∧ (∀ k, (s.write w xs).1.er k = s.er k ∨ (s.write w xs).1.er k = s.er k + 1) ∧ ∀ i, out w i → (s.write w xs).1.g i = s.g i := by
  have w64e : ∀ k, w64 (s.er k + 1) = s.er k + 1 := fun k => by have := hE k; exact wrap_i64 (by omega) (by omega)
  have ew : ∀ k : Nat, ¬ s.wear ≤ s.er k := fun k => by have := hE k; omega
  obtain ⟨a1, a2, a3, a4, a5⟩ := s.clr_any hd hl (2 + w * 2) (by omega) (ew _)
  have e0 : (2 + (w : Int) * 2 + 0) = ((2 + w * 2 : Nat) : Int) := by omega
  have e1 : (2 + (w : Int) * 2 + 1) = ((2 + w * 2 + 1 : Nat) : Int) := by omega
  have e2 : (2 + (w : Int) * 2) * 256 = (((2 + w * 2) * 256 : Nat) : Int) := by omega
  have hmay : ¬ ((((w : Int) ≠ 0 ∧ (w : Int) ≠ 1) ∨ may xs.length = false)) := by
    have : may xs.length = true := by unfold may; rw [decide_eq_true ⟨hx1, hx2⟩]
    rw [this]; simp; omega
  unfold Fs.write
  rw [if_neg hmay, if_neg (by simp [hd])]
  rcases a5 with ⟨b1, b2, b3⟩ | ⟨b1, b2⟩
  · have hc : s.clear (w : Int) = (s.clr (2 + w * 2 : Nat)).1.clr (2 + w * 2 + 1 : Nat) := by
      unfold Fs.clear; rw [e0, e1, if_neg (by rw [b1]; decide)]
    have er1 : (s.clr (2 + w * 2 : Nat)).1.er (2 + w * 2 + 1) = s.er (2 + w * 2 + 1) := by
      rcases a3 (2 + w * 2 + 1) with h | ⟨h, _⟩
      · exact h
      · omega
    obtain ⟨c1, c2, c3, c4, c5⟩ := Fs.clr_any b2 (by rw [a2]; exact hl) (2 + w * 2 + 1) (by omega) (by rw [a1, er1]; exact ew _)
    have er2 : ∀ k, ((s.clr (2 + w * 2 : Nat)).1.clr (2 + w * 2 + 1 : Nat)).1.er k = s.er k ∨ ((s.clr (2 + w * 2 : Nat)).1.clr (2 + w * 2 + 1 : Nat)).1.er k = s.er k + 1 := by
      intro k
      rcases c3 k with h | ⟨hk, h⟩
      · rw [h]
        rcases a3 k with h' | ⟨hk', h'⟩
        · exact .inl h'
        · rw [h', w64e, hk']; exact .inr rfl
      · rw [h, er1, w64e, hk]; exact .inr rfl
    have g2 : ∀ i, out w i → ((s.clr (2 + w * 2 : Nat)).1.clr (2 + w * 2 + 1 : Nat)).1.g i = s.g i := by
      intro i hi; unfold out at hi
      rw [c4 i (by omega), a4 i (by omega)]
    rw [hc]
    rcases c5 with ⟨d1, d2, d3⟩ | ⟨d1, d2⟩
    · rw [if_neg (by rw [d1]; decide)]
      obtain ⟨u, hu⟩ : ∃ u, u = ((s.clr (2 + w * 2 : Nat)).1.clr (2 + w * 2 + 1 : Nat)).1 := ⟨_, rfl⟩
      rw [← hu] at d2 d3 er2 g2 c1 c2 ⊢
      have ulen : u.b.length = s.b.length := c2.trans a2
      have u255 : ∀ i, (2 + w * 2) * 256 ≤ i → i < (2 + w * 2) * 256 + 512 → u.g i = 255#8 := by
        intro i h1 h2
        by_cases h3 : (2 + w * 2 + 1) * 256 ≤ i
        · exact d3 i h3 (by omega)
        · rw [hu, c4 i (by omega)]; exact b3 i h1 (by omega)
      have hr : u.ready (((2 + w * 2) * 256 : Nat) : Int) xs.length = 0 := by
        unfold Fs.ready; rw [if_neg (by simp [d2]), if_neg (by omega)]
      have hp : u.program (((2 + w * 2) * 256 : Nat) : Int) xs = u.prog ((2 + w * 2) * 256) xs := if_pos hr
      obtain ⟨p1, p2, p3, p4, p5⟩ := Fs.prog_any xs u ((2 + w * 2) * 256) d2 (by omega)
      unfold Fs.write2
      rw [e2, hp]
      have fin : ∀ y : Int, (y = 0 ∨ y = 11) → (y = 0 ∨ y = 11) ∧ (u.prog ((2 + w * 2) * 256) xs).1.wear = s.wear ∧ (u.prog ((2 + w * 2) * 256) xs).1.b.length = s.b.length ∧ (∀ k, (u.prog ((2 + w * 2) * 256) xs).1.er k = s.er k ∨ (u.prog ((2 + w * 2) * 256) xs).1.er k = s.er k + 1) ∧ ∀ i, out w i → (u.prog ((2 + w * 2) * 256) xs).1.g i = s.g i := by
        intro y hy
        refine ⟨hy, p2.trans (c1.trans a1), p3.trans ulen, fun k => by rw [p1]; exact er2 k, fun i hi => ?_⟩
        rw [p4 i (by unfold out at hi; omega), g2 i hi]
      rcases p5 with ⟨q1, q2, q3⟩ | ⟨q1, q2⟩
      · rw [if_neg (by rw [q1]; decide)]
        have hrd : (u.prog ((2 + w * 2) * 256) xs).1.sRead w xs.length = (xs, 0) := by
          have hO : Fs.Ok { (u.prog ((2 + w * 2) * 256) xs).1 with fused := false } := ⟨by show 3584 ≤ (u.prog ((2 + w * 2) * 256) xs).1.b.length; omega, q2, rfl⟩
          have := Fs.sRead_has hO w hw xs hx2 (fun j hj => by
            show (u.prog ((2 + w * 2) * 256) xs).1.g _ = _
            rw [q3 _ (by omega) (by omega), u255 _ (by omega) (by omega), and255, show (2 + w * 2) * 256 + j - (2 + w * 2) * 256 = j by omega])
          exact this
        rw [hrd]
        exact fin _ (.inl (by simp))
      · rw [if_pos (by rw [q1]; decide)]
        exact fin _ (.inr q1)
    · rw [if_pos (by rw [d1]; decide)]
      exact ⟨.inr d1, c1.trans a1, c2.trans a2, er2, g2⟩
  · have hc : s.clear (w : Int) = s.clr (2 + w * 2 : Nat) := by
      unfold Fs.clear; rw [e0, if_pos (by rw [b1]; decide)]
    rw [hc, if_pos (by rw [b1]; decide)]
    refine ⟨.inr b1, a1, a2, fun k => ?_, fun i hi => a4 i (by unfold out at hi; omega)⟩
    rcases a3 k with h | ⟨hk, h⟩
    · exact .inl h
    · rw [h, w64e, hk]; exact .inr rfl
end Go.Fl
