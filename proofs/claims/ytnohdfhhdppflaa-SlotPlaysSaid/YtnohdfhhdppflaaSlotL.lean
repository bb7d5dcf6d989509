/- What slots do, told of the bytes one by one. Plain. -/
import Derived.Test.YtnohdfhhdppflaaSlotP
namespace Go.Fl
open Go Go.Vc
set_option linter.unusedVariables false
def Fs.g (s : Fs) (i : Nat) : BitVec 8 := s.b.getD i 0
/-- There is power, and no fuse. -/
structure Fs.Ok (s : Fs) : Prop where
  len : 3584 ≤ s.b.length
  down : s.down = false
  fused : s.fused = false
theorem Fs.stepS_ok {s : Fs} (h : s.fused = false) : s.stepS = s.tick := by
  unfold Fs.stepS Fs.blows; rw [h]; rfl
theorem Fs.prog_ok (xs : List (BitVec 8)) : ∀ (s : Fs) (k : Nat), s.fused = false → s.down = false → k + xs.length ≤ s.b.length →
    (s.prog k xs).2 = 0 ∧ (s.prog k xs).1.down = false ∧ (s.prog k xs).1.fused = false ∧ (s.prog k xs).1.er = s.er ∧ (s.prog k xs).1.wear = s.wear ∧
    ∀ i, (s.prog k xs).1.g i = if k ≤ i ∧ i < k + xs.length then s.g i &&& xs.getD (i - k) 0 else s.g i := by
  induction xs with
  | nil => intro s k hf hd hl; refine ⟨rfl, hd, hf, rfl, rfl, fun i => ?_⟩; rw [if_neg (by rw [List.length_nil]; omega)]; rfl
  | cons x xs ih =>
    intro s k hf hd hl
    have hs := Fs.stepS_ok hf
    simp only [List.length_cons] at hl
    unfold Fs.prog
    rw [hs, if_neg (by show ¬ s.down = true; simp [hd])]
    have hsb : s.tick.b = s.b := rfl
    obtain ⟨h1, h2, h3, h4, h5, h6⟩ := ih { s.tick with b := s.tick.b.set k (s.tick.b.getD k 0 &&& x) } (k + 1) hf hd (by show k + 1 + xs.length ≤ (s.b.set k _).length; rw [List.length_set]; omega)
    refine ⟨h1, h2, h3, h4, h5, fun i => ?_⟩
    rw [h6 i]
    have hg : ∀ i, Fs.g { s.tick with b := s.tick.b.set k (s.tick.b.getD k 0 &&& x) } i = if i = k then s.g k &&& x else s.g i := by
      intro i
      show (s.b.set k (s.b.getD k 0 &&& x)).getD i 0 = _
      rw [List.getD_eq_getElem?_getD, List.getElem?_set]
      by_cases hik : k = i
      · subst hik; rw [if_pos rfl, if_pos rfl, if_pos (by omega)]; rfl
      · rw [if_neg hik, if_neg (fun h => hik h.symm), ← List.getD_eq_getElem?_getD]; rfl
    rw [hg i]
    by_cases hik : i = k
    · subst hik
      rw [if_neg (by omega), if_pos rfl, if_pos ⟨Nat.le_refl _, by simp only [List.length_cons]; omega⟩, Nat.sub_self]; rfl
    · by_cases hr : k ≤ i ∧ i < k + (x :: xs).length
      · rw [if_neg hik, if_pos hr]
        simp only [List.length_cons] at hr
        rw [if_pos (by omega), show i - k = (i - (k + 1)) + 1 by omega]; rfl
      · rw [if_neg hik, if_neg hr]
        simp only [List.length_cons] at hr
        rw [if_neg (by omega)]
theorem Fs.program_ok {s : Fs} (h : s.Ok) (k : Nat) (xs : List (BitVec 8)) (hk : k + xs.length ≤ 3584) :
    (s.program k xs).2 = 0 ∧ (s.program k xs).1.Ok ∧ (s.program k xs).1.er = s.er ∧ (s.program k xs).1.wear = s.wear ∧
    ∀ i, (s.program k xs).1.g i = if k ≤ i ∧ i < k + xs.length then s.g i &&& xs.getD (i - k) 0 else s.g i := by
  have hr : s.ready k xs.length = 0 := by
    unfold Fs.ready; rw [if_neg (by simp [h.down]), if_neg (by omega)]
  have hp : s.program (k : Int) xs = s.prog k xs := if_pos hr
  rw [hp]
  obtain ⟨h1, h2, h3, h4, h5, h6⟩ := Fs.prog_ok xs s k h.fused h.down (by have := h.len; omega)
  exact ⟨h1, ⟨by rw [Fs.prog_len]; exact h.len, h2, h3⟩, h4, h5, h6⟩
theorem Fs.read_ok {s : Fs} (h : s.Ok) (k n : Nat) (hk : k + n ≤ 3584) : s.read k n = ((s.bs.drop k).take n, 0) := by
  have hr : s.ready k n = 0 := by unfold Fs.ready; rw [if_neg (by simp [h.down]), if_neg (by omega)]
  unfold Fs.read; rw [if_pos hr]; rfl
theorem Fs.bs_get {s : Fs} {k n i : Nat} (hl : 3584 ≤ s.b.length) (hk : k + n ≤ 3584) (hi : i < n) : ((s.bs.drop k).take n)[i]? = some (s.g (k + i)) := by
  unfold Fs.bs Fs.g
  rw [List.getElem?_take, if_pos hi, List.getElem?_drop, List.getElem?_take, if_pos (by omega)]
  exact getD_of (by omega)
theorem Fs.bs_eq {s : Fs} {k : Nat} {xs : List (BitVec 8)} (hl : 3584 ≤ s.b.length) (hk : k + xs.length ≤ 3584) (h : ∀ j, j < xs.length → s.g (k + j) = xs.getD j 0) : (s.bs.drop k).take xs.length = xs := by
  apply List.ext_getElem?
  intro j
  by_cases hj : j < xs.length
  · rw [Fs.bs_get hl hk hj, h j hj]; exact (getD_of hj).symm
  · rw [List.getElem?_eq_none (by rw [List.length_take]; omega), List.getElem?_eq_none (by omega)]
def Fs.Blank (s : Fs) (k : Nat) : Prop := ∀ i, i < 256 → s.g (k * 256 + i) = 255#8
theorem Fs.blank_ok {s : Fs} (h : s.Ok) (k : Nat) (hk : k < 14) : s.blank ((k : Int) * 256) 256 = true ↔ s.Blank k := by
  have hr : s.read ((k : Int) * 256) 256 = ((s.bs.drop (k * 256)).take 256, 0) := s.read_ok h (k * 256) 256 (by omega)
  unfold Fs.blank; rw [hr]
  dsimp only
  rw [decide_eq_true rfl, Bool.true_and, Bool.not_eq_true']
  constructor
  · intro ha i hi
    have hg := s.bs_get (k := k * 256) (n := 256) h.len (by omega) hi
    have hm := List.mem_of_getElem? hg
    have := (List.any_eq_false.1 ha) _ hm
    simpa using this
  · intro hb
    rw [List.any_eq_false]
    intro x hx
    obtain ⟨i, hi, rfl⟩ := List.mem_iff_getElem.1 hx
    rw [List.length_take] at hi
    have hg := s.bs_get (k := k * 256) (n := 256) (i := i) h.len (by omega) (by omega)
    rw [List.getElem?_eq_getElem (by rw [List.length_take]; omega)] at hg
    simp only [Option.some.injEq] at hg
    rw [hg, hb i (by omega)]; simp
theorem fill255_getD (l : List (BitVec 8)) (k n i : Nat) (h : k + n ≤ l.length) : (fill255 l k n).getD i 0 = if k ≤ i ∧ i < k + n then 255#8 else l.getD i 0 := by
  unfold fill255
  rw [List.getD_eq_getElem?_getD, List.append_assoc, List.getElem?_append, List.length_take, Nat.min_eq_left (by omega)]
  by_cases h1 : i < k
  · rw [if_pos h1, if_neg (by omega), List.getElem?_take, if_pos h1, List.getD_eq_getElem?_getD]
  · rw [if_neg h1, List.getElem?_append, List.length_replicate]
    by_cases h2 : i - k < n
    · rw [if_pos h2, if_pos (by omega), List.getElem?_replicate, if_pos h2]; rfl
    · rw [if_neg h2, if_neg (by omega), List.getElem?_drop, List.getD_eq_getElem?_getD, show k + n + (i - k - n) = i by omega]
theorem Fs.erase_ok {s : Fs} (h : s.Ok) (k : Nat) (hk : k < 14) (hw : ¬ s.wear ≤ s.er k) :
    (s.erase k).2 = 0 ∧ (s.erase k).1.Ok ∧ (s.erase k).1.wear = s.wear ∧ (∀ j, (s.erase k).1.er j = if j = k then w64 (s.er k + 1) else s.er j) ∧
    ∀ i, (s.erase k).1.g i = if k * 256 ≤ i ∧ i < k * 256 + 256 then 255#8 else s.g i := by
  have hs := Fs.stepS_ok h.fused
  have he : s.erase (k : Int) = (s.erased k, 0) := by
    unfold Fs.erase
    rw [if_neg (by simp [h.down]), if_neg (by omega), Int.toNat_natCast, if_neg hw, hs, if_neg (by show ¬ s.down = true; simp [h.down])]
  have hn : s.eraseN = 256 := Fs.eraseN_f (by rw [hs]; exact h.down)
  rw [he]
  have hl := h.len
  have hb : (s.erased k).b = fill255 s.b (k * 256) 256 := by
    show fill255 s.stepS.b (k * 256) s.eraseN = _
    rw [hs, hn]; rfl
  refine ⟨rfl, ⟨?_, ?_, ?_⟩, ?_, ?_, fun i => ?_⟩
  · rw [hb, fill255_len _ _ _ (by omega)]; exact hl
  · show s.stepS.down = false; rw [hs]; exact h.down
  · show s.stepS.fused = false; rw [hs]; exact h.fused
  · show s.stepS.wear = s.wear; rw [hs]; rfl
  · intro j; show (if j = k then w64 (s.stepS.er k + 1) else s.stepS.er j) = _; rw [hs]; rfl
  · show (s.erased k).b.getD i 0 = _; rw [hb, fill255_getD _ _ _ _ (by omega)]; rfl
theorem Fs.erase_worn {s : Fs} (h : s.Ok) (k : Nat) (hk : k < 14) (hw : s.wear ≤ s.er k) : s.erase k = (s, 10) := by
  unfold Fs.erase
  rw [if_neg (by simp [h.down]), if_neg (by omega), Int.toNat_natCast, if_pos hw]
/-- A sector is cleared, if it may be. -/
theorem Fs.clr_ok {s : Fs} (h : s.Ok) (k : Nat) (hk : k < 14) (hw : s.Blank k ∨ s.er k < s.wear) :
    (s.clr k).2 = 0 ∧ (s.clr k).1.Ok ∧ (s.clr k).1.wear = s.wear ∧ (∀ j, j ≠ k → (s.clr k).1.er j = s.er j) ∧ ((¬ s.Blank k → (s.clr k).1.er k = w64 (s.er k + 1)) ∧ (s.Blank k → (s.clr k).1 = s)) ∧
    ∀ i, (s.clr k).1.g i = if k * 256 ≤ i ∧ i < k * 256 + 256 then 255#8 else s.g i := by
  unfold Fs.clr
  by_cases hb : s.Blank k
  · rw [if_pos ((s.blank_ok h k hk).2 hb)]
    refine ⟨rfl, h, rfl, fun _ _ => rfl, ⟨fun h => absurd hb h, fun _ => rfl⟩, fun i => ?_⟩
    split
    · rename_i hi
      have := hb (i - k * 256) (by omega)
      rwa [show k * 256 + (i - k * 256) = i by omega] at this
    · rfl
  · rw [if_neg (fun hh => hb ((s.blank_ok h k hk).1 hh))]
    obtain ⟨h1, h2, h3, h4, h5⟩ := s.erase_ok h k hk (by rcases hw with h | h; exact absurd h hb; omega)
    exact ⟨h1, h2, h3, fun j hj => by rw [h4 j, if_neg hj], ⟨fun _ => by rw [h4 k, if_pos rfl], fun h => absurd h hb⟩, h5⟩
theorem Fs.clr_worn {s : Fs} (h : s.Ok) (k : Nat) (hk : k < 14) (hb : ¬ s.Blank k) (hw : s.wear ≤ s.er k) : s.clr k = (s, 10) := by
  unfold Fs.clr
  rw [if_neg (fun hh => hb ((s.blank_ok h k hk).1 hh)), s.erase_worn h k hk hw]
end Go.Fl
