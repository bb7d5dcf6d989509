/- The reference's wheels, walked: places, OpenWheel. -/
import Derived.Test.YtnohdfhhdppflaaWheelW6
import Derived.Test.YtnohdfhhdppflaaReFlash6
namespace Go.Proofs.Ytnohdfhhdppflaa
open Go Go.Vc Go.Fl Go.Sha
set_option linter.unusedVariables false
set_option linter.unusedSimpArgs false
set_option maxRecDepth 100000
set_option maxHeartbeats 4000000
namespace FaWheelR
theorem ca_61 : callable Try.prog 61 = true := by kernel_rfl
theorem fo_70_2 : fieldOff Try.prog 70 2 = some 2 := by kernel_rfl
theorem fo_70_5 : fieldOff Try.prog 70 5 = some 5 := by kernel_rfl
theorem one_3 : isOne Try.prog 3 = true := by kernel_rfl
instance : Fb (callable Try.prog 61) := ⟨ca_61⟩
instance : Ft (fieldOff Try.prog 70 2) (2) := ⟨fo_70_2⟩
instance : Ft (fieldOff Try.prog 70 5) (5) := ⟨fo_70_5⟩
instance : Fb (isOne Try.prog 3) := ⟨one_3⟩
end FaWheelR
attribute [local irreducible] PV OpW WL WM WH WZ W C Has RoOk

def refReady (r : Int) : Int := if r < 0 then -1 else 6 + r
def refWObj (fp : Nat) (w : Wh) (lv : Value) : Obj := .cells #[.pointer (some ⟨fp, 0, none⟩), v32 w.gen, .int .i64 w.size, lv, .int .i64 (refReady w.ready), .int .i64 w.next] 70 (0, 0)
theorem placesR_c (pw fp : Nat) (w : Wh) (lv : Value) (ho : w.Ok) (ro : RO) : C Try.prog 61 #[.pointer (some ⟨pw, 0, none⟩)] ro [[(pw, refWObj fp w lv)]] fun v own => v = .int .i64 (places w.size : Int) ∧ own = [[(pw, refWObj fp w lv)]] := by
  have h1 := ho.s2
  refine c_of_w2 (n := 9) Try.func61 rfl rfl rfl (by rfl) fun E => ?_
  repeat' (first | ((with_reducible refine g_wl ?_); (first | refine kN ?_ | ((with_reducible refine g_mv ?_); (refine kp (pvm_move_p rfl) ?_)) | ((with_reducible refine g_as ?_); (refine kp (pvm_assign_i rfl) ?_)) | ((with_reducible refine g_bo ?_); (first | refine kp (pv_iadd rfl rfl (by omega)) ?_ | refine kp (pv_iquo rfl rfl (by omega)) ?_)) | ((with_reducible refine g_ld ?_); (refine kd (opw_load Fb.h rfl (Has.own 0 0 rfl rfl) ?_))) | refine kp (pv_nilCheck rfl) ?_ | refine kp (pv_fieldAddr Ft.h rfl) ?_)) | with_reducible refine w_seq ?_ | with_reducible refine thenP_n ?_ | with_reducible refine w_ret ?_ | refine wr rfl ?_)
  exact ret_r (v := .int .i64 _) rfl ⟨rfl, rfl⟩
theorem atR_c (pw fp : Nat) (w : Wh) (lv : Value) (ho : w.Ok) (k : Nat) (hk : k < 8 * places w.size) (ro : RO) : C Try.prog 62 #[.pointer (some ⟨pw, 0, none⟩), .int .i64 k] ro [[(pw, refWObj fp w lv)]] fun v own => v = .tuple #[.int .i64 ((6 + k / places w.size : Nat) : Int), .int .i64 (pAt w.size k : Int)] ∧ own = [[(pw, refWObj fp w lv)]] := by
  obtain ⟨h3, h4⟩ := places_le ho.s2
  have h2 := ho.s2
  have h5 := places_mul w.size
  obtain ⟨q, hq⟩ : ∃ q, q = k / places w.size := ⟨_, rfl⟩
  obtain ⟨r, hr⟩ : ∃ r, r = k % places w.size := ⟨_, rfl⟩
  obtain ⟨x, hx⟩ : ∃ x, x = r * (w.size + 13) := ⟨_, rfl⟩
  have h6 : r < places w.size := by rw [hr]; exact Nat.mod_lt _ (by omega)
  have h7 : q < 8 := by rw [hq]; exact (Nat.div_lt_iff_lt_mul (by omega)).2 hk
  have h8 : (r + 1) * (w.size + 13) ≤ places w.size * (w.size + 13) := Nat.mul_le_mul_right _ (by omega)
  rw [Nat.add_mul, ← hx] at h8
  have hres : pAt w.size k = (6 + q) * 256 + x := by rw [hx, hq, hr]; rfl
  rw [hres, ← hq]
  refine c_of_w2 (n := 26) Try.func62 rfl rfl rfl (by rfl) fun E => ?_
  repeat' (first | ((with_reducible refine g_wl ?_); (first | refine kN ?_ | ((with_reducible refine g_as ?_); (refine kp (pvm_assign_i rfl) ?_)))) | with_reducible refine w_seq ?_ | with_reducible refine thenP_n ?_ | with_reducible refine w_ret ?_ | ((with_reducible refine w_region (id := 1) ?_); (refine wl_pure rfl rfl (pvm_move_i rfl) ?_); (refine wl_pure rfl rfl (pvm_move_p rfl) ?_); refine wl_do rfl rfl (opw_call FaWheelR.ca_61 rfl [0] (placesR_c pw fp w lv ho _) RoOk.self (fun v own h => ?_)); obtain ⟨rfl, rfl⟩ := h; (refine wl_pure rfl rfl (pvi_e (q : Int) (by rw [hq]; exact (Int.natCast_ediv _ _).symm) (pv_iquo rfl rfl (by omega))) ?_); (refine wl_pure rfl rfl (pvi_e ((6 + q : Nat) : Int) (by push_cast; rfl) (pv_iadd rfl rfl (by omega))) ?_); (refine wl_pure rfl rfl (pvm_assign_i rfl) ?_); refine wl_nil ?_) | (refine w_draw (id := 2) [] (hold [(pw, refWObj fp w lv)]) Fa.mixed (hold_one 0 0 rfl) ?_; (refine wh_pure 0 rfl (by kernel_rfl) rfl rfl (pvm_move_i rfl) ?_); (refine wh_pure 1 rfl (by kernel_rfl) rfl rfl (pvm_move_i rfl) ?_); (refine wh_pure 2 rfl (by kernel_rfl) rfl rfl (pv_imul rfl rfl (by omega)) ?_); (refine wh_pure 3 rfl (by kernel_rfl) rfl rfl (pvm_move_i rfl) ?_); (refine wh_pure 4 rfl (by kernel_rfl) rfl rfl (pvm_move_p rfl) ?_); (refine wh_pure 7 rfl (by kernel_rfl) rfl rfl (pvm_move_p rfl) ?_); refine wh_pure 8 rfl (by kernel_rfl) rfl rfl (pv_nilCheck rfl) ?_; refine wh_pure 9 rfl (by kernel_rfl) rfl rfl (pv_fieldAddr FaWheelR.fo_70_2 rfl) ?_; (refine wh_load 10 rfl (by kernel_rfl) rfl rfl FaWheelR.one_3 rfl (Has.hold 0 rfl rfl) ?_); (refine wh_pure 11 rfl (by kernel_rfl) rfl rfl (pv_iadd rfl rfl (by omega)) ?_); refine wh_do 5 (by kernel_rfl) rfl rfl rfl rfl (opw_call FaWheelR.ca_61 rfl [0] (placesR_c pw fp w lv ho _) RoOk.self (fun v own h => ?_)); obtain ⟨rfl, rfl⟩ := h; refine ⟨(hold_one 0 0 rfl), ?_⟩; (refine wh_pure 6 rfl (by kernel_rfl) rfl rfl (pvi_e (r : Int) (by rw [hr]; exact (Int.natCast_emod _ _).symm) (pv_irem rfl rfl (by omega))) ?_); (refine wh_pure 12 rfl (by kernel_rfl) rfl rfl (pvi_e (x : Int) (by rw [hx]; push_cast; rfl) (pv_imul rfl rfl (by rw [show (r : Int) * ((w.size : Int) + 13) = ((r * (w.size + 13) : Nat) : Int) by push_cast; rfl, ← hx]; omega))) ?_); (refine wh_pure 13 rfl (by kernel_rfl) rfl rfl (pv_iadd rfl rfl (by omega)) ?_); (refine wh_pure 14 rfl (by kernel_rfl) rfl rfl (pvm_assign_i rfl) ?_); (refine wh_pure 15 rfl (by kernel_rfl) rfl rfl (pvm_assign_i rfl) ?_); (refine wh_done (by kernel_rfl) ?_)) | refine wr (id := 0) rfl ?_)
  exact ret_r (v := .tuple #[.int .i64 _, .int .i64 _]) rfl ⟨by push_cast; rfl, rfl⟩
theorem roomR_c (pw fp : Nat) (w : Wh) (lv : Value) (ho : w.Ok) (ro : RO) : C Try.prog 35 #[.pointer (some ⟨pw, 0, none⟩)] ro [[(pw, refWObj fp w lv)]] fun v own => v = .int .i64 w.room ∧ own = [[(pw, refWObj fp w lv)]] := by
  obtain ⟨h3, h4⟩ := places_le ho.s2
  have hn := ho.next
  refine c_of_w2 (n := 11) Try.func35 rfl rfl rfl (by rfl) fun E => ?_
  repeat' (first | ((with_reducible refine g_wl ?_); (first | refine kN ?_ | ((with_reducible refine g_as ?_); (refine kp (pvm_assign_i rfl) ?_)))) | with_reducible refine w_seq ?_ | with_reducible refine thenP_n ?_ | with_reducible refine w_ret ?_ | (refine w_draw (id := 1) [] (hold [(pw, refWObj fp w lv)]) Fa.mixed (hold_one 0 0 rfl) ?_; (refine wh_pure 0 rfl (by kernel_rfl) rfl rfl (pvm_move_p rfl) ?_); (refine wh_pure 3 rfl (by kernel_rfl) rfl rfl (pvm_move_p rfl) ?_); refine wh_pure 4 rfl (by kernel_rfl) rfl rfl (pv_nilCheck rfl) ?_; refine wh_pure 5 rfl (by kernel_rfl) rfl rfl (pv_fieldAddr FaWheelR.fo_70_5 rfl) ?_; (refine wh_load 6 rfl (by kernel_rfl) rfl rfl FaWheelR.one_3 rfl (Has.hold 0 rfl rfl) ?_); refine wh_do 1 (by kernel_rfl) rfl rfl rfl rfl (opw_call FaWheelR.ca_61 rfl [0] (placesR_c pw fp w _ ho _) RoOk.self (fun v own h => ?_)); obtain ⟨rfl, rfl⟩ := h; refine ⟨(hold_one 0 0 rfl), ?_⟩; (refine wh_pure 2 rfl (by kernel_rfl) rfl rfl (pv_imul rfl rfl (by omega)) ?_); (refine wh_pure 7 rfl (by kernel_rfl) rfl rfl (pv_isub rfl rfl (by omega)) ?_); (refine wh_pure 8 rfl (by kernel_rfl) rfl rfl (pvm_assign_i rfl) ?_); (refine wh_done (by kernel_rfl) ?_)) | refine wr rfl ?_)
  exact ret_r (v := .int .i64 _) rfl ⟨by unfold Wh.room; rw [Int.mul_comm], rfl⟩
/-- The wheel behind so many places of a sector. -/
def partW (s : Fs) (gen : D) (n sec i : Nat) : Wh :=
  if i = 0 ∨ (s.recAt gen n (sec * places n)).isNone = true then openN s gen n sec
  else { openN s gen n sec with ready := sec, recs := (openN s gen n sec).recs ++ (List.range i).filterMap fun i => s.recAt gen n (sec * places n + i) }
theorem partW_zero (s : Fs) (gen : D) (n sec : Nat) : partW s gen n sec 0 = openN s gen n sec := if_pos (.inl rfl)
theorem partW_all (s : Fs) (gen : D) (n sec : Nat) (h1 : 1 ≤ n) (h2 : n ≤ 16) (hs : sec ≤ 8) : partW s gen n sec (places n) = openN s gen n (sec + 1) := by
  obtain ⟨h3, h4, h5, h6⟩ := openN_ok (s := s) (gen := gen) h1 h2 sec hs
  obtain ⟨h7, h8⟩ := places_le h2
  show _ = (openN s gen n sec).reads s sec
  unfold partW Wh.reads
  simp only [h4, h5]
  by_cases h : (s.recAt gen n (sec * places n)).isNone = true
  · rw [if_pos (.inr h), if_pos h]
  · rw [if_neg (by rintro (h' | h'); omega; exact h h'), if_neg h]
theorem partW_ok {s : Fs} {gen : D} {n sec i : Nat} (h1 : 1 ≤ n) (h2 : n ≤ 16) (hs : sec < 8) : (partW s gen n sec i).Ok ∧ (partW s gen n sec i).size = n ∧ (partW s gen n sec i).gen = gen ∧ (partW s gen n sec i).next = 0 := by
  obtain ⟨h3, h4, h5, h6⟩ := openN_ok (s := s) (gen := gen) h1 h2 sec (by omega)
  unfold partW
  split
  · exact ⟨h3, h4, h5, h6⟩
  · exact ⟨⟨h3.s1, h3.s2, h3.next, by show -1 ≤ (sec : Int); omega, by show (sec : Int) < 8; omega⟩, h4, h5, h6⟩
/-- One place more. -/
theorem partW_skip {s : Fs} {gen : D} {n sec i : Nat} (h : s.recAt gen n (sec * places n + i) = none ∨ (s.recAt gen n (sec * places n)).isNone = true) : partW s gen n sec (i + 1) = partW s gen n sec i := by
  unfold partW
  by_cases h0 : (s.recAt gen n (sec * places n)).isNone = true
  · rw [if_pos (.inr h0), if_pos (.inr h0)]
  · rcases h with h | h
    · by_cases hi : i = 0
      · subst hi; rw [Nat.add_zero] at h; rw [h] at h0; exact absurd rfl h0
      · rw [if_neg (by rintro (h' | h'); omega; exact h0 h'), if_neg (by rintro (h' | h'); omega; exact h0 h')]
        rw [List.range_succ, List.filterMap_append]
        simp [h]
    · exact absurd h h0
theorem partW_take {s : Fs} {gen : D} {n sec i : Nat} {r : D × List B} (h : s.recAt gen n (sec * places n + i) = some r) (h0 : ¬ (s.recAt gen n (sec * places n)).isNone = true) : partW s gen n sec (i + 1) = { partW s gen n sec i with ready := (sec : Int), recs := (partW s gen n sec i).recs ++ [r] } := by
  unfold partW
  rw [if_neg (by rintro (h' | h'); omega; exact h0 h')]
  by_cases hi : i = 0
  · subst hi
    rw [if_pos (.inl rfl)]
    simp at h
    simp [List.range_succ, h]
  · rw [if_neg (by rintro (h' | h'); omega; exact h0 h')]
    simp [List.range_succ, h]
end Go.Proofs.Ytnohdfhhdppflaa
