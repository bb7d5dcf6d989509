/- The reference's wheels, walked: Add. -/
import Derived.Test.YtnohdfhhdppflaaWheelR2
namespace Go.Proofs.Ytnohdfhhdppflaa
open Go Go.Vc Go.Fl Go.Sha
set_option linter.unusedVariables false
set_option linter.unusedSimpArgs false
set_option maxRecDepth 100000
set_option maxHeartbeats 4000000
namespace FaWheelR3
theorem ca_24 : callable Try.prog 24 = true := by kernel_rfl
theorem ca_35 : callable Try.prog 35 = true := by kernel_rfl
theorem ca_48 : callable Try.prog 48 = true := by kernel_rfl
theorem ca_51 : callable Try.prog 51 = true := by kernel_rfl
theorem ca_62 : callable Try.prog 62 = true := by kernel_rfl
theorem ca_69 : callable Try.prog 69 = true := by kernel_rfl
theorem ca_70 : callable Try.prog 70 = true := by kernel_rfl
theorem ei_104 : elemInfo Try.prog 104 = some (2, 32, (.agg #[(.int .u32 0), (.slice none 0 0)])) := by kernel_rfl
theorem fo_53_3 : fieldOff Try.prog 53 3 = some 16 := by kernel_rfl
theorem fo_70_0 : fieldOff Try.prog 70 0 = some 0 := by kernel_rfl
theorem fo_70_1 : fieldOff Try.prog 70 1 = some 1 := by kernel_rfl
theorem fo_70_2 : fieldOff Try.prog 70 2 = some 2 := by kernel_rfl
theorem fo_70_3 : fieldOff Try.prog 70 3 = some 3 := by kernel_rfl
theorem fo_70_4 : fieldOff Try.prog 70 4 = some 4 := by kernel_rfl
theorem fo_70_5 : fieldOff Try.prog 70 5 = some 5 := by kernel_rfl
theorem one_3 : isOne Try.prog 3 = true := by kernel_rfl
theorem one_35 : isOne Try.prog 35 = true := by kernel_rfl
theorem one_4 : isOne Try.prog 4 = true := by kernel_rfl
theorem one_44 : isOne Try.prog 44 = true := by kernel_rfl
theorem one_67 : isOne Try.prog 67 = true := by kernel_rfl
theorem pl_104 : ∀ w, ((structF Try.prog 104).mapM fun f => do pure (f.offset, ← sizeOf f.type) : Sem (Array (Nat × Nat))).run Try.prog w = .ok #[(0, 1), (1, 1)] w := fun w => by kernel_rfl
theorem sf_104 : Try.prog.underlying 104 = some (.struct (structF Try.prog 104)) := by kernel_rfl
theorem sl_22 : sliceOf Try.prog 22 = some (5, 1) := by kernel_rfl
theorem sl_67 : sliceOf Try.prog 67 = some (104, 2) := by kernel_rfl
theorem sz_104 : sz Try.prog 104 = some 2 := by kernel_rfl
theorem sz_22 : sz Try.prog 22 = some 1 := by kernel_rfl
theorem sz_3 : sz Try.prog 3 = some 1 := by kernel_rfl
theorem sz_5 : sz Try.prog 5 = some 1 := by kernel_rfl
theorem sz_67 : sz Try.prog 67 = some 1 := by kernel_rfl
theorem zero_104 : zeroOf Try.prog 104 = some (.agg #[(.int .u32 0), (.slice none 0 0)]) := by kernel_rfl
theorem zero_22 : zeroOf Try.prog 22 = some (.slice none 0 0) := by kernel_rfl
theorem zero_5 : zeroOf Try.prog 5 = some (.int .u8 0) := by kernel_rfl
instance : Fb (callable Try.prog 24) := ⟨ca_24⟩
instance : Fb (callable Try.prog 35) := ⟨ca_35⟩
instance : Fb (callable Try.prog 48) := ⟨ca_48⟩
instance : Fb (callable Try.prog 51) := ⟨ca_51⟩
instance : Fb (callable Try.prog 62) := ⟨ca_62⟩
instance : Fb (callable Try.prog 69) := ⟨ca_69⟩
instance : Fb (callable Try.prog 70) := ⟨ca_70⟩
instance : Ft (elemInfo Try.prog 104) (2, 32, (.agg #[(.int .u32 0), (.slice none 0 0)])) := ⟨ei_104⟩
instance : Ft (fieldOff Try.prog 53 3) (16) := ⟨fo_53_3⟩
instance : Ft (fieldOff Try.prog 70 0) (0) := ⟨fo_70_0⟩
instance : Ft (fieldOff Try.prog 70 1) (1) := ⟨fo_70_1⟩
instance : Ft (fieldOff Try.prog 70 2) (2) := ⟨fo_70_2⟩
instance : Ft (fieldOff Try.prog 70 3) (3) := ⟨fo_70_3⟩
instance : Ft (fieldOff Try.prog 70 4) (4) := ⟨fo_70_4⟩
instance : Ft (fieldOff Try.prog 70 5) (5) := ⟨fo_70_5⟩
instance : Fb (isOne Try.prog 3) := ⟨one_3⟩
instance : Fb (isOne Try.prog 35) := ⟨one_35⟩
instance : Fb (isOne Try.prog 4) := ⟨one_4⟩
instance : Fb (isOne Try.prog 44) := ⟨one_44⟩
instance : Fb (isOne Try.prog 67) := ⟨one_67⟩
instance : Ft (Try.prog.underlying 104) (.struct (structF Try.prog 104)) := ⟨sf_104⟩
instance : Ft (sliceOf Try.prog 22) (5, 1) := ⟨sl_22⟩
instance : Ft (sliceOf Try.prog 67) (104, 2) := ⟨sl_67⟩
instance : Ft (sz Try.prog 104) (2) := ⟨sz_104⟩
instance : Ft (sz Try.prog 22) (1) := ⟨sz_22⟩
instance : Ft (sz Try.prog 3) (1) := ⟨sz_3⟩
instance : Ft (sz Try.prog 5) (1) := ⟨sz_5⟩
instance : Ft (sz Try.prog 67) (1) := ⟨sz_67⟩
instance : Ft (zeroOf Try.prog 104) (.agg #[(.int .u32 0), (.slice none 0 0)]) := ⟨zero_104⟩
instance : Ft (zeroOf Try.prog 22) (.slice none 0 0) := ⟨zero_22⟩
instance : Ft (zeroOf Try.prog 5) (.int .u8 0) := ⟨zero_5⟩
instance : Ft (Try.prog.underlying 22) (.slice 5) := ⟨Try.underlying22⟩
instance : Ft (Try.prog.underlying 67) (.slice 104) := ⟨Try.underlying67⟩
instance : Ft (Try.prog.underlying 117) (.slice 22) := ⟨Try.underlying117⟩
end FaWheelR3
attribute [local irreducible] PV OpW WL WM WH WZ W C Has RoOk

theorem prog_code (xs : List B) : ∀ (s : Fs) (k : Nat), (s.prog k xs).2 = 0 ∨ (s.prog k xs).2 = 11 := by
  induction xs with
  | nil => intro s k; exact .inl rfl
  | cons x xs ih =>
    intro s k; unfold Fs.prog; split
    · exact .inr rfl
    · exact ih _ _
theorem program_code {s : Fs} {x : Nat} {xs : List B} (h : x + xs.length ≤ 3584) : (s.program x xs).2 = 0 ∨ (s.program x xs).2 = 11 := by
  unfold Fs.program
  split
  · exact prog_code ..
  · rename_i hr
    unfold Fs.ready at hr ⊢
    split
    · exact .inr rfl
    · rename_i hd
      rw [if_neg hd] at hr
      rw [if_neg (by omega)]; exact .inl rfl
def AddRes (pw fp q : Nat) (z : Fs × Wh × Int) (n : Nat) (v : Value) (own : List Blks) : Prop :=
  ∃ g1 g2 g3 t', v = .int .i64 z.2.2 ∧ own = [g1, g2, g3, refG fp q t'] ∧ Rel z.1 t' ∧ (z.2.2 ≠ 11 → ∃ lv' rs', g1 = [(pw, refWObj fp z.2.1 lv')] ∧ g3 = dG rs' ∧ WhG z.2.1 lv' g2 rs' ∧ rs'.length ≤ n + 1)
theorem addR_c (pw fp q : Nat) (s t : Fs) (h : Rel s t) (w : Wh) (lv : Value) (lG : Blks) (rs : List RV) (ho : w.Ok) (hw : WhG w lv lG rs) (hrl : rs.length ≤ 9000) (id : D) (a : Option Addr) (c : Nat) (xs : List B) (hl : xs.length ≤ 100000) (ro : RO) (hs : SlR v8 (.slice a xs.length c) xs ro) :
    C Try.prog 31 #[.pointer (some ⟨pw, 0, none⟩), v32 id, .slice a xs.length c] ro [[(pw, refWObj fp w lv)], lG, dG rs, refG fp q t] fun v own => AddRes pw fp q (w.add s id xs) rs.length v own := by
  obtain ⟨h3, h4⟩ := places_le ho.s2
  have hn := ho.next
  have hs1 := ho.s1
  have hs2 := ho.s2
  have hd := h.down
  obtain ⟨al, cl, rfl⟩ := hw.slice
  by_cases c1 : xs.length ≠ w.size
  · have e : w.add s id xs = (s, w, 1) := if_pos c1
    rw [e]
    refine c_of_w2 (n := 116) Try.func31 rfl rfl rfl (by rfl) fun E => ?_
    repeat' (first | ((with_reducible refine g_wl ?_); (first | refine kN ?_ | ((with_reducible refine g_as ?_); (refine kp (pvm_assign_i rfl) ?_)))) | with_reducible refine w_seq ?_ | with_reducible refine thenP_n ?_ | with_reducible refine thenP_r ?_ | with_reducible refine blockP_r ?_ | with_reducible refine w_ret ?_ | with_reducible refine w_block ?_ | refine w_cond_true rfl ?_ | ((with_reducible refine w_region (id := 1) ?_); (refine wl_pure rfl rfl (pvm_move_s rfl) ?_); refine wl_pure rfl rfl (pv_len_slice FaWheelR3.sl_22 rfl) ?_; (refine wl_pure rfl rfl (pvm_move_p rfl) ?_); refine wl_pure rfl rfl (pv_nilCheck rfl) ?_; refine wl_pure rfl rfl (pv_fieldAddr FaWheelR3.fo_70_2 rfl) ?_; (refine wl_do rfl rfl (opw_load FaWheelR3.one_3 rfl (Has.own 0 0 rfl rfl) ?_)); (refine wl_pure rfl rfl (pv_neq_t rfl rfl (by omega)) ?_); (refine wl_pure rfl rfl (pvm_assign_b rfl) ?_); refine wl_nil ?_) | refine wr (id := 0) rfl ?_ | refine wr (id := 2) rfl ?_)
    exact ret_r (v := .int .i64 1) rfl ⟨_, _, _, t, rfl, rfl, h, fun _ => ⟨_, rs, rfl, rfl, hw, by omega⟩⟩
  have hxl : xs.length = w.size := by omega
  by_cases c2 : w.room = 0
  · have e : w.add s id xs = (s, w, 9) := by unfold Wh.add; rw [if_neg c1, if_pos c2]
    rw [e]
    refine c_of_w2 (n := 116) Try.func31 rfl rfl rfl (by rfl) fun E => ?_
    repeat' (first | ((with_reducible refine g_wl ?_); (first | refine kN ?_ | ((with_reducible refine g_as ?_); (refine kp (pvm_assign_i rfl) ?_)))) | with_reducible refine w_seq ?_ | with_reducible refine thenP_n ?_ | with_reducible refine thenP_r ?_ | with_reducible refine blockP_r ?_ | with_reducible refine w_ret ?_ | with_reducible refine w_block ?_ | refine w_cond_true rfl ?_ | refine w_cond_false rfl ?_ | ((with_reducible refine w_region (id := 1) ?_); (refine wl_pure rfl rfl (pvm_move_s rfl) ?_); refine wl_pure rfl rfl (pv_len_slice FaWheelR3.sl_22 rfl) ?_; (refine wl_pure rfl rfl (pvm_move_p rfl) ?_); refine wl_pure rfl rfl (pv_nilCheck rfl) ?_; refine wl_pure rfl rfl (pv_fieldAddr FaWheelR3.fo_70_2 rfl) ?_; (refine wl_do rfl rfl (opw_load FaWheelR3.one_3 rfl (Has.own 0 0 rfl rfl) ?_)); (refine wl_pure rfl rfl (pv_neq_e rfl rfl (by omega)) ?_); (refine wl_pure rfl rfl (pvm_assign_b rfl) ?_); refine wl_nil ?_) | ((with_reducible refine w_region (id := 3) ?_); (refine wl_pure rfl rfl (pvm_move_p rfl) ?_); refine wl_do rfl rfl (opw_call FaWheelR3.ca_35 rfl [0] (roomR_c pw fp w _ ho _) RoOk.self (fun v own h => ?_)); obtain ⟨rfl, rfl⟩ := h; (refine wl_pure rfl rfl (pv_eql_e rfl rfl c2) ?_); (refine wl_pure rfl rfl (pvm_assign_b rfl) ?_); refine wl_nil ?_) | refine wr (id := 0) rfl ?_ | refine wr (id := 4) rfl ?_)
    exact ret_r (v := .int .i64 9) rfl ⟨_, _, _, t, rfl, rfl, h, fun _ => ⟨_, rs, rfl, rfl, hw, by omega⟩⟩
  by_cases c3 : t.down = true
  · have e : w.add s id xs = (s, w, 11) := by unfold Wh.add; rw [if_neg c1, if_neg c2, if_pos (hd ▸ c3)]
    rw [e]
    refine c_of_w2 (n := 116) Try.func31 rfl rfl rfl (by rfl) fun E => ?_
    repeat' (first | ((with_reducible refine g_wl ?_); (first | refine kN ?_ | ((with_reducible refine g_mv ?_); (refine kp (pvm_move_p rfl) ?_)) | ((with_reducible refine g_as ?_); (first | refine kp (pvm_assign_b rfl) ?_ | refine kp (pvm_assign_i rfl) ?_)) | ((with_reducible refine g_ld ?_); (first | refine kd (opw_load Fb.h rfl (Has.own 0 0 rfl rfl) ?_) | refine kd (opw_load Fb.h rfl (Has.own 3 0 rfl rfl) ?_))) | refine kp (pv_nilCheck rfl) ?_ | refine kp (pv_fieldAddr Ft.h rfl) ?_)) | with_reducible refine w_seq ?_ | with_reducible refine thenP_n ?_ | with_reducible refine thenP_r ?_ | with_reducible refine blockP_n ?_ | with_reducible refine blockP_r ?_ | with_reducible refine w_skip ?_ | with_reducible refine w_ret ?_ | with_reducible refine w_block ?_ | refine w_cond_false rfl ?_ | refine w_cond rfl (fun _ => ?_) (fun _ => ?_) | ((with_reducible refine w_region (id := 1) ?_); (refine wl_pure rfl rfl (pvm_move_s rfl) ?_); refine wl_pure rfl rfl (pv_len_slice FaWheelR3.sl_22 rfl) ?_; (refine wl_pure rfl rfl (pvm_move_p rfl) ?_); refine wl_pure rfl rfl (pv_nilCheck rfl) ?_; refine wl_pure rfl rfl (pv_fieldAddr FaWheelR3.fo_70_2 rfl) ?_; (refine wl_do rfl rfl (opw_load FaWheelR3.one_3 rfl (Has.own 0 0 rfl rfl) ?_)); (refine wl_pure rfl rfl (pv_neq_e rfl rfl (by omega)) ?_); (refine wl_pure rfl rfl (pvm_assign_b rfl) ?_); refine wl_nil ?_) | ((with_reducible refine w_region (id := 3) ?_); (refine wl_pure rfl rfl (pvm_move_p rfl) ?_); refine wl_do rfl rfl (opw_call FaWheelR3.ca_35 rfl [0] (roomR_c pw fp w _ ho _) RoOk.self (fun v own h => ?_)); obtain ⟨rfl, rfl⟩ := h; (refine wl_pure rfl rfl (pv_eql_f rfl rfl c2) ?_); (refine wl_pure rfl rfl (pvm_assign_b rfl) ?_); refine wl_nil ?_) | refine wr (id := 0) rfl ?_ | refine wr (id := 5) rfl ?_ | refine wr (id := 6) rfl ?_)
    · exact ret_r (v := .int .i64 11) rfl ⟨_, _, _, t, rfl, rfl, h, fun hh => absurd rfl hh⟩
    · have hx : t.down = false := ‹_›
      rw [c3] at hx; cases hx
  have c3' : s.down = false := by rw [← hd]; simpa using c3
  have hnx : w.next < 8 * places w.size := by unfold Wh.room at c2; omega
  obtain ⟨sec, hsec⟩ : ∃ sec, sec = w.next / places w.size := ⟨_, rfl⟩
  have hsec8 : sec < 8 := by rw [hsec]; exact (Nat.div_lt_iff_lt_mul (by omega)).2 hnx
  have hat := pAt_le hs1 hs2 hnx
  obtain ⟨s1, hs1e⟩ : ∃ s1, s1 = (s.enters w sec).1 := ⟨_, rfl⟩
  obtain ⟨e1, he1⟩ : ∃ e1, e1 = (s.enters w sec).2 := ⟨_, rfl⟩
  have e : w.add s id xs = if e1 ≠ 0 then (s1, w, e1) else Wh.add3 s1 w id xs := by
    unfold Wh.add; rw [if_neg c1, if_neg c2, if_neg (by simp [c3']), ← hsec, ← hs1e, ← he1]
  obtain ⟨x, hx⟩ : ∃ x, x = pAt w.size w.next := ⟨_, rfl⟩
  obtain ⟨out, hout⟩ : ∃ out, out = w.out id xs := ⟨_, rfl⟩
  have hol : out.length = w.size + 12 := by rw [hout, Wh.out, Crc.put_len, List.length_append, List.length_append, Crc.be4_length, Crc.be4_length]; omega
  rw [← hx] at hat
  obtain ⟨w1, hw1⟩ : ∃ w1 : Wh, w1 = { w with ready := (sec : Int) } := ⟨_, rfl⟩
  have hrr : refReady (sec : Int) = ((6 + sec : Nat) : Int) := by unfold refReady; rw [if_neg (by omega)]; push_cast; rfl
  rw [e]
  refine c_of_w2 (n := 116) Try.func31 rfl rfl rfl (by rfl) fun E => ?_
  repeat' (first | ((with_reducible refine g_wl ?_); (first | refine kN ?_ | ((with_reducible refine g_mv ?_); (refine kp (pvm_move_p rfl) ?_)) | ((with_reducible refine g_as ?_); (first | refine kp (pvm_assign_b rfl) ?_ | refine kp (pvm_assign_i rfl) ?_)) | ((with_reducible refine g_ld ?_); (first | refine kd (opw_load Fb.h rfl (Has.own 0 0 rfl rfl) ?_) | refine kd (opw_load Fb.h rfl (Has.own 3 0 rfl rfl) ?_))) | refine kp (pv_nilCheck rfl) ?_ | refine kp (pv_fieldAddr Ft.h rfl) ?_)) | with_reducible refine w_seq ?_ | with_reducible refine thenP_n ?_ | with_reducible refine blockP_n ?_ | with_reducible refine w_skip ?_ | with_reducible refine w_block ?_ | refine w_cond_false rfl ?_ | refine w_cond rfl (fun _ => ?_) (fun _ => ?_) | ((with_reducible refine w_region (id := 1) ?_); (refine wl_pure rfl rfl (pvm_move_s rfl) ?_); refine wl_pure rfl rfl (pv_len_slice FaWheelR3.sl_22 rfl) ?_; (refine wl_pure rfl rfl (pvm_move_p rfl) ?_); refine wl_pure rfl rfl (pv_nilCheck rfl) ?_; refine wl_pure rfl rfl (pv_fieldAddr FaWheelR3.fo_70_2 rfl) ?_; (refine wl_do rfl rfl (opw_load FaWheelR3.one_3 rfl (Has.own 0 0 rfl rfl) ?_)); (refine wl_pure rfl rfl (pv_neq_e rfl rfl (by omega)) ?_); (refine wl_pure rfl rfl (pvm_assign_b rfl) ?_); refine wl_nil ?_) | ((with_reducible refine w_region (id := 3) ?_); (refine wl_pure rfl rfl (pvm_move_p rfl) ?_); refine wl_do rfl rfl (opw_call FaWheelR3.ca_35 rfl [0] (roomR_c pw fp w _ ho _) RoOk.self (fun v own h => ?_)); obtain ⟨rfl, rfl⟩ := h; (refine wl_pure rfl rfl (pv_eql_f rfl rfl c2) ?_); (refine wl_pure rfl rfl (pvm_assign_b rfl) ?_); refine wl_nil ?_) | refine wr (id := 0) rfl ?_ | refine wr (id := 5) rfl ?_)
  · have hx : t.down = true := ‹_›
    exact absurd hx c3
  repeat' (first | ((with_reducible refine g_wl ?_); (first | refine kN ?_ | ((with_reducible refine g_mv ?_); (first | refine kp (pvm_move_p rfl) ?_ | refine kp (pvm_move_t rfl) ?_)) | ((with_reducible refine g_as ?_); (refine kp (pvm_assign_i rfl) ?_)) | ((with_reducible refine g_ld ?_); (refine kd (opw_load Fb.h rfl (Has.own 0 0 rfl rfl) ?_))) | ((with_reducible refine g_cf 62 ?_); (refine kd (opw_call Fb.h rfl [0] (atR_c pw fp w _ ho w.next hnx _) RoOk.self (fun v own h => ?_)); obtain ⟨rfl, rfl⟩ := h; rw [← hx, ← hsec])) | refine kp (pv_nilCheck rfl) ?_ | refine kp (pv_fieldAddr Ft.h rfl) ?_ | refine kp (pv_extract rfl rfl) ?_)) | with_reducible refine thenP_n ?_ | refine wr (id := 7) rfl ?_)
  refine w_cut (fun ρ ro' own => ro' = ro ∧ e1 = 0 ∧ ∃ t1, Kn [(0, .pointer (some ⟨pw, 0, none⟩)), (1, v32 id), (2, .slice a xs.length c), (7, .int .i64 ((6 + sec : Nat) : Int)), (8, .int .i64 x)] ρ ∧ Rel s1 t1 ∧ Vc.Sub [[(pw, refWObj fp w1 (.slice al rs.length cl))], lG, dG rs, refG fp q t1] own) ?_ ?_
  · by_cases hsr : (sec : Int) = w.ready
    · have hee : s.enters w sec = (s, 0) := if_pos (.inl hsr)
      have hww : w1 = w := by rw [hw1, hsr]
      repeat' (first | with_reducible refine w_seq ?_ | with_reducible refine thenP_n ?_ | with_reducible refine w_skip ?_ | refine w_cond_false rfl ?_ | ((with_reducible refine w_region (id := 8) ?_); (refine wl_pure rfl rfl (pvm_move_i rfl) ?_); (refine wl_pure rfl rfl (pvm_move_p rfl) ?_); refine wl_pure rfl rfl (pv_nilCheck rfl) ?_; refine wl_pure rfl rfl (pv_fieldAddr FaWheelR3.fo_70_4 rfl) ?_; (refine wl_do rfl rfl (opw_load FaWheelR3.one_3 rfl (Has.own 0 0 rfl rfl) ?_)); (refine wl_pure rfl rfl (pv_neq_e rfl rfl (by rw [← hsr, hrr])) ?_); refine wl_nil ?_))
      refine ⟨rfl, by rw [he1, hee], t, ⟨rfl, rfl, rfl, rfl, rfl, trivial⟩, by rw [hs1e, hee]; exact h, ?_⟩
      rw [hww]; exact Sub.refl
    · have hee : s.enters w sec = s.clr (6 + (sec : Int)) := by
        unfold Fs.enters Fs.clr
        by_cases hbl : s.blank ((6 + (sec : Int)) * 256) 256 = true
        · rw [if_pos (.inr hbl), if_pos hbl]
        · rw [if_neg (by rintro (h' | h'); exact hsr h'; exact hbl h'), if_neg hbl]
      have hne : ((6 + sec : Nat) : Int) ≠ refReady w.ready := by
        unfold refReady; split
        · omega
        · omega
      repeat' (first | ((with_reducible refine g_wl ?_); (first | refine kN ?_ | ((with_reducible refine g_mv ?_); (first | refine kp (pvm_move_p rfl) ?_ | refine kp (pvm_move_i rfl) ?_)) | ((with_reducible refine g_as ?_); (refine kp (pvm_assign_i rfl) ?_)) | ((with_reducible refine g_bo ?_); refine kp (pv_neq rfl rfl) ?_) | ((with_reducible refine g_ld ?_); (refine kd (opw_load Fb.h rfl (Has.own 0 0 rfl rfl) ?_))) | ((with_reducible refine g_st ?_); (refine kn (opw_store 1 0 Ft.h rfl rfl rfl rfl rfl (Nat.le_of_ble_eq_true rfl) (noFr_zero _ _) ?_))) | ((with_reducible refine g_cf 51 ?_); (refine kd (opw_call Fb.h rfl [3] (clearR_c fp q s t h ((6 + sec : Nat) : Int) (by omega) _) RoOk.self (fun v own h => ?_)); obtain ⟨t2, rfl, rfl, hrel2⟩ := h; rw [show ((6 + sec : Nat) : Int) = 6 + (sec : Int) by push_cast; rfl, ← hee, ← he1]; rw [show ((6 + sec : Nat) : Int) = 6 + (sec : Int) by push_cast; rfl, ← hee, ← hs1e] at hrel2)) | refine kp (pv_nilCheck rfl) ?_ | refine kp (pv_fieldAddr Ft.h rfl) ?_)) | with_reducible refine w_seq ?_ | with_reducible refine thenP_n ?_ | with_reducible refine thenP_r ?_ | with_reducible refine w_skip ?_ | with_reducible refine w_ret ?_ | refine w_cond_true rfl ?_ | (refine w_cond_dec rfl (fun _ => ?_) (fun _ => ?_) <;> try (exfalso; omega)) | ((with_reducible refine w_region (id := 8) ?_); (refine wl_pure rfl rfl (pvm_move_i rfl) ?_); (refine wl_pure rfl rfl (pvm_move_p rfl) ?_); refine wl_pure rfl rfl (pv_nilCheck rfl) ?_; refine wl_pure rfl rfl (pv_fieldAddr FaWheelR3.fo_70_4 rfl) ?_; (refine wl_do rfl rfl (opw_load FaWheelR3.one_3 rfl (Has.own 0 0 rfl rfl) ?_)); (refine wl_pure rfl rfl (pv_neq_t rfl rfl hne) ?_); refine wl_nil ?_) | refine wr (id := 9) rfl ?_ | refine wr (id := 10) rfl ?_ | refine wr (id := 11) rfl ?_ | refine wr (id := 12) rfl ?_)
      · have h1 : e1 ≠ 0 := ‹_›
        rw [if_pos h1]
        exact ret_s (v := .int .i64 e1) [[(pw, refWObj fp w (.slice al rs.length cl))], lG, dG rs, refG fp q t2] rfl (Sub.pk' [1, 1, 1, 0] rfl) ⟨_, _, _, t2, rfl, rfl, hrel2, fun _ => ⟨_, rs, rfl, rfl, hw, by omega⟩⟩
      · have h1 : ¬ e1 ≠ 0 := ‹_›
        refine ⟨rfl, by simpa using h1, t2, ⟨rfl, rfl, rfl, rfl, rfl, trivial⟩, hrel2, ?_⟩
        have hobj : refWObj fp w1 (.slice al rs.length cl) = .cells #[.pointer (some ⟨fp, 0, none⟩), v32 w.gen, .int .i64 w.size, .slice al rs.length cl, .int .i64 (6 + (sec : Int)), .int .i64 w.next] 70 (0, 0) := by
          rw [hw1]; unfold refWObj; dsimp only; rw [hrr]; push_cast; rfl
        rw [hobj]
        exact Sub.pk' [1, 1, 1, 0] rfl
  · rintro ρ ro' own ⟨rfl, h0, t1, hk, hrel1, hsub⟩
    obtain ⟨ρ', rfl⟩ := hk.ex
    refine w_sub hsub ?_
    rw [if_neg (fun hh => hh h0)]
    obtain ⟨s2, hs2e⟩ : ∃ s2, s2 = (s1.program x out).1 := ⟨_, rfl⟩
    obtain ⟨e2, he2⟩ : ∃ e2, e2 = (s1.program x out).2 := ⟨_, rfl⟩
    obtain ⟨s3, hs3e⟩ : ∃ s3, s3 = (s2.program ((x : Int) + out.length) [0#8]).1 := ⟨_, rfl⟩
    obtain ⟨e3, he3⟩ : ∃ e3, e3 = (s2.program ((x : Int) + out.length) [0#8]).2 := ⟨_, rfl⟩
    have hc2 : e2 = 0 ∨ e2 = 11 := by rw [he2]; exact program_code (by omega)
    have hc3 : e3 = 0 ∨ e3 = 11 := by rw [he3, ← Int.natCast_add]; exact program_code (by simp; omega)
    have hadd : Wh.add3 s1 w id xs = if e2 ≠ 0 then (s2, w, e2) else if e3 ≠ 0 then (s3, w, e3) else (s3, { w with ready := (sec : Nat), next := w.next + 1, recs := w.recs ++ [(id, xs)] }, 0) := by
      unfold Wh.add3; rw [← hx, ← hout, ← hs2e, ← he2, ← hs3e, ← he3, ← hsec]
    rw [hadd]
    have hg1w : w1.gen = w.gen := by rw [hw1]
    have hbo : ∀ (a1 : Option Addr) (k1 : Nat) (a2 : Option Addr) (k2 : Nat), Crc.put (allB [(a1, k1, be4 w1.gen), (a2, k2, be4 id), (a, c, xs)]) = out := fun a1 k1 a2 k2 => by rw [hout, hg1w]; unfold allB Wh.out; simp
    repeat' (first | with_reducible refine w_seq ?_ | with_reducible refine thenP_n ?_ | ((with_reducible refine w_region (id := 13) ?_); all_goals (refine wl_pure rfl rfl (pvm_move_p rfl) ?_); all_goals (refine wl_pure rfl rfl (pv_nilCheck rfl) ?_); all_goals (refine wl_pure rfl rfl (pv_fieldAddr FaWheelR3.fo_70_1 rfl) ?_); all_goals (refine wl_do rfl rfl (opw_load FaWheelR3.one_35 rfl (Has.own 0 0 rfl rfl) ?_)); all_goals (refine wl_do rfl rfl (opw_call FaWheelR3.ca_48 rfl [] (four_c w1.gen _) RoOk.self (fun v own h => ?_)); obtain ⟨g1, rfl, hg1⟩ := h; obtain ⟨a1, k1, rfl, hle1⟩ := hg1.slice; obtain ⟨r1, hr1, ok1⟩ := hg1.ro); all_goals (refine wl_pure rfl rfl (pvm_move_32 rfl) ?_); all_goals (refine wl_do rfl rfl (opw_call FaWheelR3.ca_48 rfl [] (four_c id _) RoOk.self (fun v own h => ?_)); obtain ⟨g2, rfl, hg2⟩ := h; obtain ⟨a2, k2, rfl, hle2⟩ := hg2.slice; obtain ⟨r2, hr2, ok2⟩ := hg2.ro); all_goals (refine wl_pure rfl rfl (pvm_move_s rfl) ?_); all_goals (refine wl_do rfl rfl (opw_buildRow (f := encS) [(a1, k1, be4 w1.gen), (a2, k2, be4 id), (a, c, xs)] Try.underlying117 FaWheelR3.sz_22 FaWheelR3.zero_22 rfl rfl (by omega) rfl (fun _ => rfl) fun nb => ?_)); all_goals (refine wl_do rfl rfl (opw_call FaWheelR3.ca_70 rfl [] (join_c (some ⟨nb, 0, none⟩) 3 [(a1, k1, be4 w1.gen), (a2, k2, be4 id), (a, c, xs)] (by simp) (by intro y hy; simp only [List.mem_cons, List.not_mem_nil, or_false] at hy; rcases hy with rfl | rfl | rfl <;> dsimp only <;> first | (rw [Crc.be4_length]; omega) | omega) ([(nb, AtO encS 0 [(a1, k1, be4 w1.gen), (a2, k2, be4 id), (a, c, xs)])] ++ (r2 ++ (r1 ++ ro'))) ((SlR.of_has (by simp)).mono (by intro y hy; exact List.mem_append_left _ hy)) (by intro y hy; simp only [List.mem_cons, List.not_mem_nil, or_false] at hy; rcases hy with rfl | rfl | rfl; exact hr1.mono (by intro z hz; simp [hz]); exact hr2.mono (by intro z hz; simp [hz]); exact hs.mono (by intro z hz; simp [hz]))) (RoOk.append (roOk_arr 6 0 rfl (fun k hk => by rw [Nat.zero_add])) (RoOk.append (ok2 _ _ (by simp [dr])) (RoOk.append (ok1 _ _ (by simp [dr])) RoOk.self))) (fun v own h => ?_)); obtain ⟨g3, rfl, hg3⟩ := h; obtain ⟨a3, k3, rfl, hle3⟩ := hg3.slice; obtain ⟨r3, hr3, ok3⟩ := hg3.ro); all_goals (refine wl_do rfl rfl (opw_call FaWheelR3.ca_69 rfl [] (refPut_c a3 _ k3 _ rfl (by unfold allB; simp [Crc.be4_length]; omega) r3 hr3) (ok3 _ _ (by simp [dr])) (fun v own h => ?_)); obtain ⟨g4, rfl, hg40⟩ := h; have hg4 : Sl v8 5 v out g4 := (by rw [← hbo a1 k1 a2 k2]; exact hg40); obtain ⟨a4, k4, rfl, hle4⟩ := hg4.slice; obtain ⟨r4, hr4, ok4⟩ := hg4.ro); all_goals (refine wl_pure rfl rfl (pvm_assign_s rfl) ?_); all_goals (refine wl_nil ?_)))
    repeat' (first | ((with_reducible refine g_wl ?_); (first | refine kN ?_ | ((with_reducible refine g_mv ?_); (first | refine kp (pvm_move_p rfl) ?_ | refine kp (pvm_move_s rfl) ?_ | refine kp (pvm_move_i rfl) ?_)) | ((with_reducible refine g_as ?_); (refine kp (pvm_assign_i rfl) ?_)) | ((with_reducible refine g_bo ?_); refine kp (pv_neq rfl rfl) ?_) | ((with_reducible refine g_ld ?_); (refine kd (opw_load Fb.h rfl (Has.own 4 0 rfl rfl) ?_))) | ((with_reducible refine g_cf 24 ?_); (refine kd (opw_call Fb.h rfl [7] (programR_c fp q s1 t1 hrel1 x a4 k4 out (by omega) r4 hr4) (ok4 _ _ (by simp [dr])) (fun v own h => ?_)); obtain ⟨t2, rfl, rfl, hrel2⟩ := h; rw [← he2]; rw [← hs2e] at hrel2)) | refine kp (pv_nilCheck rfl) ?_ | refine kp (pv_fieldAddr Ft.h rfl) ?_)) | with_reducible refine w_seq ?_ | with_reducible refine thenP_n ?_ | with_reducible refine thenP_r ?_ | with_reducible refine w_skip ?_ | with_reducible refine w_ret ?_ | (refine w_cond_dec rfl (fun _ => ?_) (fun _ => ?_) <;> try (exfalso; omega)) | refine wr (id := 14) rfl ?_ | refine wr (id := 15) rfl ?_ | refine wr (id := 16) rfl ?_)
    · have h2 : e2 ≠ 0 := ‹_›
      rw [if_pos h2]
      exact ret_s (v := .int .i64 e2) [[], [], [], refG fp q t2] rfl (Sub.pk' [0] rfl) ⟨_, _, _, t2, rfl, rfl, hrel2, fun hh => absurd (hc2.resolve_left h2) hh⟩
    · have h2 : ¬ e2 ≠ 0 := ‹_›
      rw [if_neg h2]
      repeat' (first | ((with_reducible refine g_wl ?_); (first | refine kN ?_ | ((with_reducible refine g_mv ?_); (refine kp (pvm_move_i rfl) ?_)) | ((with_reducible refine g_as ?_); (refine kp (pvm_assign_i rfl) ?_)) | ((with_reducible refine g_bo ?_); refine kp (pv_neq rfl rfl) ?_))) | with_reducible refine w_seq ?_ | with_reducible refine thenP_n ?_ | with_reducible refine thenP_r ?_ | with_reducible refine w_skip ?_ | with_reducible refine w_ret ?_ | (refine w_cond_dec rfl (fun _ => ?_) (fun _ => ?_) <;> try (exfalso; omega)) | ((with_reducible refine w_region (id := 17) ?_); (refine wl_pure rfl rfl (pvm_move_p rfl) ?_); refine wl_pure rfl rfl (pv_nilCheck rfl) ?_; refine wl_pure rfl rfl (pv_fieldAddr FaWheelR3.fo_70_0 rfl) ?_; (refine wl_do rfl rfl (opw_load FaWheelR3.one_44 rfl (Has.own 5 0 rfl rfl) ?_)); (refine wl_pure rfl rfl (pvm_move_i rfl) ?_); (refine wl_pure rfl rfl (pvm_move_s rfl) ?_); refine wl_pure rfl rfl (pv_len_slice FaWheelR3.sl_22 rfl) ?_; (refine wl_pure rfl rfl (pvi_e ((x : Int) + out.length) rfl (pv_iadd rfl rfl (by omega))) ?_); refine wl_do rfl rfl (opw_buildRow (f := v8) [(BitVec.ofNat 8 0)] Try.underlying22 FaWheelR3.sz_5 FaWheelR3.zero_5 rfl rfl (by omega) rfl (fun _ => rfl) fun nb => ?_); refine wl_do rfl rfl (opw_call FaWheelR3.ca_24 rfl [0] (programR_c fp q s2 t2 hrel2 ((x : Int) + out.length) (some ⟨nb, 0, none⟩) 1 [0#8] (by decide) [(nb, AtO v8 0 [0#8])] (SlR.of_has (by decide))) (roOk_arr 8 0 rfl (fun k hk => by rw [Nat.zero_add])) (fun v own h => ?_)); obtain ⟨t3, rfl, rfl, hrel3⟩ := h; rw [← he3]; rw [← hs3e] at hrel3; (refine wl_pure rfl rfl (pvm_assign_i rfl) ?_); refine wl_nil ?_) | refine wr (id := 18) rfl ?_ | refine wr (id := 19) rfl ?_)
      · have h3' : e3 ≠ 0 := ‹_›
        rw [if_pos h3']
        exact ret_s (v := .int .i64 e3) [[], [], [], refG fp q t3] rfl (Sub.pk' [0] rfl) ⟨_, _, _, t3, rfl, rfl, hrel3, fun hh => absurd (hc3.resolve_left h3') hh⟩
      · have h3' : ¬ e3 ≠ 0 := ‹_›
        rw [if_neg h3']
        refine w_sub (own' := [[(pw, refWObj fp w1 (.slice al rs.length cl))], lG, dG rs, refG fp q t3]) (Sub.pk' [5, 5, 5, 0] rfl) ?_
        have hjl : allB [((a, c, xs) : BSl)] = xs := by unfold allB; simp
        repeat' (first | with_reducible refine w_seq ?_ | with_reducible refine thenP_n ?_ | (refine w_draw (id := 20) [14] (hold [(pw, refWObj fp w1 (.slice al rs.length cl))]) Fa.mixed (hold_ok (by simp [dr])) ?_; (refine wh_pure 0 rfl (by kernel_rfl) rfl rfl (pvm_move_p rfl) ?_); (refine wh_pure 1 rfl (by kernel_rfl) rfl rfl (pvm_move_p rfl) ?_); refine wh_pure 2 rfl (by kernel_rfl) rfl rfl (pv_nilCheck rfl) ?_; refine wh_pure 3 rfl (by kernel_rfl) rfl rfl (pv_fieldAddr FaWheelR3.fo_70_3 rfl) ?_; (refine wh_load 4 rfl (by kernel_rfl) rfl rfl FaWheelR3.one_67 rfl (Has.hold 0 rfl rfl) ?_); (refine wh_pure 5 rfl (by kernel_rfl) rfl rfl (pvm_move_32 rfl) ?_); (refine wh_pure 6 rfl (by kernel_rfl) rfl rfl (pvm_move_s rfl) ?_); (refine wh_do 7 (by kernel_rfl) rfl rfl rfl rfl (opw_buildRow (f := encS) [(a, c, xs)] Try.underlying117 FaWheelR3.sz_22 FaWheelR3.zero_22 rfl rfl (by omega) rfl (fun _ => rfl) fun nb => ⟨(hold_ok (by simp [dr])), ?_⟩)); refine wh_do 8 (by kernel_rfl) rfl rfl rfl rfl (opw_call FaWheelR3.ca_70 rfl [] (join_c (some ⟨nb, 0, none⟩) 1 [(a, c, xs)] (by simp) (by intro y hy; rw [List.mem_singleton] at hy; rw [hy]; dsimp only; omega) ([(nb, AtO encS 0 [(a, c, xs)])] ++ ro') ((SlR.of_has (by simp)).mono (by intro y hy; exact List.mem_append_left _ hy)) (by intro y hy; rw [List.mem_singleton] at hy; rw [hy]; exact hs.mono (by intro z hz; exact List.mem_append_right _ hz))) (RoOk.append (roOk_arr 4 0 rfl (fun k hk => by rw [Nat.zero_add])) RoOk.self) (fun v own h => ?_)); obtain ⟨g7, rfl, hg70⟩ := h; have hg7 : Sl v8 5 v xs g7 := (by rw [hjl] at hg70; exact hg70); obtain ⟨a7, c7, rfl, hle7⟩ := hg7.slice; refine ⟨(hold_ok (by simp [dr])), ?_⟩; refine wh_pure 9 rfl (by kernel_rfl) rfl rfl (pv_build_structL (fs := structF Try.prog 104) FaWheelR3.sf_104 FaWheelR3.zero_104 FaWheelR3.pl_104 rfl) ?_; (refine wh_do 10 (by kernel_rfl) rfl rfl rfl rfl (opw_buildRec2 (enc := RV.enc) (RV.mk id a7 c7 g7 xs) Try.underlying67 FaWheelR3.sz_104 FaWheelR3.zero_104 rfl rfl fun nb => ⟨(hold_ok (by simp [dr])), ?_⟩)); refine wh_do 11 (by kernel_rfl) rfl rfl rfl rfl (opw_appendM (enc := RV.enc) (xs := rs) (ys := [RV.mk id a7 c7 g7 xs]) 2 FaWheelR3.sl_67 FaWheelR3.ei_104 (by omega) (fun _ => rfl) RV.one RV.zero rfl rfl hw.list rfl rfl (rd_rec2 6 0 rfl) (by show (_ + 1) * 32 ≤ _; omega) (by omega) (fun v g h => ?_)); obtain ⟨a9, c9, rfl⟩ := h.slice; refine ⟨(hold_ok (by simp [dr])), ?_⟩; refine wh_pure 12 rfl (by kernel_rfl) rfl rfl (pv_nilCheck rfl) ?_; refine wh_pure 13 rfl (by kernel_rfl) rfl rfl (pv_fieldAddr FaWheelR3.fo_70_3 rfl) ?_; (refine wh_rel 14 (by kernel_rfl) rfl rfl rfl rfl (opw_store 1 0 FaWheelR3.sz_67 rfl rfl rfl rfl rfl (Nat.le_of_ble_eq_true rfl) (noFr_zero _ _) ?_)); (refine wz_done (by kernel_rfl) ?_)))
        obtain ⟨r9, hr9⟩ : ∃ r9, r9 = RV.mk id a7 c7 g7 xs := ⟨_, rfl⟩
        rw [← hr9] at h
        have hdg : dG (rs ++ [r9]) = dG rs ++ g7 := by rw [dG_snoc, hr9]
        refine w_sub (own' := [[(pw, refWObj fp w1 (.slice a9 (rs ++ [r9]).length c9))], g, dG (rs ++ [r9]), refG fp q t3]) (Sub.pk' [1, 1, 1, 0, 0] ?_) ?_
        · rw [hdg, hr9]
          show _ = ([[(pw, refWObj fp w1 (.slice a9 (rs ++ [RV.mk id a7 c7 g7 xs]).length c9))], g, dG rs, g7, refG fp q t3]).flatten
          simp
        obtain ⟨w2, hw2⟩ : ∃ w2 : Wh, w2 = { w with ready := (sec : Nat), next := w.next + 1, recs := w.recs ++ [(id, xs)] } := ⟨_, rfl⟩
        have hobj2 : refWObj fp w2 (.slice a9 (rs ++ [r9]).length c9) = .cells #[.pointer (some ⟨fp, 0, none⟩), v32 w1.gen, .int .i64 w1.size, .slice a9 (rs ++ [r9]).length c9, .int .i64 (refReady w1.ready), .int .i64 ((w1.next : Int) + 1)] 70 (0, 0) := by
          rw [hw2, hw1]; rfl
        have hn1 : w1.next = w.next := by rw [hw1]
        repeat' (first | ((with_reducible refine g_wl ?_); (first | refine kN ?_ | ((with_reducible refine g_mv ?_); (refine kp (pvm_move_p rfl) ?_)) | ((with_reducible refine g_as ?_); (refine kp (pvm_assign_i rfl) ?_)) | ((with_reducible refine g_bo ?_); (refine kp (pv_iadd rfl rfl (by omega)) ?_)) | ((with_reducible refine g_ld ?_); (refine kd (opw_load Fb.h rfl (Has.own 0 0 rfl rfl) ?_))) | ((with_reducible refine g_st ?_); (refine kn (opw_store 0 0 Ft.h rfl rfl rfl rfl rfl (Nat.le_of_ble_eq_true rfl) (noFr_zero _ _) ?_))) | refine kp (pv_nilCheck rfl) ?_ | refine kp (pv_fieldAddr Ft.h rfl) ?_)) | with_reducible refine w_seq ?_ | with_reducible refine thenP_n ?_ | with_reducible refine w_ret ?_ | refine wr (id := 21) rfl ?_ | refine wr (id := 22) rfl ?_)
        refine ret_s (v := .int .i64 0) [[(pw, refWObj fp w2 (.slice a9 (rs ++ [r9]).length c9))], g, dG (rs ++ [r9]), refG fp q t3] rfl (by rw [hobj2]; exact Sub.flat rfl) ⟨_, _, _, t3, rfl, rfl, hrel3, fun _ => ⟨_, rs ++ [r9], by rw [hw2], rfl, ⟨h, ?_, ?_, ?_⟩, ?_⟩⟩
        · rw [List.map_append, hw.recs, hr9]; rfl
        · intro y hy
          rcases List.mem_append.1 hy with hy | hy
          · exact hw.ok y hy
          · rw [List.mem_singleton] at hy; rw [hy, hr9]
            obtain ⟨b', data', h1', h2', h3', h4'⟩ := hg7.addr (by omega)
            refine ⟨b', 0, data', h1', h3', hle7, fun i hi => ?_⟩
            rw [Nat.zero_add]; conv => rhs; rw [← h4']
            rw [List.getElem?_take, if_pos hi]
        · rw [List.length_append, List.length_singleton]; omega
        · rw [List.length_append, List.length_singleton]; omega
end Go.Proofs.Ytnohdfhhdppflaa
