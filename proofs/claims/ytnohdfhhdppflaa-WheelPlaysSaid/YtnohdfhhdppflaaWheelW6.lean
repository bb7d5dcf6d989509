/- Wheels, walked: Add. -/
import Derived.Test.YtnohdfhhdppflaaWheelW5
namespace Go.Proofs.Ytnohdfhhdppflaa
open Go Go.Vc Go.Fl Go.Sha
set_option linter.unusedVariables false
set_option linter.unusedSimpArgs false
set_option maxRecDepth 100000
set_option maxHeartbeats 4000000
namespace FaWheelW6
theorem ca_10 : callable Try.prog 10 = true := by kernel_rfl
theorem ca_34 : callable Try.prog 34 = true := by kernel_rfl
theorem ca_38 : callable Try.prog 38 = true := by kernel_rfl
theorem ca_45 : callable Try.prog 45 = true := by kernel_rfl
theorem ca_57 : callable Try.prog 57 = true := by kernel_rfl
theorem ca_59 : callable Try.prog 59 = true := by kernel_rfl
theorem ca_65 : callable Try.prog 65 = true := by kernel_rfl
theorem ca_66 : callable Try.prog 66 = true := by kernel_rfl
theorem ca_67 : callable Try.prog 67 = true := by kernel_rfl
theorem ca_68 : callable Try.prog 68 = true := by kernel_rfl
theorem ei_104 : elemInfo Try.prog 104 = some (2, 32, (.agg #[(.int .u32 0), (.slice none 0 0)])) := by kernel_rfl
theorem fo_97_0 : fieldOff Try.prog 97 0 = some 0 := by kernel_rfl
theorem fo_97_1 : fieldOff Try.prog 97 1 = some 1 := by kernel_rfl
theorem fo_97_2 : fieldOff Try.prog 97 2 = some 2 := by kernel_rfl
theorem fo_97_3 : fieldOff Try.prog 97 3 = some 3 := by kernel_rfl
theorem fo_97_4 : fieldOff Try.prog 97 4 = some 4 := by kernel_rfl
theorem fo_97_5 : fieldOff Try.prog 97 5 = some 5 := by kernel_rfl
theorem one_25 : isOne Try.prog 25 = true := by kernel_rfl
theorem one_3 : isOne Try.prog 3 = true := by kernel_rfl
theorem one_35 : isOne Try.prog 35 = true := by kernel_rfl
theorem one_67 : isOne Try.prog 67 = true := by kernel_rfl
theorem pl_104 : ∀ w, ((structF Try.prog 104).mapM fun f => do pure (f.offset, ← sizeOf f.type) : Sem (Array (Nat × Nat))).run Try.prog w = .ok #[(0, 1), (1, 1)] w := fun w => by kernel_rfl
theorem sf_104 : Try.prog.underlying 104 = some (.struct (structF Try.prog 104)) := by kernel_rfl
theorem sl_22 : sliceOf Try.prog 22 = some (5, 1) := by kernel_rfl
theorem sl_67 : sliceOf Try.prog 67 = some (104, 2) := by kernel_rfl
theorem sz_104 : sz Try.prog 104 = some 2 := by kernel_rfl
theorem sz_22 : sz Try.prog 22 = some 1 := by kernel_rfl
theorem sz_3 : sz Try.prog 3 = some 1 := by kernel_rfl
theorem sz_5 : sz Try.prog 5 = some 1 := by kernel_rfl
theorem sz_67 : sz Try.prog 67 = some 1 := by kernel_rfl
theorem zero_104 : zeroOf Try.prog 104 = some (.agg #[(.int .u32 0), (.slice none 0 0)]) := by kernel_rfl
theorem zero_22 : zeroOf Try.prog 22 = some (.slice none 0 0) := by kernel_rfl
theorem zero_5 : zeroOf Try.prog 5 = some (.int .u8 0) := by kernel_rfl
instance : Fb (callable Try.prog 10) := ⟨ca_10⟩
instance : Fb (callable Try.prog 34) := ⟨ca_34⟩
instance : Fb (callable Try.prog 38) := ⟨ca_38⟩
instance : Fb (callable Try.prog 45) := ⟨ca_45⟩
instance : Fb (callable Try.prog 57) := ⟨ca_57⟩
instance : Fb (callable Try.prog 59) := ⟨ca_59⟩
instance : Fb (callable Try.prog 65) := ⟨ca_65⟩
instance : Fb (callable Try.prog 66) := ⟨ca_66⟩
instance : Fb (callable Try.prog 67) := ⟨ca_67⟩
instance : Fb (callable Try.prog 68) := ⟨ca_68⟩
instance : Ft (elemInfo Try.prog 104) (2, 32, (.agg #[(.int .u32 0), (.slice none 0 0)])) := ⟨ei_104⟩
instance : Ft (fieldOff Try.prog 97 0) (0) := ⟨fo_97_0⟩
instance : Ft (fieldOff Try.prog 97 1) (1) := ⟨fo_97_1⟩
instance : Ft (fieldOff Try.prog 97 2) (2) := ⟨fo_97_2⟩
instance : Ft (fieldOff Try.prog 97 3) (3) := ⟨fo_97_3⟩
instance : Ft (fieldOff Try.prog 97 4) (4) := ⟨fo_97_4⟩
instance : Ft (fieldOff Try.prog 97 5) (5) := ⟨fo_97_5⟩
instance : Fb (isOne Try.prog 25) := ⟨one_25⟩
instance : Fb (isOne Try.prog 3) := ⟨one_3⟩
instance : Fb (isOne Try.prog 35) := ⟨one_35⟩
instance : Fb (isOne Try.prog 67) := ⟨one_67⟩
instance : Ft (Try.prog.underlying 104) (.struct (structF Try.prog 104)) := ⟨sf_104⟩
instance : Ft (sliceOf Try.prog 22) (5, 1) := ⟨sl_22⟩
instance : Ft (sliceOf Try.prog 67) (104, 2) := ⟨sl_67⟩
instance : Ft (sz Try.prog 104) (2) := ⟨sz_104⟩
instance : Ft (sz Try.prog 22) (1) := ⟨sz_22⟩
instance : Ft (sz Try.prog 3) (1) := ⟨sz_3⟩
instance : Ft (sz Try.prog 5) (1) := ⟨sz_5⟩
instance : Ft (sz Try.prog 67) (1) := ⟨sz_67⟩
instance : Ft (zeroOf Try.prog 104) (.agg #[(.int .u32 0), (.slice none 0 0)]) := ⟨zero_104⟩
instance : Ft (zeroOf Try.prog 22) (.slice none 0 0) := ⟨zero_22⟩
instance : Ft (zeroOf Try.prog 5) (.int .u8 0) := ⟨zero_5⟩
instance : Ft (Try.prog.underlying 22) (.slice 5) := ⟨Try.underlying22⟩
instance : Ft (Try.prog.underlying 57) (.pointer 97) := ⟨Try.underlying57⟩
instance : Ft (Try.prog.underlying 67) (.slice 104) := ⟨Try.underlying67⟩
instance : Ft (Try.prog.underlying 117) (.slice 22) := ⟨Try.underlying117⟩
end FaWheelW6
attribute [local irreducible] PV OpW WL WM WH WZ W C Has RoOk

theorem enters_len (s : Fs) (hb : 3584 ≤ s.b.length) (w : Wh) (sec : Nat) : 3584 ≤ (s.enters w sec).1.b.length := by
  unfold Fs.enters; split
  · exact hb
  · rw [Fs.erase_len _ hb]; exact hb
theorem add_c (pw fp q : Nat) (s : Fs) (hb : 3584 ≤ s.b.length) (w : Wh) (lv : Value) (lG : Blks) (rs : List RV) (ho : w.Ok) (hw : WhG w lv lG rs) (hrl : rs.length ≤ 9000) (id : D) (a : Option Addr) (c : Nat) (xs : List B) (hl : xs.length ≤ 100000) (ro : RO) (hs : SlR v8 (.slice a xs.length c) xs ro) :
    C Try.prog 30 #[.pointer (some ⟨pw, 0, none⟩), v32 id, .slice a xs.length c] ro [[(pw, wheelObj fp w lv)], lG, dG rs, flashG fp q s] fun v own => ∃ lv' lG' rs', v = .int .i64 (w.add s id xs).2.2 ∧ own = [[(pw, wheelObj fp (w.add s id xs).2.1 lv')], lG', dG rs', flashG fp q (w.add s id xs).1] ∧ WhG (w.add s id xs).2.1 lv' lG' rs' ∧ rs'.length ≤ rs.length + 1 := by
  obtain ⟨h3, h4⟩ := places_le ho.s2
  have hn := ho.next
  have hs1 := ho.s1
  have hs2 := ho.s2
  obtain ⟨al, cl, rfl⟩ := hw.slice
  by_cases c1 : xs.length ≠ w.size
  · have e : w.add s id xs = (s, w, 1) := if_pos c1
    rw [e]
    refine c_of_w2 (n := 115) Try.func30 rfl rfl rfl (by rfl) fun E => ?_
    repeat' (first | ((with_reducible refine g_wl ?_); (first | refine kN ?_ | ((with_reducible refine g_as ?_); (refine kp (pvm_assign_i rfl) ?_)))) | with_reducible refine w_seq ?_ | with_reducible refine thenP_n ?_ | with_reducible refine thenP_r ?_ | with_reducible refine blockP_r ?_ | with_reducible refine w_ret ?_ | with_reducible refine w_block ?_ | refine w_cond_true rfl ?_ | ((with_reducible refine w_region (id := 1) ?_); all_goals (refine wl_pure rfl rfl (pvm_move_p rfl) ?_); all_goals (refine wl_pure rfl rfl (pv_ptr_nil Try.underlying57 rfl rfl) ?_); all_goals (refine wl_pure rfl rfl (pvm_move_b rfl) ?_); all_goals (refine wl_pure rfl rfl (pvm_move_s rfl) ?_); all_goals (refine wl_pure rfl rfl (pv_len_slice FaWheelW6.sl_22 rfl) ?_); all_goals (refine wl_pure rfl rfl (pvm_move_p rfl) ?_); all_goals (refine wl_pure rfl rfl (pv_nilCheck rfl) ?_); all_goals (refine wl_pure rfl rfl (pv_fieldAddr FaWheelW6.fo_97_2 rfl) ?_); all_goals (refine wl_do rfl rfl (opw_load FaWheelW6.one_3 rfl (Has.own 0 0 rfl rfl) ?_)); all_goals (refine wl_pure rfl rfl (pv_neq_t rfl rfl (by omega)) ?_); all_goals (refine wl_pure rfl rfl (pvk_f_b rfl rfl) ?_); all_goals (refine wl_pure rfl rfl (pvm_assign_b rfl) ?_); all_goals (refine wl_nil ?_)) | refine wr (id := 0) rfl ?_ | refine wr (id := 2) rfl ?_)
    exact ret_r (v := .int .i64 1) rfl ⟨_, _, rs, rfl, rfl, hw, by omega⟩
  have hxl : xs.length = w.size := by omega
  by_cases c2 : w.room = 0
  · have e : w.add s id xs = (s, w, 9) := by unfold Wh.add; rw [if_neg c1, if_pos c2]
    rw [e]
    refine c_of_w2 (n := 115) Try.func30 rfl rfl rfl (by rfl) fun E => ?_
    repeat' (first | ((with_reducible refine g_wl ?_); (first | refine kN ?_ | ((with_reducible refine g_as ?_); (refine kp (pvm_assign_i rfl) ?_)))) | with_reducible refine w_seq ?_ | with_reducible refine thenP_n ?_ | with_reducible refine thenP_r ?_ | with_reducible refine blockP_r ?_ | with_reducible refine w_ret ?_ | with_reducible refine w_block ?_ | refine w_cond_true rfl ?_ | refine w_cond_false rfl ?_ | ((with_reducible refine w_region (id := 1) ?_); all_goals (refine wl_pure rfl rfl (pvm_move_p rfl) ?_); all_goals (refine wl_pure rfl rfl (pv_ptr_nil Try.underlying57 rfl rfl) ?_); all_goals (refine wl_pure rfl rfl (pvm_move_b rfl) ?_); all_goals (refine wl_pure rfl rfl (pvm_move_s rfl) ?_); all_goals (refine wl_pure rfl rfl (pv_len_slice FaWheelW6.sl_22 rfl) ?_); all_goals (refine wl_pure rfl rfl (pvm_move_p rfl) ?_); all_goals (refine wl_pure rfl rfl (pv_nilCheck rfl) ?_); all_goals (refine wl_pure rfl rfl (pv_fieldAddr FaWheelW6.fo_97_2 rfl) ?_); all_goals (refine wl_do rfl rfl (opw_load FaWheelW6.one_3 rfl (Has.own 0 0 rfl rfl) ?_)); all_goals (refine wl_pure rfl rfl (pv_neq_e rfl rfl (by omega)) ?_); all_goals (refine wl_pure rfl rfl (pvk_f_b rfl rfl) ?_); all_goals (refine wl_pure rfl rfl (pvm_assign_b rfl) ?_); all_goals (refine wl_nil ?_)) | ((with_reducible refine w_region (id := 3) ?_); (refine wl_pure rfl rfl (pvm_move_p rfl) ?_); refine wl_do rfl rfl (opw_call FaWheelW6.ca_34 rfl [0] (room_c pw fp w _ ho _) RoOk.self (fun v own h => ?_)); obtain ⟨rfl, rfl⟩ := h; (refine wl_pure rfl rfl (pv_eql_e rfl rfl c2) ?_); (refine wl_pure rfl rfl (pvm_assign_b rfl) ?_); refine wl_nil ?_) | refine wr (id := 0) rfl ?_ | refine wr (id := 4) rfl ?_)
    exact ret_r (v := .int .i64 9) rfl ⟨_, _, rs, rfl, rfl, hw, by omega⟩
  cases c3 : s.down with
  | true =>
    have e : w.add s id xs = (s, w, 11) := by unfold Wh.add; rw [if_neg c1, if_neg c2, if_pos c3]
    rw [e]
    refine c_of_w2 (n := 115) Try.func30 rfl rfl rfl (by rfl) fun E => ?_
    repeat' (first | ((with_reducible refine g_wl ?_); (first | refine kN ?_ | ((with_reducible refine g_mv ?_); (refine kp (pvm_move_p rfl) ?_)) | ((with_reducible refine g_as ?_); (first | refine kp (pvm_assign_b rfl) ?_ | refine kp (pvm_assign_i rfl) ?_)) | ((with_reducible refine g_ld ?_); (refine kd (opw_load Fb.h rfl (Has.own 0 0 rfl rfl) ?_))) | ((with_reducible refine g_cf 38 ?_); (refine kd (opw_call Fb.h rfl [3] (down_c fp q s _) RoOk.self (fun v own h => ?_)); obtain ⟨rfl, rfl⟩ := h; rw [c3])) | refine kp (pv_nilCheck rfl) ?_ | refine kp (pv_fieldAddr Ft.h rfl) ?_)) | with_reducible refine w_seq ?_ | with_reducible refine thenP_n ?_ | with_reducible refine thenP_r ?_ | with_reducible refine blockP_r ?_ | with_reducible refine w_ret ?_ | with_reducible refine w_block ?_ | refine w_cond_true rfl ?_ | refine w_cond_false rfl ?_ | ((with_reducible refine w_region (id := 1) ?_); all_goals (refine wl_pure rfl rfl (pvm_move_p rfl) ?_); all_goals (refine wl_pure rfl rfl (pv_ptr_nil Try.underlying57 rfl rfl) ?_); all_goals (refine wl_pure rfl rfl (pvm_move_b rfl) ?_); all_goals (refine wl_pure rfl rfl (pvm_move_s rfl) ?_); all_goals (refine wl_pure rfl rfl (pv_len_slice FaWheelW6.sl_22 rfl) ?_); all_goals (refine wl_pure rfl rfl (pvm_move_p rfl) ?_); all_goals (refine wl_pure rfl rfl (pv_nilCheck rfl) ?_); all_goals (refine wl_pure rfl rfl (pv_fieldAddr FaWheelW6.fo_97_2 rfl) ?_); all_goals (refine wl_do rfl rfl (opw_load FaWheelW6.one_3 rfl (Has.own 0 0 rfl rfl) ?_)); all_goals (refine wl_pure rfl rfl (pv_neq_e rfl rfl (by omega)) ?_); all_goals (refine wl_pure rfl rfl (pvk_f_b rfl rfl) ?_); all_goals (refine wl_pure rfl rfl (pvm_assign_b rfl) ?_); all_goals (refine wl_nil ?_)) | ((with_reducible refine w_region (id := 3) ?_); (refine wl_pure rfl rfl (pvm_move_p rfl) ?_); refine wl_do rfl rfl (opw_call FaWheelW6.ca_34 rfl [0] (room_c pw fp w _ ho _) RoOk.self (fun v own h => ?_)); obtain ⟨rfl, rfl⟩ := h; (refine wl_pure rfl rfl (pv_eql_f rfl rfl c2) ?_); (refine wl_pure rfl rfl (pvm_assign_b rfl) ?_); refine wl_nil ?_) | refine wr (id := 0) rfl ?_ | refine wr (id := 5) rfl ?_ | refine wr (id := 6) rfl ?_)
    exact ret_s (v := .int .i64 11) [[(pw, wheelObj fp w (.slice al rs.length cl))], lG, dG rs, flashG fp q s] rfl (Sub.pk' [1, 1, 1, 0] rfl) ⟨_, _, rs, rfl, rfl, hw, by omega⟩
  | false =>
    have hnx : w.next < 8 * places w.size := by unfold Wh.room at c2; omega
    obtain ⟨sec, hsec⟩ : ∃ sec, sec = w.next / places w.size := ⟨_, rfl⟩
    have hsec8 : sec < 8 := by rw [hsec]; exact (Nat.div_lt_iff_lt_mul (by omega)).2 hnx
    have hat := pAt_le hs1 hs2 hnx
    have e : w.add s id xs = if (s.enters w sec).2 ≠ 0 then ((s.enters w sec).1, w, (s.enters w sec).2) else Wh.add3 (s.enters w sec).1 w id xs := by
      unfold Wh.add; rw [if_neg c1, if_neg c2, if_neg (by simp [c3]), ← hsec]
    have hb1 := enters_len s hb w sec
    obtain ⟨s1, hs1e⟩ : ∃ s1, s1 = (s.enters w sec).1 := ⟨_, rfl⟩
    obtain ⟨e1, he1⟩ : ∃ e1, e1 = (s.enters w sec).2 := ⟨_, rfl⟩
    rw [← hs1e, ← he1] at e
    rw [← hs1e] at hb1
    rw [e]
    refine c_of_w2 (n := 115) Try.func30 rfl rfl rfl (by rfl) fun E => ?_
    repeat' (first | ((with_reducible refine g_wl ?_); (first | refine kN ?_ | ((with_reducible refine g_mv ?_); (first | refine kp (pvm_move_p rfl) ?_ | refine kp (pvm_move_i rfl) ?_)) | ((with_reducible refine g_as ?_); (first | refine kp (pvm_assign_b rfl) ?_ | refine kp (pvm_assign_i rfl) ?_)) | ((with_reducible refine g_bo ?_); refine kp (pv_neq rfl rfl) ?_) | ((with_reducible refine g_ld ?_); (refine kd (opw_load Fb.h rfl (Has.own 0 0 rfl rfl) ?_))) | ((with_reducible refine g_cf 38 ?_); (refine kd (opw_call Fb.h rfl [3] (down_c fp q s _) RoOk.self (fun v own h => ?_)); obtain ⟨rfl, rfl⟩ := h; rw [c3])) | ((with_reducible refine g_cf 65 ?_); (refine kd (opw_call Fb.h rfl [0, 0] (enters_c pw fp q s hb w _ ho sec hsec8 _) RoOk.self (fun v own h => ?_)); obtain ⟨rfl, rfl⟩ := h; rw [← hs1e, ← he1])) | refine kp (pv_nilCheck rfl) ?_ | refine kp (pv_fieldAddr Ft.h rfl) ?_)) | with_reducible refine w_seq ?_ | with_reducible refine thenP_n ?_ | with_reducible refine thenP_r ?_ | with_reducible refine blockP_n ?_ | with_reducible refine w_skip ?_ | with_reducible refine w_ret ?_ | with_reducible refine w_block ?_ | refine w_cond_false rfl ?_ | (refine w_cond_dec rfl (fun _ => ?_) (fun _ => ?_) <;> try (exfalso; omega)) | ((with_reducible refine w_region (id := 1) ?_); all_goals (refine wl_pure rfl rfl (pvm_move_p rfl) ?_); all_goals (refine wl_pure rfl rfl (pv_ptr_nil Try.underlying57 rfl rfl) ?_); all_goals (refine wl_pure rfl rfl (pvm_move_b rfl) ?_); all_goals (refine wl_pure rfl rfl (pvm_move_s rfl) ?_); all_goals (refine wl_pure rfl rfl (pv_len_slice FaWheelW6.sl_22 rfl) ?_); all_goals (refine wl_pure rfl rfl (pvm_move_p rfl) ?_); all_goals (refine wl_pure rfl rfl (pv_nilCheck rfl) ?_); all_goals (refine wl_pure rfl rfl (pv_fieldAddr FaWheelW6.fo_97_2 rfl) ?_); all_goals (refine wl_do rfl rfl (opw_load FaWheelW6.one_3 rfl (Has.own 0 0 rfl rfl) ?_)); all_goals (refine wl_pure rfl rfl (pv_neq_e rfl rfl (by omega)) ?_); all_goals (refine wl_pure rfl rfl (pvk_f_b rfl rfl) ?_); all_goals (refine wl_pure rfl rfl (pvm_assign_b rfl) ?_); all_goals (refine wl_nil ?_)) | ((with_reducible refine w_region (id := 3) ?_); (refine wl_pure rfl rfl (pvm_move_p rfl) ?_); refine wl_do rfl rfl (opw_call FaWheelW6.ca_34 rfl [0] (room_c pw fp w _ ho _) RoOk.self (fun v own h => ?_)); obtain ⟨rfl, rfl⟩ := h; (refine wl_pure rfl rfl (pv_eql_f rfl rfl c2) ?_); (refine wl_pure rfl rfl (pvm_assign_b rfl) ?_); refine wl_nil ?_) | (refine w_draw (id := 7) [] (hold [(pw, wheelObj fp w (.slice al rs.length cl))]) Fa.mixed (hold_ok (by simp [dr])) ?_; (refine wh_pure 0 rfl (by kernel_rfl) rfl rfl (pvm_move_p rfl) ?_); refine wh_pure 1 rfl (by kernel_rfl) rfl rfl (pv_nilCheck rfl) ?_; refine wh_pure 2 rfl (by kernel_rfl) rfl rfl (pv_fieldAddr FaWheelW6.fo_97_5 rfl) ?_; (refine wh_load 3 rfl (by kernel_rfl) rfl rfl FaWheelW6.one_3 rfl (Has.hold 0 rfl rfl) ?_); (refine wh_pure 4 rfl (by kernel_rfl) rfl rfl (pvm_move_p rfl) ?_); refine wh_do 5 (by kernel_rfl) rfl rfl rfl rfl (opw_call FaWheelW6.ca_57 rfl [1] (places_c pw fp w _ ho _) RoOk.self (fun v own h => ?_)); obtain ⟨rfl, rfl⟩ := h; refine ⟨(hold_ok (by simp [dr])), ?_⟩; (refine wh_pure 6 rfl (by kernel_rfl) rfl rfl (pvi_e (sec : Int) (by rw [hsec]; exact (Int.natCast_ediv _ _).symm) (pv_iquo rfl rfl (by omega))) ?_); (refine wh_pure 7 rfl (by kernel_rfl) rfl rfl (pvm_assign_i rfl) ?_); (refine wh_done (by kernel_rfl) ?_)) | refine wr (id := 0) rfl ?_ | refine wr (id := 5) rfl ?_ | refine wr (id := 8) rfl ?_ | refine wr (id := 9) rfl ?_ | refine wr (id := 10) rfl ?_)
    · have h1 : e1 ≠ 0 := ‹_›
      rw [if_pos h1]
      exact ret_s (v := .int .i64 e1) [[(pw, wheelObj fp w (.slice al rs.length cl))], lG, dG rs, flashG fp q s1] rfl (Sub.pk' [0, 1, 1, 0] rfl) ⟨_, _, rs, rfl, rfl, hw, by omega⟩
    · have h1 : ¬ e1 ≠ 0 := ‹_›
      rw [if_neg h1]
      obtain ⟨x, hx⟩ : ∃ x, x = pAt w.size w.next := ⟨_, rfl⟩
      obtain ⟨out, hout⟩ : ∃ out, out = w.out id xs := ⟨_, rfl⟩
      have hol : out.length = w.size + 12 := by rw [hout, Wh.out, Crc.put_len, List.length_append, List.length_append, Crc.be4_length, Crc.be4_length]; omega
      obtain ⟨s2, hs2e⟩ : ∃ s2, s2 = (s1.program x out).1 := ⟨_, rfl⟩
      obtain ⟨e2, he2⟩ : ∃ e2, e2 = (s1.program x out).2 := ⟨_, rfl⟩
      obtain ⟨s3, hs3e⟩ : ∃ s3, s3 = (s2.program ((x : Int) + out.length) [0#8]).1 := ⟨_, rfl⟩
      obtain ⟨e3, he3⟩ : ∃ e3, e3 = (s2.program ((x : Int) + out.length) [0#8]).2 := ⟨_, rfl⟩
      have hadd : Wh.add3 s1 w id xs = if e2 ≠ 0 then (s2, w, e2) else if e3 ≠ 0 then (s3, w, e3) else (s3, { w with ready := (sec : Nat), next := w.next + 1, recs := w.recs ++ [(id, xs)] }, 0) := by
        unfold Wh.add3; rw [← hx, ← hout, ← hs2e, ← he2, ← hs3e, ← he3, ← hsec]
      rw [hadd]
      rw [← hx] at hat
      have hb2 : 3584 ≤ s2.b.length := by rw [hs2e, Fs.program_len]; exact hb1
      have hbo : ∀ (a1 : Option Addr) (k1 : Nat) (a2 : Option Addr) (k2 : Nat), Crc.put (allB [(a1, k1, be4 w.gen), (a2, k2, be4 id), (a, c, xs)]) = out := fun a1 k1 a2 k2 => by rw [hout]; unfold allB Wh.out; simp
      repeat' (first | with_reducible refine w_seq ?_ | with_reducible refine thenP_n ?_ | ((with_reducible refine w_region (id := 11) ?_); all_goals (refine wl_pure rfl rfl (pvm_move_p rfl) ?_); all_goals (refine wl_pure rfl rfl (pv_nilCheck rfl) ?_); all_goals (refine wl_pure rfl rfl (pv_fieldAddr FaWheelW6.fo_97_1 rfl) ?_); all_goals (refine wl_do rfl rfl (opw_load FaWheelW6.one_35 rfl (Has.own 0 0 rfl rfl) ?_)); all_goals (refine wl_do rfl rfl (opw_call FaWheelW6.ca_68 rfl [] (word_c w.gen _) RoOk.self (fun v own h => ?_)); obtain ⟨g1, rfl, hg1⟩ := h; obtain ⟨a1, k1, rfl, hle1⟩ := hg1.slice; obtain ⟨r1, hr1, ok1⟩ := hg1.ro); all_goals (refine wl_pure rfl rfl (pvm_move_32 rfl) ?_); all_goals (refine wl_do rfl rfl (opw_call FaWheelW6.ca_68 rfl [] (word_c id _) RoOk.self (fun v own h => ?_)); obtain ⟨g2, rfl, hg2⟩ := h; obtain ⟨a2, k2, rfl, hle2⟩ := hg2.slice; obtain ⟨r2, hr2, ok2⟩ := hg2.ro); all_goals (refine wl_pure rfl rfl (pvm_move_s rfl) ?_); all_goals (refine wl_do rfl rfl (opw_buildRow (f := encS) [(a1, k1, be4 w.gen), (a2, k2, be4 id), (a, c, xs)] Try.underlying117 FaWheelW6.sz_22 FaWheelW6.zero_22 rfl rfl (by omega) rfl (fun _ => rfl) fun nb => ?_)); all_goals (refine wl_do rfl rfl (opw_call FaWheelW6.ca_67 rfl [] (concat_c (some ⟨nb, 0, none⟩) 3 [(a1, k1, be4 w.gen), (a2, k2, be4 id), (a, c, xs)] (by simp) (by intro y hy; simp only [List.mem_cons, List.not_mem_nil, or_false] at hy; rcases hy with rfl | rfl | rfl <;> dsimp only <;> first | (rw [Crc.be4_length]; omega) | omega) ([(nb, AtO encS 0 [(a1, k1, be4 w.gen), (a2, k2, be4 id), (a, c, xs)])] ++ (r2 ++ (r1 ++ ro))) ((SlR.of_has (by simp)).mono (by intro y hy; exact List.mem_append_left _ hy)) (by intro y hy; simp only [List.mem_cons, List.not_mem_nil, or_false] at hy; rcases hy with rfl | rfl | rfl; exact hr1.mono (by intro z hz; simp [hz]); exact hr2.mono (by intro z hz; simp [hz]); exact hs.mono (by intro z hz; simp [hz]))) (RoOk.append (roOk_arr 6 0 rfl (fun k hk => by rw [Nat.zero_add])) (RoOk.append (ok2 _ _ (by simp [dr])) (RoOk.append (ok1 _ _ (by simp [dr])) RoOk.self))) (fun v own h => ?_)); obtain ⟨g3, rfl, hg3⟩ := h; obtain ⟨a3, k3, rfl, hle3⟩ := hg3.slice; obtain ⟨r3, hr3, ok3⟩ := hg3.ro); all_goals (refine wl_do rfl rfl (opw_call FaWheelW6.ca_66 rfl [] (crcPut_c a3 k3 _ (by unfold allB; simp [Crc.be4_length]; omega) r3 hr3) (ok3 _ _ (by simp [dr])) (fun v own h => ?_)); obtain ⟨g4, rfl, hg40⟩ := h; have hg4 : Sl v8 5 v out g4 := (by rw [← hbo a1 k1 a2 k2]; exact hg40); obtain ⟨a4, k4, rfl, hle4⟩ := hg4.slice; obtain ⟨r4, hr4, ok4⟩ := hg4.ro); all_goals (refine wl_pure rfl rfl (pvm_assign_s rfl) ?_); all_goals (refine wl_nil ?_)))
      repeat' (first | ((with_reducible refine g_wl ?_); (first | refine kN ?_ | ((with_reducible refine g_mv ?_); (refine kp (pvm_move_i rfl) ?_)) | ((with_reducible refine g_as ?_); (refine kp (pvm_assign_i rfl) ?_)) | ((with_reducible refine g_bo ?_); refine kp (pv_neq rfl rfl) ?_))) | with_reducible refine w_seq ?_ | with_reducible refine thenP_n ?_ | with_reducible refine thenP_r ?_ | with_reducible refine w_skip ?_ | with_reducible refine w_ret ?_ | (refine w_cond_dec rfl (fun _ => ?_) (fun _ => ?_) <;> try (exfalso; omega)) | (refine w_draw (id := 12) [] (hold [(pw, wheelObj fp w (.slice al rs.length cl))]) Fa.mixed (hold_ok (by simp [dr])) ?_; (refine wh_pure 0 rfl (by kernel_rfl) rfl rfl (pvm_move_p rfl) ?_); refine wh_pure 1 rfl (by kernel_rfl) rfl rfl (pv_nilCheck rfl) ?_; refine wh_pure 2 rfl (by kernel_rfl) rfl rfl (pv_fieldAddr FaWheelW6.fo_97_0 rfl) ?_; (refine wh_load 3 rfl (by kernel_rfl) rfl rfl FaWheelW6.one_25 rfl (Has.hold 0 rfl rfl) ?_); (refine wh_pure 4 rfl (by kernel_rfl) rfl rfl (pvm_move_p rfl) ?_); (refine wh_pure 5 rfl (by kernel_rfl) rfl rfl (pvm_move_p rfl) ?_); refine wh_pure 6 rfl (by kernel_rfl) rfl rfl (pv_nilCheck rfl) ?_; refine wh_pure 7 rfl (by kernel_rfl) rfl rfl (pv_fieldAddr FaWheelW6.fo_97_5 rfl) ?_; (refine wh_load 8 rfl (by kernel_rfl) rfl rfl FaWheelW6.one_3 rfl (Has.hold 0 rfl rfl) ?_); (refine wh_pure 10 rfl (by kernel_rfl) rfl rfl (pvm_move_s rfl) ?_); refine wh_do 9 (by kernel_rfl) rfl rfl rfl rfl (opw_call FaWheelW6.ca_59 rfl [4] (at_c pw fp w _ ho w.next hnx _) RoOk.self (fun v own h => ?_)); obtain ⟨rfl, rfl⟩ := h; rw [← hx]; refine ⟨(hold_ok (by simp [dr])), ?_⟩; refine wh_do 11 (by kernel_rfl) rfl rfl rfl rfl (opw_call FaWheelW6.ca_10 rfl [5] (program_c fp q s1 hb1 x a4 k4 out (by omega) r4 hr4) (ok4 _ _ (by simp [dr])) (fun v own h => ?_)); obtain ⟨rfl, rfl⟩ := h; rw [← hs2e, ← he2]; refine ⟨(hold_ok (by simp [dr])), ?_⟩; (refine wh_pure 12 rfl (by kernel_rfl) rfl rfl (pvm_assign_i rfl) ?_); (refine wh_done (by kernel_rfl) ?_)) | refine wr (id := 13) rfl ?_ | refine wr (id := 14) rfl ?_)
      · have h2 : e2 ≠ 0 := ‹_›
        rw [if_pos h2]
        exact ret_s (v := .int .i64 e2) [[(pw, wheelObj fp w (.slice al rs.length cl))], lG, dG rs, flashG fp q s2] rfl (Sub.pk' [1, 5, 5, 0] rfl) ⟨_, _, rs, rfl, rfl, hw, by omega⟩
      · have h2 : ¬ e2 ≠ 0 := ‹_›
        rw [if_neg h2]
        repeat' (first | ((with_reducible refine g_wl ?_); (first | refine kN ?_ | ((with_reducible refine g_mv ?_); (refine kp (pvm_move_i rfl) ?_)) | ((with_reducible refine g_as ?_); (refine kp (pvm_assign_i rfl) ?_)) | ((with_reducible refine g_bo ?_); refine kp (pv_neq rfl rfl) ?_))) | with_reducible refine w_seq ?_ | with_reducible refine thenP_n ?_ | with_reducible refine thenP_r ?_ | with_reducible refine w_skip ?_ | with_reducible refine w_ret ?_ | (refine w_cond_dec rfl (fun _ => ?_) (fun _ => ?_) <;> try (exfalso; omega)) | (refine w_draw (id := 15) [] (hold [(pw, wheelObj fp w (.slice al rs.length cl))]) Fa.mixed (hold_ok (by simp [dr])) ?_; all_goals (refine wh_pure 0 rfl (by kernel_rfl) rfl rfl (pvm_move_p rfl) ?_); all_goals (refine wh_pure 1 rfl (by kernel_rfl) rfl rfl (pv_nilCheck rfl) ?_); all_goals (refine wh_pure 2 rfl (by kernel_rfl) rfl rfl (pv_fieldAddr FaWheelW6.fo_97_0 rfl) ?_); all_goals (refine wh_load 3 rfl (by kernel_rfl) rfl rfl FaWheelW6.one_25 rfl (Has.hold 0 rfl rfl) ?_); all_goals (refine wh_pure 4 rfl (by kernel_rfl) rfl rfl (pvm_move_p rfl) ?_); all_goals (refine wh_pure 5 rfl (by kernel_rfl) rfl rfl (pvm_move_p rfl) ?_); all_goals (refine wh_pure 6 rfl (by kernel_rfl) rfl rfl (pv_nilCheck rfl) ?_); all_goals (refine wh_pure 7 rfl (by kernel_rfl) rfl rfl (pv_fieldAddr FaWheelW6.fo_97_5 rfl) ?_); all_goals (refine wh_load 8 rfl (by kernel_rfl) rfl rfl FaWheelW6.one_3 rfl (Has.hold 0 rfl rfl) ?_); all_goals (refine wh_pure 10 rfl (by kernel_rfl) rfl rfl (pvm_move_s rfl) ?_); all_goals (refine wh_pure 11 rfl (by kernel_rfl) rfl rfl (pv_len_slice FaWheelW6.sl_22 rfl) ?_); all_goals (refine wh_two (j := 13) 9 (by kernel_rfl) rfl rfl rfl rfl rfl rfl rfl rfl (opw_call FaWheelW6.ca_59 rfl [1] (at_c pw fp w _ ho w.next hnx _) RoOk.self (fun v own h => ?_)) (opw_buildRow (f := v8) [(BitVec.ofNat 8 0)] Try.underlying22 FaWheelW6.sz_5 FaWheelW6.zero_5 rfl rfl (by omega) rfl (fun _ => rfl) fun nb => ⟨(hold_ok (by simp [dr])), ?_⟩)); all_goals (first | (obtain ⟨rfl, rfl⟩ := h; rw [← hx]; refine ⟨(hold_ok (by simp [dr])), ?_⟩) | skip); all_goals (first | (all_goals (refine wh_pure 12 rfl (by kernel_rfl) rfl rfl (pvi_e ((x : Int) + out.length) rfl (pv_iadd rfl rfl (by omega))) ?_); all_goals (refine wh_do 13 (by kernel_rfl) rfl rfl rfl rfl (opw_buildRow (f := v8) [(BitVec.ofNat 8 0)] Try.underlying22 FaWheelW6.sz_5 FaWheelW6.zero_5 rfl rfl (by omega) rfl (fun _ => rfl) fun nb => ⟨(hold_ok (by simp [dr])), ?_⟩)); all_goals (refine wh_do 14 (by kernel_rfl) rfl rfl rfl rfl (opw_call FaWheelW6.ca_10 rfl [1] (program_c fp q s2 hb2 ((x : Int) + out.length) (some ⟨nb, 0, none⟩) 1 [0#8] (by decide) [(nb, AtO v8 0 [0#8])] (SlR.of_has (by decide))) (roOk_arr 8 0 rfl (fun k hk => by rw [Nat.zero_add])) (fun v own h => ?_)); obtain ⟨rfl, rfl⟩ := h; rw [← hs3e, ← he3]; refine ⟨(hold_ok (by simp [dr])), ?_⟩); all_goals (refine wh_pure 15 rfl (by kernel_rfl) rfl rfl (pvm_assign_i rfl) ?_)) | (all_goals (refine wh_do 9 (by kernel_rfl) rfl rfl rfl rfl (opw_call FaWheelW6.ca_59 rfl [1] (at_c pw fp w _ ho w.next hnx _) RoOk.self (fun v own h => ?_)); obtain ⟨rfl, rfl⟩ := h; rw [← hx]; refine ⟨(hold_ok (by simp [dr])), ?_⟩); all_goals (refine wh_pure 12 rfl (by kernel_rfl) rfl rfl (pvi_e ((x : Int) + out.length) rfl (pv_iadd rfl rfl (by omega))) ?_); all_goals (refine wh_do 14 (by kernel_rfl) rfl rfl rfl rfl (opw_call FaWheelW6.ca_10 rfl [1] (program_c fp q s2 hb2 ((x : Int) + out.length) (some ⟨nb, 0, none⟩) 1 [0#8] (by decide) [(nb, AtO v8 0 [0#8])] (SlR.of_has (by decide))) (roOk_arr 8 0 rfl (fun k hk => by rw [Nat.zero_add])) (fun v own h => ?_)); obtain ⟨rfl, rfl⟩ := h; rw [← hs3e, ← he3]; refine ⟨(hold_ok (by simp [dr])), ?_⟩); all_goals (refine wh_pure 15 rfl (by kernel_rfl) rfl rfl (pvm_assign_i rfl) ?_))); all_goals (refine wh_done (by kernel_rfl) ?_)) | refine wr (id := 16) rfl ?_ | refine wr (id := 17) rfl ?_)
        iterate 2
          · have h3' : e3 ≠ 0 := ‹_›
            rw [if_pos h3']
            exact ret_s (v := .int .i64 e3) [[(pw, wheelObj fp w (.slice al rs.length cl))], lG, dG rs, flashG fp q s3] rfl (Sub.pk' [1, 5, 5, 0] rfl) ⟨_, _, rs, rfl, rfl, hw, by omega⟩
          · have h3' : ¬ e3 ≠ 0 := ‹_›
            rw [if_neg h3']
            refine w_sub (own' := [[(pw, wheelObj fp w (.slice al rs.length cl))], lG, dG rs, flashG fp q s3]) (Sub.pk' [1, 5, 5, 0] rfl) ?_
            obtain ⟨w', hw'⟩ : ∃ w' : Wh, w' = { w with ready := (sec : Nat), next := w.next + 1 } := ⟨_, rfl⟩
            repeat' (first | ((with_reducible refine g_wl ?_); (first | refine kN ?_ | ((with_reducible refine g_mv ?_); (first | refine kp (pvm_move_p rfl) ?_ | refine kp (pvm_move_i rfl) ?_)) | ((with_reducible refine g_bo ?_); (refine kp (pv_iadd rfl rfl (by omega)) ?_)) | ((with_reducible refine g_ld ?_); (refine kd (opw_load Fb.h rfl (Has.own 0 0 rfl rfl) ?_))) | ((with_reducible refine g_st ?_); (refine kn (opw_store 0 0 Ft.h rfl rfl rfl rfl rfl (Nat.le_of_ble_eq_true rfl) (noFr_zero _ _) ?_))) | refine kp (pv_nilCheck rfl) ?_ | refine kp (pv_fieldAddr Ft.h rfl) ?_)) | with_reducible refine w_seq ?_ | with_reducible refine thenP_n ?_ | refine wr (id := 18) rfl ?_ | refine wr (id := 19) rfl ?_)
            refine w_sub (own' := [[(pw, wheelObj fp w' (.slice al rs.length cl))], lG, dG rs, flashG fp q s3]) (by subst hw'; exact Sub.flat rfl) ?_
            repeat' (first | ((with_reducible refine g_wl ?_); (first | refine kN ?_ | ((with_reducible refine g_as ?_); (refine kp (pvm_assign_i rfl) ?_)))) | with_reducible refine w_seq ?_ | with_reducible refine thenP_n ?_ | with_reducible refine w_ret ?_ | (refine w_draw (id := 20) [13] (hold [(pw, wheelObj fp w' (.slice al rs.length cl))]) Fa.mixed (hold_ok (by simp [dr])) ?_; (refine wh_pure 0 rfl (by kernel_rfl) rfl rfl (pvm_move_p rfl) ?_); (refine wh_pure 1 rfl (by kernel_rfl) rfl rfl (pvm_move_p rfl) ?_); refine wh_pure 2 rfl (by kernel_rfl) rfl rfl (pv_nilCheck rfl) ?_; refine wh_pure 3 rfl (by kernel_rfl) rfl rfl (pv_fieldAddr FaWheelW6.fo_97_3 rfl) ?_; (refine wh_load 4 rfl (by kernel_rfl) rfl rfl FaWheelW6.one_67 rfl (Has.hold 0 rfl rfl) ?_); (refine wh_pure 5 rfl (by kernel_rfl) rfl rfl (pvm_move_32 rfl) ?_); (refine wh_pure 6 rfl (by kernel_rfl) rfl rfl (pvm_move_s rfl) ?_); refine wh_do 7 (by kernel_rfl) rfl rfl rfl rfl (opw_call FaWheelW6.ca_45 rfl [] (clone8_c a c xs (by omega) _ hs) RoOk.self (fun v own h => ?_)); obtain ⟨g7, rfl, hg7⟩ := h; obtain ⟨a7, c7, rfl, hle7⟩ := hg7.slice; refine ⟨(hold_ok (by simp [dr])), ?_⟩; refine wh_pure 8 rfl (by kernel_rfl) rfl rfl (pv_build_structL (fs := structF Try.prog 104) FaWheelW6.sf_104 FaWheelW6.zero_104 FaWheelW6.pl_104 rfl) ?_; (refine wh_do 9 (by kernel_rfl) rfl rfl rfl rfl (opw_buildRec2 (enc := RV.enc) ⟨id, a7, c7, g7, xs⟩ Try.underlying67 FaWheelW6.sz_104 FaWheelW6.zero_104 rfl rfl fun nb => ⟨(hold_ok (by simp [dr])), ?_⟩)); refine wh_do 10 (by kernel_rfl) rfl rfl rfl rfl (opw_appendM (enc := RV.enc) (xs := rs) (ys := [RV.mk id a7 c7 g7 xs]) 2 FaWheelW6.sl_67 FaWheelW6.ei_104 (by omega) (fun _ => rfl) RV.one RV.zero rfl rfl hw.list rfl rfl (rd_rec2 5 0 rfl) (by show (_ + 1) * 32 ≤ _; omega) (by omega) (fun v g h => ?_)); obtain ⟨a9, c9, rfl⟩ := h.slice; refine ⟨(hold_ok (by simp [dr])), ?_⟩; refine wh_pure 11 rfl (by kernel_rfl) rfl rfl (pv_nilCheck rfl) ?_; refine wh_pure 12 rfl (by kernel_rfl) rfl rfl (pv_fieldAddr FaWheelW6.fo_97_3 rfl) ?_; (refine wh_rel 13 (by kernel_rfl) rfl rfl rfl rfl (opw_store 1 0 FaWheelW6.sz_67 rfl rfl rfl rfl rfl (Nat.le_of_ble_eq_true rfl) (noFr_zero _ _) ?_)); (refine wz_done (by kernel_rfl) ?_)) | refine wr (id := 21) rfl ?_)
            refine ret_s (v := .int .i64 0) [[(pw, wheelObj fp w' (.slice a9 (rs ++ [RV.mk id a7 c7 g7 xs]).length c9))], g, dG (rs ++ [RV.mk id a7 c7 g7 xs]), flashG fp q s3] rfl (Sub.pk' [1, 1, 1, 0, 0] ?_) ⟨_, _, rs ++ [RV.mk id a7 c7 g7 xs], rfl, by subst hw'; rfl, ⟨h, ?_, ?_, ?_⟩, by rw [List.length_append, List.length_singleton]; omega⟩
            · show _ = [[(pw, wheelObj fp w' (.slice a9 (rs ++ [RV.mk id a7 c7 g7 xs]).length c9))], g, dG rs, g7, flashG fp q s3].flatten
              rw [dG_snoc]; simp
            · rw [List.map_append, hw.recs]; rfl
            · intro y hy
              rcases List.mem_append.1 hy with hy | hy
              · exact hw.ok y hy
              · rw [List.mem_singleton] at hy; rw [hy]
                obtain ⟨b', data', h1', h2', h3', h4'⟩ := hg7.addr (by omega)
                refine ⟨b', 0, data', h1', h3', hle7, fun i hi => ?_⟩
                rw [Nat.zero_add]; conv => rhs; rw [← h4']
                rw [List.getElem?_take, if_pos hi]
            · rw [List.length_append, List.length_singleton]; omega
end Go.Proofs.Ytnohdfhhdppflaa
