/- Wheels opened with a size that is none; wheels awake. -/
import Derived.Test.YtnohdfhhdppflaaWheelS
import Derived.Test.YtnohdfhhdppflaaPlain
namespace Go.Proofs.Ytnohdfhhdppflaa
open Go Go.Vc Go.Fl Go.Sha
set_option linter.unusedVariables false
set_option linter.unusedSimpArgs false
set_option maxRecDepth 100000
set_option maxHeartbeats 4000000
namespace FaWheelT
theorem ca_28 : callable Try.prog 28 = true := by kernel_rfl
theorem ca_30 : callable Try.prog 30 = true := by kernel_rfl
theorem ca_33 : callable Try.prog 33 = true := by kernel_rfl
theorem ca_34 : callable Try.prog 34 = true := by kernel_rfl
theorem ca_8 : callable Try.prog 8 = true := by kernel_rfl
theorem ei_5 : elemInfo Try.prog 5 = some (1, 1, (.int .u8 0)) := by kernel_rfl
theorem sl_22 : sliceOf Try.prog 22 = some (5, 1) := by kernel_rfl
theorem sl_67 : sliceOf Try.prog 67 = some (104, 2) := by kernel_rfl
instance : Fb (callable Try.prog 28) := ⟨ca_28⟩
instance : Fb (callable Try.prog 30) := ⟨ca_30⟩
instance : Fb (callable Try.prog 33) := ⟨ca_33⟩
instance : Fb (callable Try.prog 34) := ⟨ca_34⟩
instance : Fb (callable Try.prog 8) := ⟨ca_8⟩
instance : Ft (elemInfo Try.prog 5) (1, 1, (.int .u8 0)) := ⟨ei_5⟩
instance : Ft (sliceOf Try.prog 22) (5, 1) := ⟨sl_22⟩
instance : Ft (sliceOf Try.prog 67) (104, 2) := ⟨sl_67⟩
instance : Ft (Try.prog.underlying 25) (.pointer 80) := ⟨Try.underlying25⟩
end FaWheelT
attribute [local irreducible] PV OpW WL WM WH WZ W C Has RoOk

theorem rv_len {rs : List RV} {l : List (D × List B)} (h : rs.map RV.P = l) (hl : ∀ r ∈ l, r.2.length ≤ 16) : ∀ r ∈ rs, r.d.length ≤ 16 := by
  intro r hr
  exact hl r.P (h ▸ List.mem_map.2 ⟨r, hr, rfl⟩)
theorem openBad_c (fp q : Nat) (s : Fs) (gen : D) (n : Int) (hn : n < 1 ∨ 16 < n) (ro : RO) :
    C Try.prog 28 #[.pointer (some ⟨fp, 0, none⟩), v32 gen, .int .i64 n] ro [flashG fp q s] fun v own => v = .tuple #[.pointer none, .int .i64 1] ∧ own = [flashG fp q s] := by
  refine c_of_w2 (n := 89) Try.func28 rfl rfl rfl (by rfl) fun E => ?_
  repeat' (first | ((with_reducible refine g_wl ?_); (first | refine kN ?_ | ((with_reducible refine g_gd ?_); (first | refine kg rfl ?_ | refine ks rfl ?_ | refine kc rfl rfl rfl (fun _ => ?_) (fun _ => ?_))) | ((with_reducible refine g_mv ?_); (first | refine kp (pvm_move_p rfl) ?_ | refine kp (pvm_move_b rfl) ?_ | refine kp (pvm_move_i rfl) ?_)) | ((with_reducible refine g_as ?_); (first | refine kp (pvm_assign_p rfl) ?_ | refine kp (pvm_assign_i rfl) ?_)) | ((with_reducible refine g_pk ?_); (first | refine kp (pvk_t_b rfl rfl) ?_ | refine kp (pvk_f_b rfl rfl) ?_)) | ((with_reducible refine g_bo ?_); (first | refine kp (pv_ptr_nil Ft.h rfl rfl) ?_ | refine kp (pv_lss rfl rfl) ?_ | refine kp (pv_gtr rfl rfl) ?_)))) | with_reducible refine w_seq ?_ | with_reducible refine thenP_n ?_ | with_reducible refine thenP_r ?_ | with_reducible refine w_ret ?_ | refine w_cond_true rfl ?_ | (refine w_cond_dec rfl (fun _ => ?_) (fun _ => ?_) <;> try (exfalso; omega)) | refine wr (id := 0) rfl ?_ | refine wr (id := 1) rfl ?_ | refine wr (id := 2) rfl ?_)
  iterate 2 exact ret_r (v := .tuple #[.pointer none, .int .i64 1]) rfl ⟨rfl, rfl⟩
  all_goals (exfalso; omega)
theorem openBadR_c (fp q : Nat) (t : Fs) (gen : D) (n : Int) (hn : n < 1 ∨ 16 < n) (ro : RO) :
    C Try.prog 29 #[.pointer (some ⟨fp, 0, none⟩), v32 gen, .int .i64 n] ro [refG fp q t] fun v own => v = .tuple #[.pointer none, .int .i64 1] ∧ own = [refG fp q t] := by
  refine c_of_w2 (n := 160) Try.func29 rfl rfl rfl (by rfl) fun E => ?_
  repeat' (first | ((with_reducible refine g_wl ?_); (first | refine kN ?_ | ((with_reducible refine g_gd ?_); (first | refine kg rfl ?_ | refine ks rfl ?_ | refine kc rfl rfl rfl (fun _ => ?_) (fun _ => ?_))) | ((with_reducible refine g_mv ?_); (first | refine kp (pvm_move_b rfl) ?_ | refine kp (pvm_move_i rfl) ?_)) | ((with_reducible refine g_as ?_); (first | refine kp (pvm_assign_p rfl) ?_ | refine kp (pvm_assign_i rfl) ?_)) | ((with_reducible refine g_pk ?_); (first | refine kp (pvk_t_b rfl rfl) ?_ | refine kp (pvk_f_b rfl rfl) ?_)) | ((with_reducible refine g_bo ?_); (first | refine kp (pv_lss rfl rfl) ?_ | refine kp (pv_gtr rfl rfl) ?_)))) | with_reducible refine w_seq ?_ | with_reducible refine thenP_n ?_ | with_reducible refine thenP_r ?_ | with_reducible refine w_ret ?_ | refine w_cond_true rfl ?_ | (refine w_cond_dec rfl (fun _ => ?_) (fun _ => ?_) <;> try (exfalso; omega)) | refine wr (id := 0) rfl ?_ | refine wr (id := 1) rfl ?_ | refine wr (id := 2) rfl ?_)
  iterate 2 exact ret_r (v := .tuple #[.pointer none, .int .i64 1]) rfl ⟨rfl, rfl⟩
  all_goals (exfalso; omega)
theorem wawake_c (ro : RO) : C Try.prog 27 #[] ro [] fun v own => v = .bool true ∧ own = [] := by
  refine c_of_w2 (n := 47) Try.func27 rfl rfl rfl (by rfl) fun E => ?_
  repeat' (first | ((with_reducible refine g_wl ?_); (first | refine kN ?_ | ((with_reducible refine g_as ?_); (first | refine kp (pvm_assign_b rfl) ?_ | refine kp (pvm_assign_p rfl) ?_)) | ((with_reducible refine g_cf 8 ?_); (refine kd (opw_call Fb.h rfl [] (new_c 10 _) RoOk.self (fun v own h => ?_)); obtain ⟨p, q, b0, rfl, rfl, hl, ht⟩ := h)))) | with_reducible refine w_seq ?_ | with_reducible refine thenP_n ?_ | refine wr (id := 0) rfl ?_ | refine wr (id := 1) rfl ?_)
  obtain ⟨e1, e2, e3, e4, e5, e6, e7⟩ := wheel_awake hl ht
  repeat' (first | ((with_reducible refine g_wl ?_); (first | refine kN ?_ | ((with_reducible refine g_mv ?_); (first | refine kp (pvm_move_p rfl) ?_ | refine kp (pvm_move_t rfl) ?_)) | ((with_reducible refine g_as ?_); (first | refine kp (pvm_assign_p rfl) ?_ | refine kp (pvm_assign_i rfl) ?_)) | ((with_reducible refine g_cf 28 ?_); (refine kd (opw_call Fb.h rfl [0] (open_c p q _ hl rfl 1#32 16 (by decide) (by decide) _) RoOk.self (fun v own h => ?_)); obtain ⟨pw, lv, lG, rs, rfl, rfl, hW, hrl⟩ := h; rw [e1] at hW; rw [e1])) | refine kp (pv_extract rfl rfl) ?_)) | with_reducible refine w_seq ?_ | with_reducible refine thenP_n ?_ | refine wr (id := 2) rfl ?_)
  obtain ⟨z, hz⟩ : ∃ z, z = (Wh.new 1#32 16).add (Fs.new 10 b0) 7#32 zeros16 := ⟨_, rfl⟩
  rw [← hz] at e2 e3 e4 e5 e6 e7
  have hl5 := e5.len
  repeat' (first | ((with_reducible refine g_wl ?_); (first | refine kN ?_ | ((with_reducible refine g_mv ?_); (first | refine kp (pvm_move_p rfl) ?_ | refine kp (pvm_move_t rfl) ?_)) | ((with_reducible refine g_as ?_); (first | refine kp (pvm_assign_p rfl) ?_ | refine kp (pvm_assign_i rfl) ?_)) | ((with_reducible refine g_cf 28 ?_); (refine kd (opw_call Fb.h rfl [3] (open_c p q _ hl5 e5.down 1#32 16 (by decide) (by decide) _) RoOk.self (fun v own h => ?_)); obtain ⟨pw2, lv2, lG2, rs2, rfl, rfl, hW2, hrl2⟩ := h)) | ((with_reducible refine g_cf 30 ?_); (refine kd (opw_call Fb.h (by rfl) [0, 0, 0, 0] (add_c pw p q _ hl _ lv lG rs ⟨show 1 ≤ 16 by decide, show 16 ≤ 16 by decide, Nat.zero_le _, show (-1 : Int) ≤ -1 by decide, show (-1 : Int) < 8 by decide⟩ hW (by omega) 7#32 (some ⟨b14, 0, none⟩) 16 zeros16 (by decide) [(b14, AtO v8 0 zeros16)] (SlR.of_has (by decide))) (roOk_arr 0 0 rfl (fun k hk => by rw [Nat.zero_add]; rfl)) (fun v own h => ?_)); obtain ⟨lv', lG', rs', rfl, rfl, hW', hrl'⟩ := h; rw [← hz] at hW'; rw [← hz, e2])) | refine kp (pv_extract rfl rfl) ?_ | refine kd (d := 14) (opw_make (f := v8) FaWheelT.sl_22 FaWheelT.ei_5 0 rfl rfl rfl rfl (by omega) (by omega) (by omega) fun b14 => ?_))) | with_reducible refine w_seq ?_ | with_reducible refine thenP_n ?_ | with_reducible refine w_ret ?_ | ((with_reducible refine w_region (id := 5) ?_); all_goals (refine wl_pure rfl rfl (pvm_move_i rfl) ?_); all_goals (refine wl_pure rfl rfl (pv_eql_e rfl rfl rfl) ?_); all_goals (refine wl_pure rfl rfl (pvm_move_b rfl) ?_); all_goals (refine wl_pure rfl rfl (pvm_move_i rfl) ?_); all_goals (refine wl_pure rfl rfl (pv_eql_e rfl rfl rfl) ?_); all_goals (refine wl_pure rfl rfl (pvk_t_b rfl rfl) ?_); all_goals (refine wl_pure rfl rfl (pvm_move_b rfl) ?_); all_goals (refine wl_pure rfl rfl (pvm_move_i rfl) ?_); all_goals (refine wl_pure rfl rfl (pv_eql_e rfl rfl rfl) ?_); all_goals (refine wl_pure rfl rfl (pvk_t_b rfl rfl) ?_); all_goals (refine wl_pure rfl rfl (pvm_move_b rfl) ?_); all_goals (refine wl_pure rfl rfl (pvm_move_p rfl) ?_); all_goals (refine wl_do rfl rfl (opw_call FaWheelT.ca_33 rfl [0, 0, 0] (records_c pw2 p _ lv2 lG2 rs2 hW2 (fun r hr => by have := rv_len hW2.recs (openW_d _ _ _ (by decide)) r hr; omega) _) RoOk.self (fun v own h => ?_)); obtain ⟨lG3, rs3, rfl, hS3, hm3, _⟩ := h; obtain ⟨a3, c3, rfl⟩ := hS3.slice; have hlen3 : rs3.length = 1 := by (have h3 := congrArg List.length (hm3.trans hW2.recs); rw [List.length_map] at h3; omega)); all_goals (refine wl_pure rfl rfl (pv_len_slice FaWheelT.sl_67 rfl) ?_); all_goals (refine wl_pure rfl rfl (pv_eql_e rfl rfl (by omega)) ?_); all_goals (refine wl_pure rfl rfl (pvk_t_b rfl rfl) ?_); all_goals (refine wl_pure rfl rfl (pvm_move_b rfl) ?_); all_goals (refine wl_pure rfl rfl (pvm_move_p rfl) ?_); all_goals (refine wl_do rfl rfl (opw_call FaWheelT.ca_34 rfl [2] (room_c pw2 p _ lv2 (openW_ok (by decide) (by decide)).1 _) RoOk.self (fun v own h => ?_)); obtain ⟨rfl, rfl⟩ := h; rw [e7]); all_goals (refine wl_pure rfl rfl (pv_eql_e rfl rfl rfl) ?_); all_goals (refine wl_pure rfl rfl (pvk_t_b rfl rfl) ?_); all_goals (refine wl_pure rfl rfl (pvm_move_b rfl) ?_); all_goals (refine wl_pure rfl rfl (pvm_move_p rfl) ?_); all_goals (refine wl_do rfl rfl (opw_call FaWheelT.ca_34 rfl [6] (room_c pw p _ lv' e4 _) RoOk.self (fun v own h => ?_)); obtain ⟨rfl, rfl⟩ := h; rw [e3]); all_goals (refine wl_pure rfl rfl (pv_eql_e rfl rfl rfl) ?_); all_goals (refine wl_pure rfl rfl (pvk_t_b rfl rfl) ?_); all_goals (refine wl_pure rfl rfl (pvm_assign_b rfl) ?_); all_goals (refine wl_nil ?_)) | refine wr (id := 3) rfl ?_ | refine wr (id := 4) rfl ?_)
  exact ret_s (v := .bool true) [] rfl (Sub.pk' [] rfl) ⟨rfl, rfl⟩
end Go.Proofs.Ytnohdfhhdppflaa
