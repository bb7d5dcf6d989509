/- Flash's Blank and Erase, walked. -/
import Derived.Test.YtnohdfhhdppflaaFlashW2
namespace Go.Proofs.Ytnohdfhhdppflaa
open Go Go.Vc Go.Fl
set_option linter.unusedVariables false
set_option linter.unusedSimpArgs false
set_option maxRecDepth 100000
set_option maxHeartbeats 4000000
namespace FaFlashW3
theorem ar_51 : arrOf Try.prog 51 = some (14, 1) := by kernel_rfl
theorem ca_43 : callable Try.prog 43 = true := by kernel_rfl
theorem ca_44 : callable Try.prog 44 = true := by kernel_rfl
theorem ca_80 : callable Try.prog 80 = true := by kernel_rfl
theorem ca_81 : callable Try.prog 81 = true := by kernel_rfl
theorem fo_80_0 : fieldOff Try.prog 80 0 = some 0 := by kernel_rfl
theorem fo_80_1 : fieldOff Try.prog 80 1 = some 1 := by kernel_rfl
theorem fo_80_2 : fieldOff Try.prog 80 2 = some 15 := by kernel_rfl
theorem fo_80_3 : fieldOff Try.prog 80 3 = some 16 := by kernel_rfl
theorem fo_80_6 : fieldOff Try.prog 80 6 = some 19 := by kernel_rfl
theorem one_22 : isOne Try.prog 22 = true := by kernel_rfl
theorem one_3 : isOne Try.prog 3 = true := by kernel_rfl
theorem one_4 : isOne Try.prog 4 = true := by kernel_rfl
theorem sl_22 : sliceOf Try.prog 22 = some (5, 1) := by kernel_rfl
theorem sz_3 : sz Try.prog 3 = some 1 := by kernel_rfl
theorem sz_5 : sz Try.prog 5 = some 1 := by kernel_rfl
instance : Ft (arrOf Try.prog 51) (14, 1) := ⟨ar_51⟩
instance : Fb (callable Try.prog 43) := ⟨ca_43⟩
instance : Fb (callable Try.prog 44) := ⟨ca_44⟩
instance : Fb (callable Try.prog 80) := ⟨ca_80⟩
instance : Fb (callable Try.prog 81) := ⟨ca_81⟩
instance : Ft (fieldOff Try.prog 80 0) (0) := ⟨fo_80_0⟩
instance : Ft (fieldOff Try.prog 80 1) (1) := ⟨fo_80_1⟩
instance : Ft (fieldOff Try.prog 80 2) (15) := ⟨fo_80_2⟩
instance : Ft (fieldOff Try.prog 80 3) (16) := ⟨fo_80_3⟩
instance : Ft (fieldOff Try.prog 80 6) (19) := ⟨fo_80_6⟩
instance : Fb (isOne Try.prog 22) := ⟨one_22⟩
instance : Fb (isOne Try.prog 3) := ⟨one_3⟩
instance : Fb (isOne Try.prog 4) := ⟨one_4⟩
instance : Ft (sliceOf Try.prog 22) (5, 1) := ⟨sl_22⟩
instance : Ft (sz Try.prog 3) (1) := ⟨sz_3⟩
instance : Ft (sz Try.prog 5) (1) := ⟨sz_5⟩
instance : Ft (Try.prog.underlying 25) (.pointer 80) := ⟨Try.underlying25⟩
end FaFlashW3
attribute [local irreducible] PV OpW WL WM WH WZ W C Has RoOk

theorem blank_c (p q : Nat) (s : Fs) (hb : 3584 ≤ s.b.length) (at_ n : Int) (hn : -9223372036854775808 ≤ n ∧ n ≤ 9223372036854775807) (ro : RO) : C Try.prog 58 #[.pointer (some ⟨p, 0, none⟩), .int .i64 at_, .int .i64 n] ro [flashG p q s] fun v own => v = .bool (s.blank at_ n) ∧ own = [flashG p q s] := by
  have hlen := s.read_len at_ n
  refine c_of_w2 (n := 23) Try.func58 rfl rfl rfl (by rfl) fun E => ?_
  repeat' (first | ((with_reducible refine g_wl ?_); (first | refine kN ?_ | ((with_reducible refine g_gd ?_); (first | refine kg rfl ?_ | refine ks rfl ?_ | refine kc rfl rfl rfl (fun _ => ?_) (fun _ => ?_))) | ((with_reducible refine g_mv ?_); (first | refine kp (pvm_move_p rfl) ?_ | refine kp (pvm_move_t rfl) ?_ | refine kp (pvm_move_b rfl) ?_ | refine kp (pvm_move_s rfl) ?_ | refine kp (pvm_move_i rfl) ?_)) | ((with_reducible refine g_as ?_); (first | refine kp (pvm_assign_b rfl) ?_ | refine kp (pvm_assign_s rfl) ?_ | refine kp (pvm_assign_i rfl) ?_)) | ((with_reducible refine g_pk ?_); (first | refine kp (pvk_t_b rfl rfl) ?_ | refine kp (pvk_f_b rfl rfl) ?_)) | ((with_reducible refine g_bo ?_); refine kp (pv_eql rfl rfl) ?_) | ((with_reducible refine g_cf 44 ?_); (refine kd (opw_call Fb.h rfl [0] (read_c p q s hb at_ n hn ro) RoOk.self (fun v own h => ?_)); obtain ⟨bv, g, rfl, rfl, hg⟩ := h; obtain ⟨a, c, rfl, hle⟩ := hg.slice; obtain ⟨r, hr, hok⟩ := hg.ro)) | ((with_reducible refine g_cf 80 ?_); (refine kd (opw_call Fb.h rfl [] (containsFunc8_c 81 _ blankF_c Fb.h a c _ (by omega) r hr) (hok _ _ (List.mem_append_left _ (List.mem_cons_self ..))) (fun v own h => ?_)); obtain ⟨rfl, rfl⟩ := h)) | refine kp (pv_extract rfl rfl) ?_ | refine kp (pv_not rfl) ?_)) | with_reducible refine w_seq ?_ | with_reducible refine thenP_n ?_ | with_reducible refine w_ret ?_ | refine wr rfl ?_)
  all_goals refine ret_s (v := .bool _) [flashG p q s] rfl (Sub.pk' [1] rfl) ⟨?_, rfl⟩
  · have h : (s.read at_ n).2 = 0 := ‹_›
    simp [Fs.blank, h]
  · have h : ¬ (s.read at_ n).2 = 0 := ‹_›
    simp [Fs.blank, h]

theorem flash_er (q : Nat) (s : Fs) (k : Nat) (h : k < 14) : cellAt (flashObj q s) (0 + 1 + k) = some (.int .i64 (s.er k)) := by
  have : k = 0 ∨ k = 1 ∨ k = 2 ∨ k = 3 ∨ k = 4 ∨ k = 5 ∨ k = 6 ∨ k = 7 ∨ k = 8 ∨ k = 9 ∨ k = 10 ∨ k = 11 ∨ k = 12 ∨ k = 13 := by omega
  rcases this with rfl | rfl | rfl | rfl | rfl | rfl | rfl | rfl | rfl | rfl | rfl | rfl | rfl | rfl <;> rfl
def flashCs (q : Nat) (s : Fs) : Array Value := match flashObj q s with | .cells c _ _ => c | _ => #[]
theorem flash_setEr (q : Nat) (s : Fs) (k : Nat) (n : Int) (h : k < 14) : Obj.cells ((flashCs q s).setIfInBounds (0 + 1 + k) (.int .i64 n)) 80 (0, 0) = flashObj q (Fs.setEr s k n) := by
  have : k = 0 ∨ k = 1 ∨ k = 2 ∨ k = 3 ∨ k = 4 ∨ k = 5 ∨ k = 6 ∨ k = 7 ∨ k = 8 ∨ k = 9 ∨ k = 10 ∨ k = 11 ∨ k = 12 ∨ k = 13 := by omega
  rcases this with rfl | rfl | rfl | rfl | rfl | rfl | rfl | rfl | rfl | rfl | rfl | rfl | rfl | rfl <;> rfl
theorem erase_c (p q : Nat) (s : Fs) (hb : 3584 ≤ s.b.length) (k : Int) (ro : RO) : C Try.prog 73 #[.pointer (some ⟨p, 0, none⟩), .int .i64 k] ro [flashG p q s] fun v own => v = .int .i64 (s.erase k).2 ∧ own = [flashG p q (s.erase k).1] := by
  by_cases hk : 0 ≤ k ∧ k < 14
  · obtain ⟨hk0, hk1⟩ := hk
    obtain ⟨k', rfl⟩ := Int.eq_ofNat_of_zero_le hk0
    have her := flash_er q s k' (by omega)
    have her' := flash_er q s.stepS k' (by omega)
    refine c_of_w2 (n := 71) Try.func73 rfl rfl rfl (by rfl) fun E => ?_
    repeat' (first | ((with_reducible refine g_wl ?_); (first | refine kN ?_ | ((with_reducible refine g_gd ?_); (refine kg rfl ?_)) | ((with_reducible refine g_mv ?_); (first | refine kp (pvm_move_p rfl) ?_ | refine kp (pvm_move_b rfl) ?_ | refine kp (pvm_move_i rfl) ?_)) | ((with_reducible refine g_as ?_); (first | refine kp (pvm_assign_b rfl) ?_ | refine kp (pvm_assign_i rfl) ?_)) | ((with_reducible refine g_pk ?_); (refine kp (pvk_f_b rfl rfl) ?_)) | ((with_reducible refine g_bo ?_); (first | refine kp (pv_ptr_nil Ft.h rfl rfl) ?_ | refine kp (pv_irem rfl rfl (by omega)) ?_ | refine kp (pv_lss rfl rfl) ?_ | refine kp (pv_geq rfl rfl) ?_)) | ((with_reducible refine g_ld ?_); (refine kd (opw_load Fb.h rfl (Has.own 0 0 rfl rfl) ?_))) | ((with_reducible refine g_cb .max ?_); refine kp (pv_max rfl rfl) ?_) | ((with_reducible refine g_cf 43 ?_); (refine kd (opw_call Fb.h rfl [0] (step_c p q s _) RoOk.self (fun v own h => ?_)); obtain ⟨rfl, rfl⟩ := h)) | refine kp (pv_nilCheck rfl) ?_ | refine kp (pv_fieldAddr Ft.h rfl) ?_ | refine kp (pv_not rfl) ?_)) | with_reducible refine w_seq ?_ | with_reducible refine thenP_n ?_ | with_reducible refine thenP_r ?_ | with_reducible refine blockP_n ?_ | with_reducible refine blockP_r ?_ | with_reducible refine w_skip ?_ | with_reducible refine w_ret ?_ | with_reducible refine w_block ?_ | refine w_cond_false rfl ?_ | (refine w_cond_dec rfl (fun _ => ?_) (fun _ => ?_) <;> try (exfalso; omega)) | refine w_cond_not rfl (fun _ => ?_) (fun _ => ?_) | refine w_cond rfl (fun _ => ?_) (fun _ => ?_) | (refine w_draw (id := 7) [] (hold (flashG p q s)) Fa.mixed (hold_ok (by intro y hy; exact List.mem_append_left _ hy)) ?_; (refine wh_pure 0 rfl (by kernel_rfl) rfl rfl (pvm_move_p rfl) ?_); (refine wh_pure 1 rfl (by kernel_rfl) rfl rfl (pvm_move_i rfl) ?_); refine wh_pure 2 rfl (by kernel_rfl) rfl rfl (pv_nilCheck rfl) ?_; refine wh_pure 3 rfl (by kernel_rfl) rfl rfl (pv_fieldAddr FaFlashW3.fo_80_1 rfl) ?_; refine wh_pure 4 rfl (by kernel_rfl) rfl rfl (pv_indexAddr_arr1 FaFlashW3.ar_51 rfl rfl (by omega) (by omega)) ?_; (refine wh_load 5 rfl (by kernel_rfl) rfl rfl FaFlashW3.one_3 rfl (Has.hold 0 rfl her) ?_); (refine wh_pure 6 rfl (by kernel_rfl) rfl rfl (pvm_move_p rfl) ?_); refine wh_pure 7 rfl (by kernel_rfl) rfl rfl (pv_nilCheck rfl) ?_; refine wh_pure 8 rfl (by kernel_rfl) rfl rfl (pv_fieldAddr FaFlashW3.fo_80_2 rfl) ?_; (refine wh_load 9 rfl (by kernel_rfl) rfl rfl FaFlashW3.one_3 rfl (Has.hold 0 rfl rfl) ?_); refine wh_pure 10 rfl (by kernel_rfl) rfl rfl (pv_geq rfl rfl) ?_; (refine wh_pure 11 rfl (by kernel_rfl) rfl rfl (pvm_assign_b rfl) ?_); (refine wh_done (by kernel_rfl) ?_)) | (refine w_draw (id := 13) [10] (hold (flashG p q s.stepS)) Fa.mixed (hold_ok (by intro y hy; exact List.mem_append_left _ hy)) ?_; (refine wh_pure 0 rfl (by kernel_rfl) rfl rfl (pvm_move_p rfl) ?_); (refine wh_pure 1 rfl (by kernel_rfl) rfl rfl (pvm_move_i rfl) ?_); refine wh_pure 2 rfl (by kernel_rfl) rfl rfl (pv_nilCheck rfl) ?_; refine wh_pure 3 rfl (by kernel_rfl) rfl rfl (pv_fieldAddr FaFlashW3.fo_80_1 rfl) ?_; refine wh_pure 4 rfl (by kernel_rfl) rfl rfl (pv_indexAddr_arr1 FaFlashW3.ar_51 rfl rfl (by omega) (by omega)) ?_; (refine wh_load 5 rfl (by kernel_rfl) rfl rfl FaFlashW3.one_3 rfl (Has.hold 0 rfl her') ?_); (refine wh_pure 6 rfl (by kernel_rfl) rfl rfl (pv_add rfl rfl) ?_); refine wh_pure 7 rfl (by kernel_rfl) rfl rfl (pv_nilCheck rfl) ?_; refine wh_pure 8 rfl (by kernel_rfl) rfl rfl (pv_fieldAddr FaFlashW3.fo_80_1 rfl) ?_; refine wh_pure 9 rfl (by kernel_rfl) rfl rfl (pv_indexAddr_arr1 FaFlashW3.ar_51 rfl rfl (by omega) (by omega)) ?_; (refine wh_rel 10 (by kernel_rfl) rfl rfl rfl rfl (opw_storeO _ 0 0 FaFlashW3.sz_3 rfl rfl rfl rfl rfl (by show 0 + 1 + k' < 21; omega) (noFr_zero _ _) (flash_setEr q s.stepS k' _ (by omega)) ?_)); (refine wz_done (by kernel_rfl) ?_)) | refine wr rfl ?_)
    all_goals simp only [Fs.erase, Int.toNat_natCast]
    · have h1 : s.down = true := ‹_›
      refine ret_r (v := .int .i64 _) rfl ?_
      rw [if_pos h1]; exact ⟨rfl, rfl⟩
    · have h1 : s.down = false := ‹_›
      have h2 : s.wear ≤ s.er k' := ‹_›
      refine ret_r (v := .int .i64 _) rfl ?_
      rw [if_neg (by simp [h1]), if_neg (by omega), if_pos h2]; exact ⟨rfl, rfl⟩
    · have h1 : s.down = false := ‹_›
      have h2 : ¬ s.wear ≤ s.er k' := ‹_›
      have h3 : s.stepS.down = true := by have : (!s.stepS.down) = false := ‹_›; simpa using this
      rw [if_neg (by simp [h1]), if_neg (by omega), if_neg h2, if_pos h3]
      refine w_loop2 (ι := Nat) (fun i ρ ro' own => i ≤ s.eraseN ∧ Kn [(0, .pointer (some ⟨p, 0, none⟩)), (1, .int .i64 k'), (6, .bool (!s.stepS.down)), (55, .int .i64 s.eraseN), (56, .int .i64 i)] ρ ∧ ro' = ro ∧ own = [flashG p q (s.erasedN k' i)]) (fun i => s.eraseN - i) 0 ⟨Nat.zero_le _, ⟨rfl, rfl, rfl, congrArg (Value.int .i64) (Fs.eraseN_t h3).symm, rfl, trivial⟩, rfl, by unfold Fs.erasedN; rw [fill255_zero]; rfl⟩ ?_
      rintro i ρ ro' own ⟨hi, hkn, rfl, rfl⟩
      obtain ⟨ρ', rfl⟩ := hkn.ex
      have hle := s.eraseN_le
      have hbl : 3584 ≤ (s.erasedN k' i).b.length := by unfold Fs.erasedN; dsimp only; rw [fill255_len _ _ _ (by rw [Fs.stepS_b]; omega), Fs.stepS_b]; exact hb
      by_cases hlt : i < s.eraseN
      · repeat' (first | ((with_reducible refine g_wl ?_); (first | refine kN ?_ | ((with_reducible refine g_mv ?_); (first | refine kp (pvm_move_p rfl) ?_ | refine kp (pvm_move_i rfl) ?_)) | ((with_reducible refine g_as ?_); (refine kp (pvm_assign_i rfl) ?_)) | ((with_reducible refine g_bo ?_); (first | refine kp (pv_imul rfl rfl (by omega)) ?_ | refine kp (pv_iadd rfl rfl (by omega)) ?_ | refine kp (pv_lss rfl rfl) ?_)) | ((with_reducible refine g_ld ?_); (refine kd (opw_load Fb.h rfl (Has.own 0 0 rfl rfl) ?_))) | ((with_reducible refine g_st ?_); (refine kn (opw_storeArr (f := v8) (k' * 256 + i) 0 1 Ft.h rfl (v8_lit 255 rfl (by omega)) rfl rfl rfl (by omega) (by omega) ?_))) | refine kp (pv_nilCheck rfl) ?_ | refine kp (pv_fieldAddr Ft.h rfl) ?_ | refine kp (pv_indexAddr1 FaFlashW3.sl_22 rfl rfl (by omega) (by omega)) ?_)) | with_reducible refine w_seq ?_ | with_reducible refine thenP_n ?_ | with_reducible refine blockP_n ?_ | with_reducible refine w_skip ?_ | with_reducible refine w_block ?_ | (refine w_cond_dec rfl (fun _ => ?_) (fun _ => ?_) <;> try (exfalso; omega)) | refine wr rfl ?_)
        refine ⟨i + 1, _, Sub.refl, ⟨hlt, ⟨rfl, rfl, rfl, rfl, rfl, trivial⟩, rfl, ?_⟩, by omega⟩
        have := fill255_succ s.stepS.b (k' * 256) i (by rw [Fs.stepS_b]; omega)
        show [flashG p q { s.erasedN k' i with b := (fill255 s.stepS.b (k' * 256) i).set (k' * 256 + i) 255#8 }] = _
        rw [this]; rfl
      · obtain rfl : i = s.eraseN := by omega
        repeat' (first | ((with_reducible refine g_wl ?_); (first | refine kN ?_ | ((with_reducible refine g_mv ?_); (refine kp (pvm_move_b rfl) ?_)) | ((with_reducible refine g_as ?_); (refine kp (pvm_assign_i rfl) ?_)) | ((with_reducible refine g_bo ?_); (refine kp (pv_lss rfl rfl) ?_)) | refine kp (pv_not rfl) ?_)) | with_reducible refine w_seq ?_ | with_reducible refine thenP_n ?_ | with_reducible refine thenP_x ?_ | with_reducible refine thenP_r ?_ | with_reducible refine blockP_eq ?_ | with_reducible refine w_skip ?_ | with_reducible refine w_ret ?_ | with_reducible refine w_exit ?_ | (refine w_cond_dec rfl (fun _ => ?_) (fun _ => ?_) <;> try (exfalso; omega)) | refine w_cond_not rfl (fun _ => ?_) (fun _ => ?_) | refine wr rfl ?_)
        all_goals first | exact ret_r (v := .int .i64 _) rfl ⟨rfl, rfl⟩ | (exfalso; have h4 : (!s.stepS.down) = true := ‹_›; rw [h3] at h4; cases h4)
    · have h1 : s.down = false := ‹_›
      have h2 : ¬ s.wear ≤ s.er k' := ‹_›
      have h3 : s.stepS.down = false := by have : (!s.stepS.down) = true := ‹_›; simpa using this
      rw [if_neg (by simp [h1]), if_neg (by omega), if_neg h2, if_neg (by simp [h3])]
      refine w_loop2 (ι := Nat) (fun i ρ ro' own => i ≤ s.eraseN ∧ Kn [(0, .pointer (some ⟨p, 0, none⟩)), (1, .int .i64 k'), (6, .bool (!s.stepS.down)), (55, .int .i64 s.eraseN), (56, .int .i64 i)] ρ ∧ ro' = ro ∧ own = [flashG p q (s.erasedN k' i)]) (fun i => s.eraseN - i) 0 ⟨Nat.zero_le _, ⟨rfl, rfl, rfl, congrArg (Value.int .i64) (by rw [Fs.eraseN_f h3]; rfl), rfl, trivial⟩, rfl, by unfold Fs.erasedN; rw [fill255_zero]; rfl⟩ ?_
      rintro i ρ ro' own ⟨hi, hkn, rfl, rfl⟩
      obtain ⟨ρ', rfl⟩ := hkn.ex
      have hle := s.eraseN_le
      have hbl : 3584 ≤ (s.erasedN k' i).b.length := by unfold Fs.erasedN; dsimp only; rw [fill255_len _ _ _ (by rw [Fs.stepS_b]; omega), Fs.stepS_b]; exact hb
      by_cases hlt : i < s.eraseN
      · repeat' (first | ((with_reducible refine g_wl ?_); (first | refine kN ?_ | ((with_reducible refine g_mv ?_); (first | refine kp (pvm_move_p rfl) ?_ | refine kp (pvm_move_i rfl) ?_)) | ((with_reducible refine g_as ?_); (refine kp (pvm_assign_i rfl) ?_)) | ((with_reducible refine g_bo ?_); (first | refine kp (pv_imul rfl rfl (by omega)) ?_ | refine kp (pv_iadd rfl rfl (by omega)) ?_ | refine kp (pv_lss rfl rfl) ?_)) | ((with_reducible refine g_ld ?_); (refine kd (opw_load Fb.h rfl (Has.own 0 0 rfl rfl) ?_))) | ((with_reducible refine g_st ?_); (refine kn (opw_storeArr (f := v8) (k' * 256 + i) 0 1 Ft.h rfl (v8_lit 255 rfl (by omega)) rfl rfl rfl (by omega) (by omega) ?_))) | refine kp (pv_nilCheck rfl) ?_ | refine kp (pv_fieldAddr Ft.h rfl) ?_ | refine kp (pv_indexAddr1 FaFlashW3.sl_22 rfl rfl (by omega) (by omega)) ?_)) | with_reducible refine w_seq ?_ | with_reducible refine thenP_n ?_ | with_reducible refine blockP_n ?_ | with_reducible refine w_skip ?_ | with_reducible refine w_block ?_ | (refine w_cond_dec rfl (fun _ => ?_) (fun _ => ?_) <;> try (exfalso; omega)) | refine wr rfl ?_)
        refine ⟨i + 1, _, Sub.refl, ⟨hlt, ⟨rfl, rfl, rfl, rfl, rfl, trivial⟩, rfl, ?_⟩, by omega⟩
        have := fill255_succ s.stepS.b (k' * 256) i (by rw [Fs.stepS_b]; omega)
        show [flashG p q { s.erasedN k' i with b := (fill255 s.stepS.b (k' * 256) i).set (k' * 256 + i) 255#8 }] = _
        rw [this]; rfl
      · obtain rfl : i = s.eraseN := by omega
        repeat' (first | ((with_reducible refine g_wl ?_); (first | refine kN ?_ | ((with_reducible refine g_mv ?_); (refine kp (pvm_move_b rfl) ?_)) | ((with_reducible refine g_as ?_); (refine kp (pvm_assign_i rfl) ?_)) | ((with_reducible refine g_bo ?_); (refine kp (pv_lss rfl rfl) ?_)) | refine kp (pv_not rfl) ?_)) | with_reducible refine w_seq ?_ | with_reducible refine thenP_n ?_ | with_reducible refine thenP_x ?_ | with_reducible refine thenP_r ?_ | with_reducible refine blockP_eq ?_ | with_reducible refine w_skip ?_ | with_reducible refine w_ret ?_ | with_reducible refine w_exit ?_ | (refine w_cond_dec rfl (fun _ => ?_) (fun _ => ?_) <;> try (exfalso; omega)) | refine w_cond_not rfl (fun _ => ?_) (fun _ => ?_) | refine wr rfl ?_)
        all_goals first | exact ret_r (v := .int .i64 _) rfl ⟨rfl, rfl⟩ | (exfalso; have h4 : (!s.stepS.down) = false := ‹_›; rw [h3] at h4; cases h4)
  · refine c_of_w2 (n := 71) Try.func73 rfl rfl rfl (by rfl) fun E => ?_
    repeat' (first | ((with_reducible refine g_wl ?_); (first | refine kN ?_ | ((with_reducible refine g_gd ?_); (first | refine kg rfl ?_ | refine ks rfl ?_ | refine kc rfl rfl rfl (fun _ => ?_) (fun _ => ?_))) | ((with_reducible refine g_mv ?_); (first | refine kp (pvm_move_p rfl) ?_ | refine kp (pvm_move_b rfl) ?_ | refine kp (pvm_move_i rfl) ?_)) | ((with_reducible refine g_as ?_); (first | refine kp (pvm_assign_b rfl) ?_ | refine kp (pvm_assign_i rfl) ?_)) | ((with_reducible refine g_pk ?_); (first | refine kp (pvk_t_b rfl rfl) ?_ | refine kp (pvk_f_b rfl rfl) ?_)) | ((with_reducible refine g_bo ?_); (first | refine kp (pv_ptr_nil Ft.h rfl rfl) ?_ | refine kp (pv_lss rfl rfl) ?_ | refine kp (pv_geq rfl rfl) ?_)) | ((with_reducible refine g_ld ?_); (refine kd (opw_load Fb.h rfl (Has.own 0 0 rfl rfl) ?_))) | refine kp (pv_nilCheck rfl) ?_ | refine kp (pv_fieldAddr Ft.h rfl) ?_)) | with_reducible refine w_seq ?_ | with_reducible refine thenP_n ?_ | with_reducible refine thenP_r ?_ | with_reducible refine blockP_r ?_ | with_reducible refine w_ret ?_ | with_reducible refine w_block ?_ | refine w_cond_true rfl ?_ | refine w_cond_false rfl ?_ | (refine w_cond_dec rfl (fun _ => ?_) (fun _ => ?_) <;> try (exfalso; omega)) | refine w_cond rfl (fun _ => ?_) (fun _ => ?_) | refine wr rfl ?_)
    all_goals refine ret_r (v := .int .i64 _) rfl ?_
    · have h1 : s.down = true := ‹_›
      simp [Fs.erase, h1]
    all_goals
      have h1 : s.down = false := ‹_›
      simp only [Fs.erase]
      rw [if_neg (by simp [h1]), if_pos (by omega)]
      exact ⟨rfl, rfl⟩
end Go.Proofs.Ytnohdfhhdppflaa
