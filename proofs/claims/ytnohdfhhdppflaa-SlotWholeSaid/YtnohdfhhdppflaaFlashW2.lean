/- Flash's further methods, walked. -/
import Derived.Test.YtnohdfhhdppflaaFlashW
import Derived.Test.YtnohdfhhdppflaaLibW
namespace Go.Proofs.Ytnohdfhhdppflaa
open Go Go.Vc Go.Fl
set_option linter.unusedVariables false
set_option linter.unusedSimpArgs false
set_option maxRecDepth 100000

theorem down_c (p q : Nat) (s : Fs) (ro : RO) : C Try.prog 38 #[.pointer (some ⟨p, 0, none⟩)] ro [flashG p q s] fun v own => v = .bool s.down ∧ own = [flashG p q s] := by
  refine c_of_w2 (n := 11) Try.func38 rfl rfl rfl (by rfl) fun E => ?_
  repeat' (first
    | with_reducible refine w_seq ?_
    | with_reducible refine thenP_n ?_
    | with_reducible refine thenP_x ?_
    | with_reducible refine thenP_r ?_
    | with_reducible refine blockP_n ?_
    | with_reducible refine blockP_r ?_
    | with_reducible refine blockP_eq ?_
    | with_reducible refine blockP_ne (by rfl) ?_
    | with_reducible refine w_skip ?_
    | with_reducible refine w_ret ?_
    | with_reducible refine w_exit ?_
    | with_reducible refine w_block ?_
    | refine w_cond_true rfl ?_
    | refine w_cond_false rfl ?_
    | (refine w_cond_dec rfl (fun _ => ?_) (fun _ => ?_) <;> try (exfalso; omega))
    | (refine w_cond_ndec rfl (fun _ => ?_) (fun _ => ?_) <;> try (exfalso; omega))
    | refine w_cond_not rfl (fun _ => ?_) (fun _ => ?_)
    | refine w_cond rfl (fun _ => ?_) (fun _ => ?_)
    | ((with_reducible refine w_region (id := 0) ?_); (first | (refine wl_pure rfl rfl (pvm_assign_b rfl) ?_) | (refine wl_pure rfl rfl pv_assign ?_)); refine wl_nil ?_)
    | ((with_reducible refine w_region (id := 1) ?_); all_goals (first | (refine wl_pure rfl rfl (pvm_move_p rfl) ?_) | (refine wl_pure rfl rfl pv_move ?_)); all_goals (refine wl_pure rfl rfl (pv_ptr_nnil Try.underlying25 rfl rfl) ?_); all_goals (first | (refine wl_pure rfl rfl (pvm_move_b rfl) ?_) | (refine wl_pure rfl rfl pv_move ?_)); all_goals (first | (refine wl_skipd rfl rfl ?_) | (refine wl_pure rfl rfl (pvm_move_p rfl) ?_) | (refine wl_pure rfl rfl pv_move ?_) | ((refine wl_split_dec rfl rfl rfl (fun _ => ?_) (fun _ => ?_)) <;> (first | (refine wl_skipd rfl rfl ?_) | (refine wl_pure rfl rfl (pvm_move_p rfl) ?_) | (refine wl_pure rfl rfl pv_move ?_))) | ((refine wl_split rfl rfl rfl (fun _ => ?_) (fun _ => ?_)) <;> (first | (refine wl_skipd rfl rfl ?_) | (refine wl_pure rfl rfl (pvm_move_p rfl) ?_) | (refine wl_pure rfl rfl pv_move ?_)))); all_goals (first | (refine wl_skipd rfl rfl ?_) | (refine wl_pure rfl rfl (pv_nilCheck rfl) ?_) | ((refine wl_split_dec rfl rfl rfl (fun _ => ?_) (fun _ => ?_)) <;> (first | (refine wl_skipd rfl rfl ?_) | (refine wl_pure rfl rfl (pv_nilCheck rfl) ?_))) | ((refine wl_split rfl rfl rfl (fun _ => ?_) (fun _ => ?_)) <;> (first | (refine wl_skipd rfl rfl ?_) | (refine wl_pure rfl rfl (pv_nilCheck rfl) ?_)))); all_goals (first | (refine wl_skipd rfl rfl ?_) | (refine wl_pure rfl rfl (pv_fieldAddr Fa.fo_80_3 rfl) ?_) | ((refine wl_split_dec rfl rfl rfl (fun _ => ?_) (fun _ => ?_)) <;> (first | (refine wl_skipd rfl rfl ?_) | (refine wl_pure rfl rfl (pv_fieldAddr Fa.fo_80_3 rfl) ?_))) | ((refine wl_split rfl rfl rfl (fun _ => ?_) (fun _ => ?_)) <;> (first | (refine wl_skipd rfl rfl ?_) | (refine wl_pure rfl rfl (pv_fieldAddr Fa.fo_80_3 rfl) ?_)))); all_goals (first | (refine wl_skipd rfl rfl ?_) | (refine wl_do rfl rfl (opw_load Fa.one_4 rfl (Has.own 0 0 rfl rfl) ?_)) | (refine wl_do rfl rfl (opw_load Fa.one_4 rfl (Has.own 1 0 rfl rfl) ?_)) | (refine wl_do rfl rfl (opw_load Fa.one_4 rfl (Has.own 2 0 rfl rfl) ?_)) | (refine wl_do rfl rfl (opw_load Fa.one_4 rfl (Has.own 3 0 rfl rfl) ?_)) | (refine wl_do rfl rfl (opw_load Fa.one_4 rfl (Has.own 0 1 rfl rfl) ?_)) | (refine wl_do rfl rfl (opw_load Fa.one_4 rfl (Has.own 1 1 rfl rfl) ?_)) | (refine wl_do rfl rfl (opw_load Fa.one_4 rfl (Has.own 4 0 rfl rfl) ?_)) | (refine wl_do rfl rfl (opw_load Fa.one_4 rfl (Has.own 2 1 rfl rfl) ?_)) | (refine wl_do rfl rfl (opw_load Fa.one_4 rfl (Has.own 5 0 rfl rfl) ?_)) | ((refine wl_split_dec rfl rfl rfl (fun _ => ?_) (fun _ => ?_)) <;> (first | (refine wl_skipd rfl rfl ?_) | (refine wl_do rfl rfl (opw_load Fa.one_4 rfl (Has.own 0 0 rfl rfl) ?_)) | (refine wl_do rfl rfl (opw_load Fa.one_4 rfl (Has.own 1 0 rfl rfl) ?_)) | (refine wl_do rfl rfl (opw_load Fa.one_4 rfl (Has.own 2 0 rfl rfl) ?_)) | (refine wl_do rfl rfl (opw_load Fa.one_4 rfl (Has.own 3 0 rfl rfl) ?_)) | (refine wl_do rfl rfl (opw_load Fa.one_4 rfl (Has.own 0 1 rfl rfl) ?_)) | (refine wl_do rfl rfl (opw_load Fa.one_4 rfl (Has.own 1 1 rfl rfl) ?_)) | (refine wl_do rfl rfl (opw_load Fa.one_4 rfl (Has.own 4 0 rfl rfl) ?_)) | (refine wl_do rfl rfl (opw_load Fa.one_4 rfl (Has.own 2 1 rfl rfl) ?_)) | (refine wl_do rfl rfl (opw_load Fa.one_4 rfl (Has.own 5 0 rfl rfl) ?_)))) | ((refine wl_split rfl rfl rfl (fun _ => ?_) (fun _ => ?_)) <;> (first | (refine wl_skipd rfl rfl ?_) | (refine wl_do rfl rfl (opw_load Fa.one_4 rfl (Has.own 0 0 rfl rfl) ?_)) | (refine wl_do rfl rfl (opw_load Fa.one_4 rfl (Has.own 1 0 rfl rfl) ?_)) | (refine wl_do rfl rfl (opw_load Fa.one_4 rfl (Has.own 2 0 rfl rfl) ?_)) | (refine wl_do rfl rfl (opw_load Fa.one_4 rfl (Has.own 3 0 rfl rfl) ?_)) | (refine wl_do rfl rfl (opw_load Fa.one_4 rfl (Has.own 0 1 rfl rfl) ?_)) | (refine wl_do rfl rfl (opw_load Fa.one_4 rfl (Has.own 1 1 rfl rfl) ?_)) | (refine wl_do rfl rfl (opw_load Fa.one_4 rfl (Has.own 4 0 rfl rfl) ?_)) | (refine wl_do rfl rfl (opw_load Fa.one_4 rfl (Has.own 2 1 rfl rfl) ?_)) | (refine wl_do rfl rfl (opw_load Fa.one_4 rfl (Has.own 5 0 rfl rfl) ?_))))); all_goals (first | (refine wl_pure rfl rfl (pvk_t_b rfl rfl) ?_) | (refine wl_pure rfl rfl (pvk_f_b rfl rfl) ?_) | (refine wl_pure rfl rfl (pv_pick_t rfl) ?_) | (refine wl_pure rfl rfl (pv_pick_f rfl) ?_) | (refine wl_pure rfl rfl (pvk_and rfl rfl) ?_) | (refine wl_pure rfl rfl (pvk_or rfl rfl) ?_) | (refine wl_pure rfl rfl (pv_pick rfl) ?_)); all_goals (first | (refine wl_pure rfl rfl (pvm_assign_b rfl) ?_) | (refine wl_pure rfl rfl pv_assign ?_)); all_goals (refine wl_nil ?_)))
  exact ret_r (v := .bool _) rfl ⟨rfl, rfl⟩
theorem start_c (p q : Nat) (s : Fs) (ro : RO) : C Try.prog 14 #[.pointer (some ⟨p, 0, none⟩)] ro [flashG p q s] fun v own => own = [flashG p q s.start] := by
  refine c_of_w2 (n := 21) Try.func14 rfl rfl rfl (by rfl) fun E => ?_
  repeat' (first
    | with_reducible refine w_seq ?_
    | with_reducible refine thenP_n ?_
    | with_reducible refine thenP_x ?_
    | with_reducible refine thenP_r ?_
    | with_reducible refine blockP_n ?_
    | with_reducible refine blockP_r ?_
    | with_reducible refine blockP_eq ?_
    | with_reducible refine blockP_ne (by rfl) ?_
    | with_reducible refine w_skip ?_
    | with_reducible refine w_ret ?_
    | with_reducible refine w_exit ?_
    | with_reducible refine w_block ?_
    | refine w_cond_true rfl ?_
    | refine w_cond_false rfl ?_
    | (refine w_cond_dec rfl (fun _ => ?_) (fun _ => ?_) <;> try (exfalso; omega))
    | (refine w_cond_ndec rfl (fun _ => ?_) (fun _ => ?_) <;> try (exfalso; omega))
    | refine w_cond_not rfl (fun _ => ?_) (fun _ => ?_)
    | refine w_cond rfl (fun _ => ?_) (fun _ => ?_)
    | ((with_reducible refine w_region (id := 0) ?_); (first | (refine wl_pure rfl rfl (pvm_move_p rfl) ?_) | (refine wl_pure rfl rfl pv_move ?_)); refine wl_pure rfl rfl (pv_ptr_nnil Try.underlying25 rfl rfl) ?_; refine wl_nil ?_)
    | ((with_reducible refine w_region (id := 1) ?_); all_goals (first | (refine wl_pure rfl rfl (pvm_move_p rfl) ?_) | (refine wl_pure rfl rfl pv_move ?_)); all_goals (first | (refine wl_pure rfl rfl (pvm_move_p rfl) ?_) | (refine wl_pure rfl rfl pv_move ?_)); all_goals (first | (refine wl_pure rfl rfl (pvm_move_p rfl) ?_) | (refine wl_pure rfl rfl pv_move ?_)); all_goals (refine wl_pure rfl rfl (pv_nilCheck rfl) ?_); all_goals (refine wl_pure rfl rfl (pv_fieldAddr Fa.fo_80_4 rfl) ?_); all_goals (first | (refine wl_do rfl rfl (opw_load Fa.one_4 rfl (Has.own 0 0 rfl rfl) ?_)) | (refine wl_do rfl rfl (opw_load Fa.one_4 rfl (Has.own 1 0 rfl rfl) ?_)) | (refine wl_do rfl rfl (opw_load Fa.one_4 rfl (Has.own 2 0 rfl rfl) ?_)) | (refine wl_do rfl rfl (opw_load Fa.one_4 rfl (Has.own 3 0 rfl rfl) ?_)) | (refine wl_do rfl rfl (opw_load Fa.one_4 rfl (Has.own 0 1 rfl rfl) ?_)) | (refine wl_do rfl rfl (opw_load Fa.one_4 rfl (Has.own 1 1 rfl rfl) ?_)) | (refine wl_do rfl rfl (opw_load Fa.one_4 rfl (Has.own 4 0 rfl rfl) ?_)) | (refine wl_do rfl rfl (opw_load Fa.one_4 rfl (Has.own 2 1 rfl rfl) ?_)) | (refine wl_do rfl rfl (opw_load Fa.one_4 rfl (Has.own 5 0 rfl rfl) ?_))); all_goals (first | (refine wl_pure rfl rfl (pvm_move_b rfl) ?_) | (refine wl_pure rfl rfl pv_move ?_)); all_goals (first | (refine wl_skipd rfl rfl ?_) | (refine wl_pure rfl rfl (pvm_move_p rfl) ?_) | (refine wl_pure rfl rfl pv_move ?_) | ((refine wl_split_dec rfl rfl rfl (fun _ => ?_) (fun _ => ?_)) <;> (first | (refine wl_skipd rfl rfl ?_) | (refine wl_pure rfl rfl (pvm_move_p rfl) ?_) | (refine wl_pure rfl rfl pv_move ?_))) | ((refine wl_split rfl rfl rfl (fun _ => ?_) (fun _ => ?_)) <;> (first | (refine wl_skipd rfl rfl ?_) | (refine wl_pure rfl rfl (pvm_move_p rfl) ?_) | (refine wl_pure rfl rfl pv_move ?_)))); all_goals (first | (refine wl_skipd rfl rfl ?_) | (refine wl_pure rfl rfl (pv_nilCheck rfl) ?_) | ((refine wl_split_dec rfl rfl rfl (fun _ => ?_) (fun _ => ?_)) <;> (first | (refine wl_skipd rfl rfl ?_) | (refine wl_pure rfl rfl (pv_nilCheck rfl) ?_))) | ((refine wl_split rfl rfl rfl (fun _ => ?_) (fun _ => ?_)) <;> (first | (refine wl_skipd rfl rfl ?_) | (refine wl_pure rfl rfl (pv_nilCheck rfl) ?_)))); all_goals (first | (refine wl_skipd rfl rfl ?_) | (refine wl_pure rfl rfl (pv_fieldAddr Fa.fo_80_5 rfl) ?_) | ((refine wl_split_dec rfl rfl rfl (fun _ => ?_) (fun _ => ?_)) <;> (first | (refine wl_skipd rfl rfl ?_) | (refine wl_pure rfl rfl (pv_fieldAddr Fa.fo_80_5 rfl) ?_))) | ((refine wl_split rfl rfl rfl (fun _ => ?_) (fun _ => ?_)) <;> (first | (refine wl_skipd rfl rfl ?_) | (refine wl_pure rfl rfl (pv_fieldAddr Fa.fo_80_5 rfl) ?_)))); all_goals (first | (refine wl_skipd rfl rfl ?_) | (refine wl_do rfl rfl (opw_load Fa.one_3 rfl (Has.own 0 0 rfl rfl) ?_)) | (refine wl_do rfl rfl (opw_load Fa.one_3 rfl (Has.own 1 0 rfl rfl) ?_)) | (refine wl_do rfl rfl (opw_load Fa.one_3 rfl (Has.own 2 0 rfl rfl) ?_)) | (refine wl_do rfl rfl (opw_load Fa.one_3 rfl (Has.own 3 0 rfl rfl) ?_)) | (refine wl_do rfl rfl (opw_load Fa.one_3 rfl (Has.own 0 1 rfl rfl) ?_)) | (refine wl_do rfl rfl (opw_load Fa.one_3 rfl (Has.own 1 1 rfl rfl) ?_)) | (refine wl_do rfl rfl (opw_load Fa.one_3 rfl (Has.own 4 0 rfl rfl) ?_)) | (refine wl_do rfl rfl (opw_load Fa.one_3 rfl (Has.own 2 1 rfl rfl) ?_)) | (refine wl_do rfl rfl (opw_load Fa.one_3 rfl (Has.own 5 0 rfl rfl) ?_)) | ((refine wl_split_dec rfl rfl rfl (fun _ => ?_) (fun _ => ?_)) <;> (first | (refine wl_skipd rfl rfl ?_) | (refine wl_do rfl rfl (opw_load Fa.one_3 rfl (Has.own 0 0 rfl rfl) ?_)) | (refine wl_do rfl rfl (opw_load Fa.one_3 rfl (Has.own 1 0 rfl rfl) ?_)) | (refine wl_do rfl rfl (opw_load Fa.one_3 rfl (Has.own 2 0 rfl rfl) ?_)) | (refine wl_do rfl rfl (opw_load Fa.one_3 rfl (Has.own 3 0 rfl rfl) ?_)) | (refine wl_do rfl rfl (opw_load Fa.one_3 rfl (Has.own 0 1 rfl rfl) ?_)) | (refine wl_do rfl rfl (opw_load Fa.one_3 rfl (Has.own 1 1 rfl rfl) ?_)) | (refine wl_do rfl rfl (opw_load Fa.one_3 rfl (Has.own 4 0 rfl rfl) ?_)) | (refine wl_do rfl rfl (opw_load Fa.one_3 rfl (Has.own 2 1 rfl rfl) ?_)) | (refine wl_do rfl rfl (opw_load Fa.one_3 rfl (Has.own 5 0 rfl rfl) ?_)))) | ((refine wl_split rfl rfl rfl (fun _ => ?_) (fun _ => ?_)) <;> (first | (refine wl_skipd rfl rfl ?_) | (refine wl_do rfl rfl (opw_load Fa.one_3 rfl (Has.own 0 0 rfl rfl) ?_)) | (refine wl_do rfl rfl (opw_load Fa.one_3 rfl (Has.own 1 0 rfl rfl) ?_)) | (refine wl_do rfl rfl (opw_load Fa.one_3 rfl (Has.own 2 0 rfl rfl) ?_)) | (refine wl_do rfl rfl (opw_load Fa.one_3 rfl (Has.own 3 0 rfl rfl) ?_)) | (refine wl_do rfl rfl (opw_load Fa.one_3 rfl (Has.own 0 1 rfl rfl) ?_)) | (refine wl_do rfl rfl (opw_load Fa.one_3 rfl (Has.own 1 1 rfl rfl) ?_)) | (refine wl_do rfl rfl (opw_load Fa.one_3 rfl (Has.own 4 0 rfl rfl) ?_)) | (refine wl_do rfl rfl (opw_load Fa.one_3 rfl (Has.own 2 1 rfl rfl) ?_)) | (refine wl_do rfl rfl (opw_load Fa.one_3 rfl (Has.own 5 0 rfl rfl) ?_))))); all_goals (first | (refine wl_skipd rfl rfl ?_) | (refine wl_pure rfl rfl (pv_geq rfl rfl) ?_) | ((refine wl_split_dec rfl rfl rfl (fun _ => ?_) (fun _ => ?_)) <;> (first | (refine wl_skipd rfl rfl ?_) | (refine wl_pure rfl rfl (pv_geq rfl rfl) ?_))) | ((refine wl_split rfl rfl rfl (fun _ => ?_) (fun _ => ?_)) <;> (first | (refine wl_skipd rfl rfl ?_) | (refine wl_pure rfl rfl (pv_geq rfl rfl) ?_)))); all_goals (first | (refine wl_pure rfl rfl (pvk_t_b rfl rfl) ?_) | (refine wl_pure rfl rfl (pvk_f_b rfl rfl) ?_) | (refine wl_pure rfl rfl (pv_pick_t rfl) ?_) | (refine wl_pure rfl rfl (pv_pick_f rfl) ?_) | (refine wl_pure rfl rfl (pvk_and rfl rfl) ?_) | (refine wl_pure rfl rfl (pvk_or rfl rfl) ?_) | (refine wl_pure rfl rfl (pv_pick rfl) ?_)); all_goals (refine wl_pure rfl rfl (pv_nilCheck rfl) ?_); all_goals (refine wl_pure rfl rfl (pv_fieldAddr Fa.fo_80_3 rfl) ?_); all_goals (first | (refine wl_no rfl (opw_store 0 0 Fa.sz_4 rfl rfl rfl rfl rfl (Nat.le_of_ble_eq_true rfl) (noFr_zero _ _) ?_)) | (refine wl_no rfl (opw_store 1 0 Fa.sz_4 rfl rfl rfl rfl rfl (Nat.le_of_ble_eq_true rfl) (noFr_zero _ _) ?_)) | (refine wl_no rfl (opw_store 2 0 Fa.sz_4 rfl rfl rfl rfl rfl (Nat.le_of_ble_eq_true rfl) (noFr_zero _ _) ?_)) | (refine wl_no rfl (opw_store 3 0 Fa.sz_4 rfl rfl rfl rfl rfl (Nat.le_of_ble_eq_true rfl) (noFr_zero _ _) ?_)) | (refine wl_no rfl (opw_store 0 1 Fa.sz_4 rfl rfl rfl rfl rfl (Nat.le_of_ble_eq_true rfl) (noFr_zero _ _) ?_)) | (refine wl_no rfl (opw_store 1 1 Fa.sz_4 rfl rfl rfl rfl rfl (Nat.le_of_ble_eq_true rfl) (noFr_zero _ _) ?_)) | (refine wl_no rfl (opw_store 4 0 Fa.sz_4 rfl rfl rfl rfl rfl (Nat.le_of_ble_eq_true rfl) (noFr_zero _ _) ?_)) | (refine wl_no rfl (opw_store 2 1 Fa.sz_4 rfl rfl rfl rfl rfl (Nat.le_of_ble_eq_true rfl) (noFr_zero _ _) ?_)) | (refine wl_no rfl (opw_store 5 0 Fa.sz_4 rfl rfl rfl rfl rfl (Nat.le_of_ble_eq_true rfl) (noFr_zero _ _) ?_))); all_goals (refine wl_pure rfl rfl (pv_nilCheck rfl) ?_); all_goals (refine wl_pure rfl rfl (pv_fieldAddr Fa.fo_80_4 rfl) ?_); all_goals (first | (refine wl_no rfl (opw_store 0 0 Fa.sz_4 rfl rfl rfl rfl rfl (Nat.le_of_ble_eq_true rfl) (noFr_zero _ _) ?_)) | (refine wl_no rfl (opw_store 1 0 Fa.sz_4 rfl rfl rfl rfl rfl (Nat.le_of_ble_eq_true rfl) (noFr_zero _ _) ?_)) | (refine wl_no rfl (opw_store 2 0 Fa.sz_4 rfl rfl rfl rfl rfl (Nat.le_of_ble_eq_true rfl) (noFr_zero _ _) ?_)) | (refine wl_no rfl (opw_store 3 0 Fa.sz_4 rfl rfl rfl rfl rfl (Nat.le_of_ble_eq_true rfl) (noFr_zero _ _) ?_)) | (refine wl_no rfl (opw_store 0 1 Fa.sz_4 rfl rfl rfl rfl rfl (Nat.le_of_ble_eq_true rfl) (noFr_zero _ _) ?_)) | (refine wl_no rfl (opw_store 1 1 Fa.sz_4 rfl rfl rfl rfl rfl (Nat.le_of_ble_eq_true rfl) (noFr_zero _ _) ?_)) | (refine wl_no rfl (opw_store 4 0 Fa.sz_4 rfl rfl rfl rfl rfl (Nat.le_of_ble_eq_true rfl) (noFr_zero _ _) ?_)) | (refine wl_no rfl (opw_store 2 1 Fa.sz_4 rfl rfl rfl rfl rfl (Nat.le_of_ble_eq_true rfl) (noFr_zero _ _) ?_)) | (refine wl_no rfl (opw_store 5 0 Fa.sz_4 rfl rfl rfl rfl rfl (Nat.le_of_ble_eq_true rfl) (noFr_zero _ _) ?_))); all_goals (refine wl_nil ?_)))
  all_goals refine ret_n rfl ?_
  · have e : s.start = { s with down := false, fused := decide (0 ≤ s.left) } := by have h : s.fused = true := ‹_›; simp [Fs.start, h]
    rw [e]; rfl
  · have e : s.start = { s with down := false, fused := false } := by have h : s.fused = false := ‹_›; simp [Fs.start, h]
    rw [e]; rfl
theorem fuse_c (p q : Nat) (s : Fs) (n torn : Int) (ro : RO) : C Try.prog 13 #[.pointer (some ⟨p, 0, none⟩), .int .i64 n, .int .i64 torn] ro [flashG p q s] fun v own => own = [flashG p q (s.fuse n torn)] := by
  refine c_of_w2 (n := 21) Try.func13 rfl rfl rfl (by rfl) fun E => ?_
  repeat' (first
    | with_reducible refine w_seq ?_
    | with_reducible refine thenP_n ?_
    | with_reducible refine thenP_x ?_
    | with_reducible refine thenP_r ?_
    | with_reducible refine blockP_n ?_
    | with_reducible refine blockP_r ?_
    | with_reducible refine blockP_eq ?_
    | with_reducible refine blockP_ne (by rfl) ?_
    | with_reducible refine w_skip ?_
    | with_reducible refine w_ret ?_
    | with_reducible refine w_exit ?_
    | with_reducible refine w_block ?_
    | refine w_cond_true rfl ?_
    | refine w_cond_false rfl ?_
    | (refine w_cond_dec rfl (fun _ => ?_) (fun _ => ?_) <;> try (exfalso; omega))
    | (refine w_cond_ndec rfl (fun _ => ?_) (fun _ => ?_) <;> try (exfalso; omega))
    | refine w_cond_not rfl (fun _ => ?_) (fun _ => ?_)
    | refine w_cond rfl (fun _ => ?_) (fun _ => ?_)
    | ((with_reducible refine w_region (id := 0) ?_); (first | (refine wl_pure rfl rfl (pvm_move_p rfl) ?_) | (refine wl_pure rfl rfl pv_move ?_)); refine wl_pure rfl rfl (pv_ptr_nnil Try.underlying25 rfl rfl) ?_; refine wl_nil ?_)
    | ((with_reducible refine w_region (id := 1) ?_); (first | (refine wl_pure rfl rfl (pvm_move_p rfl) ?_) | (refine wl_pure rfl rfl pv_move ?_)); (first | (refine wl_pure rfl rfl (pvm_move_p rfl) ?_) | (refine wl_pure rfl rfl pv_move ?_)); (first | (refine wl_pure rfl rfl (pvm_move_p rfl) ?_) | (refine wl_pure rfl rfl pv_move ?_)); (first | (refine wl_pure rfl rfl (pvm_move_i rfl) ?_) | (refine wl_pure rfl rfl pv_move ?_)); refine wl_pure rfl rfl (pv_geq rfl rfl) ?_; (first | (refine wl_pure rfl rfl (pvm_move_i rfl) ?_) | (refine wl_pure rfl rfl pv_move ?_)); (first | (refine wl_pure rfl rfl (pvm_move_i rfl) ?_) | (refine wl_pure rfl rfl pv_move ?_)); refine wl_pure rfl rfl (pv_nilCheck rfl) ?_; refine wl_pure rfl rfl (pv_fieldAddr Fa.fo_80_4 rfl) ?_; (first | (refine wl_no rfl (opw_store 0 0 Fa.sz_4 rfl rfl rfl rfl rfl (Nat.le_of_ble_eq_true rfl) (noFr_zero _ _) ?_)) | (refine wl_no rfl (opw_store 1 0 Fa.sz_4 rfl rfl rfl rfl rfl (Nat.le_of_ble_eq_true rfl) (noFr_zero _ _) ?_)) | (refine wl_no rfl (opw_store 2 0 Fa.sz_4 rfl rfl rfl rfl rfl (Nat.le_of_ble_eq_true rfl) (noFr_zero _ _) ?_)) | (refine wl_no rfl (opw_store 3 0 Fa.sz_4 rfl rfl rfl rfl rfl (Nat.le_of_ble_eq_true rfl) (noFr_zero _ _) ?_)) | (refine wl_no rfl (opw_store 0 1 Fa.sz_4 rfl rfl rfl rfl rfl (Nat.le_of_ble_eq_true rfl) (noFr_zero _ _) ?_)) | (refine wl_no rfl (opw_store 1 1 Fa.sz_4 rfl rfl rfl rfl rfl (Nat.le_of_ble_eq_true rfl) (noFr_zero _ _) ?_)) | (refine wl_no rfl (opw_store 4 0 Fa.sz_4 rfl rfl rfl rfl rfl (Nat.le_of_ble_eq_true rfl) (noFr_zero _ _) ?_)) | (refine wl_no rfl (opw_store 2 1 Fa.sz_4 rfl rfl rfl rfl rfl (Nat.le_of_ble_eq_true rfl) (noFr_zero _ _) ?_)) | (refine wl_no rfl (opw_store 5 0 Fa.sz_4 rfl rfl rfl rfl rfl (Nat.le_of_ble_eq_true rfl) (noFr_zero _ _) ?_))); refine wl_pure rfl rfl (pv_nilCheck rfl) ?_; refine wl_pure rfl rfl (pv_fieldAddr Fa.fo_80_5 rfl) ?_; (first | (refine wl_no rfl (opw_store 0 0 Fa.sz_3 rfl rfl rfl rfl rfl (Nat.le_of_ble_eq_true rfl) (noFr_zero _ _) ?_)) | (refine wl_no rfl (opw_store 1 0 Fa.sz_3 rfl rfl rfl rfl rfl (Nat.le_of_ble_eq_true rfl) (noFr_zero _ _) ?_)) | (refine wl_no rfl (opw_store 2 0 Fa.sz_3 rfl rfl rfl rfl rfl (Nat.le_of_ble_eq_true rfl) (noFr_zero _ _) ?_)) | (refine wl_no rfl (opw_store 3 0 Fa.sz_3 rfl rfl rfl rfl rfl (Nat.le_of_ble_eq_true rfl) (noFr_zero _ _) ?_)) | (refine wl_no rfl (opw_store 0 1 Fa.sz_3 rfl rfl rfl rfl rfl (Nat.le_of_ble_eq_true rfl) (noFr_zero _ _) ?_)) | (refine wl_no rfl (opw_store 1 1 Fa.sz_3 rfl rfl rfl rfl rfl (Nat.le_of_ble_eq_true rfl) (noFr_zero _ _) ?_)) | (refine wl_no rfl (opw_store 4 0 Fa.sz_3 rfl rfl rfl rfl rfl (Nat.le_of_ble_eq_true rfl) (noFr_zero _ _) ?_)) | (refine wl_no rfl (opw_store 2 1 Fa.sz_3 rfl rfl rfl rfl rfl (Nat.le_of_ble_eq_true rfl) (noFr_zero _ _) ?_)) | (refine wl_no rfl (opw_store 5 0 Fa.sz_3 rfl rfl rfl rfl rfl (Nat.le_of_ble_eq_true rfl) (noFr_zero _ _) ?_))); refine wl_pure rfl rfl (pv_nilCheck rfl) ?_; refine wl_pure rfl rfl (pv_fieldAddr Fa.fo_80_6 rfl) ?_; (first | (refine wl_no rfl (opw_store 0 0 Fa.sz_3 rfl rfl rfl rfl rfl (Nat.le_of_ble_eq_true rfl) (noFr_zero _ _) ?_)) | (refine wl_no rfl (opw_store 1 0 Fa.sz_3 rfl rfl rfl rfl rfl (Nat.le_of_ble_eq_true rfl) (noFr_zero _ _) ?_)) | (refine wl_no rfl (opw_store 2 0 Fa.sz_3 rfl rfl rfl rfl rfl (Nat.le_of_ble_eq_true rfl) (noFr_zero _ _) ?_)) | (refine wl_no rfl (opw_store 3 0 Fa.sz_3 rfl rfl rfl rfl rfl (Nat.le_of_ble_eq_true rfl) (noFr_zero _ _) ?_)) | (refine wl_no rfl (opw_store 0 1 Fa.sz_3 rfl rfl rfl rfl rfl (Nat.le_of_ble_eq_true rfl) (noFr_zero _ _) ?_)) | (refine wl_no rfl (opw_store 1 1 Fa.sz_3 rfl rfl rfl rfl rfl (Nat.le_of_ble_eq_true rfl) (noFr_zero _ _) ?_)) | (refine wl_no rfl (opw_store 4 0 Fa.sz_3 rfl rfl rfl rfl rfl (Nat.le_of_ble_eq_true rfl) (noFr_zero _ _) ?_)) | (refine wl_no rfl (opw_store 2 1 Fa.sz_3 rfl rfl rfl rfl rfl (Nat.le_of_ble_eq_true rfl) (noFr_zero _ _) ?_)) | (refine wl_no rfl (opw_store 5 0 Fa.sz_3 rfl rfl rfl rfl rfl (Nat.le_of_ble_eq_true rfl) (noFr_zero _ _) ?_))); refine wl_nil ?_))
  exact ret_n rfl rfl
theorem blankF_c (x : BitVec 8) (ro : RO) : C Try.prog 81 #[v8 x] ro [] fun v own => v = .bool (decide (x ≠ 255#8)) ∧ own = [] := by
  refine c_of_w2 (n := 5) Try.func81 rfl rfl rfl (by rfl) fun E => ?_
  repeat' (first
    | with_reducible refine w_seq ?_
    | with_reducible refine thenP_n ?_
    | with_reducible refine thenP_x ?_
    | with_reducible refine thenP_r ?_
    | with_reducible refine blockP_n ?_
    | with_reducible refine blockP_r ?_
    | with_reducible refine blockP_eq ?_
    | with_reducible refine blockP_ne (by rfl) ?_
    | with_reducible refine w_skip ?_
    | with_reducible refine w_ret ?_
    | with_reducible refine w_exit ?_
    | with_reducible refine w_block ?_
    | refine w_cond_true rfl ?_
    | refine w_cond_false rfl ?_
    | (refine w_cond_dec rfl (fun _ => ?_) (fun _ => ?_) <;> try (exfalso; omega))
    | (refine w_cond_ndec rfl (fun _ => ?_) (fun _ => ?_) <;> try (exfalso; omega))
    | refine w_cond_not rfl (fun _ => ?_) (fun _ => ?_)
    | refine w_cond rfl (fun _ => ?_) (fun _ => ?_)
    | ((with_reducible refine w_region (id := 0) ?_); (first | (refine wl_pure rfl rfl (pvm_assign_b rfl) ?_) | (refine wl_pure rfl rfl pv_assign ?_)); refine wl_nil ?_)
    | ((with_reducible refine w_region (id := 1) ?_); (first | (refine wl_pure rfl rfl (pvm_move_8 rfl) ?_) | (refine wl_pure rfl rfl pv_move ?_)); refine wl_pure rfl rfl (pv8_neq rfl (v8_lit 255 rfl (by omega))) ?_; (first | (refine wl_pure rfl rfl (pvm_assign_b rfl) ?_) | (refine wl_pure rfl rfl pv_assign ?_)); refine wl_nil ?_))
  exact ret_r (v := .bool _) rfl ⟨rfl, rfl⟩
theorem bytes_c (p q : Nat) (s : Fs) (hb : 3584 ≤ s.b.length) (ro : RO) : C Try.prog 12 #[.pointer (some ⟨p, 0, none⟩)] ro [flashG p q s] fun v own => ∃ g, own = [g, flashG p q s] ∧ Sl v8 5 v s.bs g := by
  have hbl := Fs.bs_len hb
  refine c_of_w2 (n := 10) Try.func12 rfl rfl rfl (by rfl) fun E => ?_
  repeat' (first
    | with_reducible refine w_seq ?_
    | with_reducible refine thenP_n ?_
    | with_reducible refine thenP_x ?_
    | with_reducible refine thenP_r ?_
    | with_reducible refine blockP_n ?_
    | with_reducible refine blockP_r ?_
    | with_reducible refine blockP_eq ?_
    | with_reducible refine blockP_ne (by rfl) ?_
    | with_reducible refine w_skip ?_
    | with_reducible refine w_ret ?_
    | with_reducible refine w_exit ?_
    | with_reducible refine w_block ?_
    | refine w_cond_true rfl ?_
    | refine w_cond_false rfl ?_
    | (refine w_cond_dec rfl (fun _ => ?_) (fun _ => ?_) <;> try (exfalso; omega))
    | (refine w_cond_ndec rfl (fun _ => ?_) (fun _ => ?_) <;> try (exfalso; omega))
    | refine w_cond_not rfl (fun _ => ?_) (fun _ => ?_)
    | refine w_cond rfl (fun _ => ?_) (fun _ => ?_)
    | ((with_reducible refine w_region (id := 0) ?_); (first | (refine wl_pure rfl rfl (pvm_assign_s rfl) ?_) | (refine wl_pure rfl rfl pv_assign ?_)); refine wl_nil ?_)
    | ((with_reducible refine w_region (id := 1) ?_); (first | (refine wl_pure rfl rfl (pvm_move_p rfl) ?_) | (refine wl_pure rfl rfl pv_move ?_)); refine wl_pure rfl rfl (pv_ptr_nil Try.underlying25 rfl rfl) ?_; refine wl_nil ?_)
    | ((with_reducible refine w_region (id := 2) ?_); (first | (refine wl_pure rfl rfl (pvm_assign_s rfl) ?_) | (refine wl_pure rfl rfl pv_assign ?_)); refine wl_nil ?_)
    | ((with_reducible refine w_region (id := 3) ?_); (first | (refine wl_pure rfl rfl (pvm_move_p rfl) ?_) | (refine wl_pure rfl rfl pv_move ?_)); refine wl_pure rfl rfl (pv_nilCheck rfl) ?_; refine wl_pure rfl rfl (pv_fieldAddr Fa.fo_80_0 rfl) ?_; (first | (refine wl_do rfl rfl (opw_load Fa.one_22 rfl (Has.own 0 0 rfl rfl) ?_)) | (refine wl_do rfl rfl (opw_load Fa.one_22 rfl (Has.own 1 0 rfl rfl) ?_)) | (refine wl_do rfl rfl (opw_load Fa.one_22 rfl (Has.own 2 0 rfl rfl) ?_)) | (refine wl_do rfl rfl (opw_load Fa.one_22 rfl (Has.own 3 0 rfl rfl) ?_)) | (refine wl_do rfl rfl (opw_load Fa.one_22 rfl (Has.own 0 1 rfl rfl) ?_)) | (refine wl_do rfl rfl (opw_load Fa.one_22 rfl (Has.own 1 1 rfl rfl) ?_)) | (refine wl_do rfl rfl (opw_load Fa.one_22 rfl (Has.own 4 0 rfl rfl) ?_)) | (refine wl_do rfl rfl (opw_load Fa.one_22 rfl (Has.own 2 1 rfl rfl) ?_)) | (refine wl_do rfl rfl (opw_load Fa.one_22 rfl (Has.own 5 0 rfl rfl) ?_))); refine wl_do rfl rfl (opw_call Fa.ca_45 (by rw [hbl]; rfl) [] (clone8_c (some ⟨q, 0, none⟩) 3584 s.bs (by omega) [(q, AtO v8 0 s.bs)] (SlR.of_has (by omega))) (roOk_arr 0 1 rfl (fun k hk => by rw [Nat.zero_add, Fs.bs, List.getElem?_take, if_pos (by omega)])) (fun v own h => ?_)); obtain ⟨g, rfl, hg⟩ := h; (first | (refine wl_pure rfl rfl (pvm_assign_s rfl) ?_) | (refine wl_pure rfl rfl pv_assign ?_)); refine wl_nil ?_))
  exact ret_r rfl ⟨_, rfl, ‹_›⟩
theorem read_c (p q : Nat) (s : Fs) (hb : 3584 ≤ s.b.length) (at_ n : Int) (hn : -9223372036854775808 ≤ n ∧ n ≤ 9223372036854775807) (ro : RO) : C Try.prog 44 #[.pointer (some ⟨p, 0, none⟩), .int .i64 at_, .int .i64 n] ro [flashG p q s] fun v own => ∃ bv g, v = .tuple #[bv, .int .i64 (s.read at_ n).2] ∧ own = [g, flashG p q s] ∧ Sl v8 5 bv (s.read at_ n).1 g := by
  by_cases hr : s.ready at_ n = 0
  · obtain ⟨hd, h0, h1, h2, h3⟩ := Fs.ready_0 hr
    obtain ⟨at', rfl⟩ := Int.eq_ofNat_of_zero_le h2
    obtain ⟨n', rfl⟩ := Int.eq_ofNat_of_zero_le h0
    have hp : s.read (at' : Int) (n' : Int) = ((s.bs.drop at').take n', 0) := if_pos hr
    have hbl := Fs.bs_len hb
    have hlen : ((s.bs.drop at').take n').length = n' := by simp; omega
    rw [hp]
    have hcut : SlR v8 (.slice (cutAddr (some ⟨q, 0, none⟩) at' 1 3584) n' (3584 - at')) ((s.bs.drop at').take n') [(q, AtO v8 0 s.bs)] := by
      have := (SlR.of_has (f := v8) (b := q) (off := 0) (xs := s.bs) (c := 3584) (by omega)).cut (l := at') (m := at' + n') (by omega) (by omega)
      rwa [Nat.add_sub_cancel_left] at this
    refine c_of_w2 (n := 26) Try.func44 rfl rfl rfl (by rfl) fun E => ?_
    repeat' (first
        | with_reducible refine w_seq ?_
        | with_reducible refine thenP_n ?_
        | with_reducible refine thenP_x ?_
        | with_reducible refine thenP_r ?_
        | with_reducible refine blockP_n ?_
        | with_reducible refine blockP_r ?_
        | with_reducible refine blockP_eq ?_
        | with_reducible refine blockP_ne (by rfl) ?_
        | with_reducible refine w_skip ?_
        | with_reducible refine w_ret ?_
        | with_reducible refine w_exit ?_
        | with_reducible refine w_block ?_
        | refine w_cond_true rfl ?_
        | refine w_cond_false rfl ?_
        | (refine w_cond_dec rfl (fun _ => ?_) (fun _ => ?_) <;> try (exfalso; omega))
        | (refine w_cond_ndec rfl (fun _ => ?_) (fun _ => ?_) <;> try (exfalso; omega))
        | refine w_cond_not rfl (fun _ => ?_) (fun _ => ?_)
        | refine w_cond rfl (fun _ => ?_) (fun _ => ?_)
        | ((with_reducible refine w_region (id := 0) ?_); (first | (refine wl_pure rfl rfl (pvm_assign_s rfl) ?_) | (refine wl_pure rfl rfl pv_assign ?_)); (first | (refine wl_pure rfl rfl (pvm_assign_i rfl) ?_) | (refine wl_pure rfl rfl pv_assign ?_)); refine wl_nil ?_)
        | ((with_reducible refine w_region (id := 1) ?_); (first | (refine wl_pure rfl rfl (pvm_move_p rfl) ?_) | (refine wl_pure rfl rfl pv_move ?_)); (first | (refine wl_pure rfl rfl (pvm_move_i rfl) ?_) | (refine wl_pure rfl rfl pv_move ?_)); (first | (refine wl_pure rfl rfl (pvm_move_i rfl) ?_) | (refine wl_pure rfl rfl pv_move ?_)); refine wl_do rfl rfl (opw_call Fa.ca_42 rfl [0] (ready_c p q s _ _ (by omega) ro) RoOk.self (fun v own h => ?_)); obtain ⟨rfl, rfl⟩ := h; rw [hr]; (first | (refine wl_pure rfl rfl (pvm_assign_i rfl) ?_) | (refine wl_pure rfl rfl pv_assign ?_)); refine wl_nil ?_)
        | ((with_reducible refine w_region (id := 2) ?_); (first | (refine wl_pure rfl rfl (pvm_move_i rfl) ?_) | (refine wl_pure rfl rfl pv_move ?_)); refine wl_pure rfl rfl (pv_neq rfl rfl) ?_; refine wl_nil ?_)
        | ((with_reducible refine w_region (id := 3) ?_); (first | (refine wl_pure rfl rfl (pvm_move_i rfl) ?_) | (refine wl_pure rfl rfl pv_move ?_)); (first | (refine wl_pure rfl rfl (pvm_assign_s rfl) ?_) | (refine wl_pure rfl rfl pv_assign ?_)); (first | (refine wl_pure rfl rfl (pvm_assign_i rfl) ?_) | (refine wl_pure rfl rfl pv_assign ?_)); refine wl_nil ?_)
        | ((with_reducible refine w_region (id := 4) ?_); (first | (refine wl_pure rfl rfl (pvm_move_p rfl) ?_) | (refine wl_pure rfl rfl pv_move ?_)); refine wl_pure rfl rfl (pv_nilCheck rfl) ?_; refine wl_pure rfl rfl (pv_fieldAddr Fa.fo_80_0 rfl) ?_; (first | (refine wl_do rfl rfl (opw_load Fa.one_22 rfl (Has.own 0 0 rfl rfl) ?_)) | (refine wl_do rfl rfl (opw_load Fa.one_22 rfl (Has.own 1 0 rfl rfl) ?_)) | (refine wl_do rfl rfl (opw_load Fa.one_22 rfl (Has.own 2 0 rfl rfl) ?_)) | (refine wl_do rfl rfl (opw_load Fa.one_22 rfl (Has.own 3 0 rfl rfl) ?_)) | (refine wl_do rfl rfl (opw_load Fa.one_22 rfl (Has.own 0 1 rfl rfl) ?_)) | (refine wl_do rfl rfl (opw_load Fa.one_22 rfl (Has.own 1 1 rfl rfl) ?_)) | (refine wl_do rfl rfl (opw_load Fa.one_22 rfl (Has.own 4 0 rfl rfl) ?_)) | (refine wl_do rfl rfl (opw_load Fa.one_22 rfl (Has.own 2 1 rfl rfl) ?_)) | (refine wl_do rfl rfl (opw_load Fa.one_22 rfl (Has.own 5 0 rfl rfl) ?_))); (first | (refine wl_pure rfl rfl (pvm_move_i rfl) ?_) | (refine wl_pure rfl rfl pv_move ?_)); (first | (refine wl_pure rfl rfl (pvm_move_i rfl) ?_) | (refine wl_pure rfl rfl pv_move ?_)); (first | (refine wl_pure rfl rfl (pvm_move_i rfl) ?_) | (refine wl_pure rfl rfl pv_move ?_)); (first | (refine wl_pure rfl rfl (pv_iadd rfl rfl (by omega)) ?_) | (refine wl_pure rfl rfl (pv_add rfl rfl) ?_)); refine wl_pure rfl rfl (pv_slice_lh Fa.sl_22 rfl rfl rfl (by omega) (by omega) (by omega)) ?_; refine wl_do rfl rfl (opw_call Fa.ca_45 (by rw [hlen]; exact congrArg (fun k => [Value.slice (cutAddr (some ⟨q, 0, none⟩) at' 1 3584) k (3584 - at')]) (by omega : n' = ((at' : Int) + n').toNat - ((at' : Int)).toNat)) [] (clone8_c (cutAddr (some ⟨q, 0, none⟩) at' 1 3584) (3584 - at') ((s.bs.drop at').take n') (by omega) [(q, AtO v8 0 s.bs)] (by rw [hlen]; exact hcut)) (roOk_arr 0 1 rfl (fun k hk => by rw [Nat.zero_add, Fs.bs, List.getElem?_take, if_pos (by omega)])) (fun v own h => ?_)); obtain ⟨g, rfl, hg⟩ := h; (first | (refine wl_pure rfl rfl (pvm_assign_s rfl) ?_) | (refine wl_pure rfl rfl pv_assign ?_)); (first | (refine wl_pure rfl rfl (pvm_assign_i rfl) ?_) | (refine wl_pure rfl rfl pv_assign ?_)); refine wl_nil ?_))
    exact ret_r rfl ⟨_, _, rfl, rfl, ‹_›⟩
  · have hp : s.read at_ n = ([], s.ready at_ n) := if_neg hr
    rw [hp]
    refine c_of_w2 (n := 26) Try.func44 rfl rfl rfl (by rfl) fun E => ?_
    repeat' (first
        | with_reducible refine w_seq ?_
        | with_reducible refine thenP_n ?_
        | with_reducible refine thenP_x ?_
        | with_reducible refine thenP_r ?_
        | with_reducible refine blockP_n ?_
        | with_reducible refine blockP_r ?_
        | with_reducible refine blockP_eq ?_
        | with_reducible refine blockP_ne (by rfl) ?_
        | with_reducible refine w_skip ?_
        | with_reducible refine w_ret ?_
        | with_reducible refine w_exit ?_
        | with_reducible refine w_block ?_
        | refine w_cond_true rfl ?_
        | refine w_cond_false rfl ?_
        | (refine w_cond_dec rfl (fun _ => ?_) (fun _ => ?_) <;> try (exfalso; omega))
        | (refine w_cond_ndec rfl (fun _ => ?_) (fun _ => ?_) <;> try (exfalso; omega))
        | refine w_cond_not rfl (fun _ => ?_) (fun _ => ?_)
        | refine w_cond rfl (fun _ => ?_) (fun _ => ?_)
        | ((with_reducible refine w_region (id := 0) ?_); (first | (refine wl_pure rfl rfl (pvm_assign_s rfl) ?_) | (refine wl_pure rfl rfl pv_assign ?_)); (first | (refine wl_pure rfl rfl (pvm_assign_i rfl) ?_) | (refine wl_pure rfl rfl pv_assign ?_)); refine wl_nil ?_)
        | ((with_reducible refine w_region (id := 1) ?_); (first | (refine wl_pure rfl rfl (pvm_move_p rfl) ?_) | (refine wl_pure rfl rfl pv_move ?_)); (first | (refine wl_pure rfl rfl (pvm_move_i rfl) ?_) | (refine wl_pure rfl rfl pv_move ?_)); (first | (refine wl_pure rfl rfl (pvm_move_i rfl) ?_) | (refine wl_pure rfl rfl pv_move ?_)); refine wl_do rfl rfl (opw_call Fa.ca_42 rfl [0] (ready_c p q s _ _ (by omega) ro) RoOk.self (fun v own h => ?_)); obtain ⟨rfl, rfl⟩ := h; (first | (refine wl_pure rfl rfl (pvm_assign_i rfl) ?_) | (refine wl_pure rfl rfl pv_assign ?_)); refine wl_nil ?_)
        | ((with_reducible refine w_region (id := 2) ?_); (first | (refine wl_pure rfl rfl (pvm_move_i rfl) ?_) | (refine wl_pure rfl rfl pv_move ?_)); refine wl_pure rfl rfl (pv_neq rfl rfl) ?_; refine wl_nil ?_)
        | ((with_reducible refine w_region (id := 3) ?_); (first | (refine wl_pure rfl rfl (pvm_move_i rfl) ?_) | (refine wl_pure rfl rfl pv_move ?_)); (first | (refine wl_pure rfl rfl (pvm_assign_s rfl) ?_) | (refine wl_pure rfl rfl pv_assign ?_)); (first | (refine wl_pure rfl rfl (pvm_assign_i rfl) ?_) | (refine wl_pure rfl rfl pv_assign ?_)); refine wl_nil ?_)
        | ((with_reducible refine w_region (id := 4) ?_); (first | (refine wl_pure rfl rfl (pvm_move_p rfl) ?_) | (refine wl_pure rfl rfl pv_move ?_)); refine wl_pure rfl rfl (pv_nilCheck rfl) ?_; refine wl_pure rfl rfl (pv_fieldAddr Fa.fo_80_0 rfl) ?_; (first | (refine wl_do rfl rfl (opw_load Fa.one_22 rfl (Has.own 0 0 rfl rfl) ?_)) | (refine wl_do rfl rfl (opw_load Fa.one_22 rfl (Has.own 1 0 rfl rfl) ?_)) | (refine wl_do rfl rfl (opw_load Fa.one_22 rfl (Has.own 2 0 rfl rfl) ?_)) | (refine wl_do rfl rfl (opw_load Fa.one_22 rfl (Has.own 3 0 rfl rfl) ?_)) | (refine wl_do rfl rfl (opw_load Fa.one_22 rfl (Has.own 0 1 rfl rfl) ?_)) | (refine wl_do rfl rfl (opw_load Fa.one_22 rfl (Has.own 1 1 rfl rfl) ?_)) | (refine wl_do rfl rfl (opw_load Fa.one_22 rfl (Has.own 4 0 rfl rfl) ?_)) | (refine wl_do rfl rfl (opw_load Fa.one_22 rfl (Has.own 2 1 rfl rfl) ?_)) | (refine wl_do rfl rfl (opw_load Fa.one_22 rfl (Has.own 5 0 rfl rfl) ?_))); (first | (refine wl_pure rfl rfl (pvm_move_i rfl) ?_) | (refine wl_pure rfl rfl pv_move ?_)); (first | (refine wl_pure rfl rfl (pvm_move_i rfl) ?_) | (refine wl_pure rfl rfl pv_move ?_)); (first | (refine wl_pure rfl rfl (pvm_move_i rfl) ?_) | (refine wl_pure rfl rfl pv_move ?_)); (first | (refine wl_pure rfl rfl (pv_iadd rfl rfl (by omega)) ?_) | (refine wl_pure rfl rfl (pv_add rfl rfl) ?_)); refine wl_pure rfl rfl (pv_slice_lh Fa.sl_22 rfl rfl rfl (by omega) (by omega) (by omega)) ?_; fail "no way: call"; (first | (refine wl_pure rfl rfl (pvm_assign_s rfl) ?_) | (refine wl_pure rfl rfl pv_assign ?_)); (first | (refine wl_pure rfl rfl (pvm_assign_i rfl) ?_) | (refine wl_pure rfl rfl pv_assign ?_)); refine wl_nil ?_))
    all_goals first | exact ret_s [[], flashG p q s] rfl (Sub.flat rfl) ⟨_, [], rfl, rfl, Sl.nil⟩ | skip
end Go.Proofs.Ytnohdfhhdppflaa
