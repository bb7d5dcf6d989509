/- Slots, walked (without the hash). -/
import Derived.Test.YtnohdfhhdppflaaFlashW4
import Derived.Test.YtnohdfhhdppflaaSlotP
namespace Go.Proofs.Ytnohdfhhdppflaa
open Go Go.Vc Go.Fl
set_option linter.unusedVariables false
set_option linter.unusedSimpArgs false
set_option maxRecDepth 100000

theorem may_c (a : Option Addr) (n c : Nat) (hn : n ≤ 1000000) (ro : RO) : C Try.prog 37 #[.slice a n c] ro [] fun v own => v = .bool (may n) ∧ own = [] := by
  refine c_of_w2 (n := 11) Try.func37 rfl rfl rfl (by rfl) fun E => ?_
  repeat' (first
    | with_reducible refine w_seq ?_
    | with_reducible refine thenP_n ?_
    | with_reducible refine thenP_x ?_
    | with_reducible refine thenP_r ?_
    | with_reducible refine blockP_n ?_
    | with_reducible refine blockP_r ?_
    | with_reducible refine blockP_eq ?_
    | with_reducible refine blockP_ne (by rfl) ?_
    | with_reducible refine w_skip ?_
    | with_reducible refine w_ret ?_
    | with_reducible refine w_exit ?_
    | with_reducible refine w_block ?_
    | refine w_cond_true rfl ?_
    | refine w_cond_false rfl ?_
    | (refine w_cond_dec rfl (fun _ => ?_) (fun _ => ?_) <;> try (exfalso; omega))
    | (refine w_cond_ndec rfl (fun _ => ?_) (fun _ => ?_) <;> try (exfalso; omega))
    | refine w_cond_not rfl (fun _ => ?_) (fun _ => ?_)
    | refine w_cond rfl (fun _ => ?_) (fun _ => ?_)
    | ((with_reducible refine w_region (id := 0) ?_); (first | (refine wl_pure rfl rfl (pvm_assign_b rfl) ?_) | (refine wl_pure rfl rfl pv_assign ?_)); refine wl_nil ?_)
    | ((with_reducible refine w_region (id := 1) ?_); all_goals (first | (refine wl_pure rfl rfl (pvm_move_s rfl) ?_) | (refine wl_pure rfl rfl pv_move ?_)); all_goals (refine wl_pure rfl rfl (pv_len_slice Fa.sl_22 rfl) ?_); all_goals (refine wl_pure rfl rfl (pv_geq rfl rfl) ?_); all_goals (first | (refine wl_pure rfl rfl (pvm_move_b rfl) ?_) | (refine wl_pure rfl rfl pv_move ?_)); all_goals (first | (refine wl_skipd rfl rfl ?_) | (refine wl_pure rfl rfl (pvm_move_s rfl) ?_) | (refine wl_pure rfl rfl pv_move ?_) | ((refine wl_split_dec rfl rfl rfl (fun _ => ?_) (fun _ => ?_)) <;> (first | (refine wl_skipd rfl rfl ?_) | (refine wl_pure rfl rfl (pvm_move_s rfl) ?_) | (refine wl_pure rfl rfl pv_move ?_))) | ((refine wl_split rfl rfl rfl (fun _ => ?_) (fun _ => ?_)) <;> (first | (refine wl_skipd rfl rfl ?_) | (refine wl_pure rfl rfl (pvm_move_s rfl) ?_) | (refine wl_pure rfl rfl pv_move ?_)))); all_goals (first | (refine wl_skipd rfl rfl ?_) | (refine wl_pure rfl rfl (pv_len_slice Fa.sl_22 rfl) ?_) | ((refine wl_split_dec rfl rfl rfl (fun _ => ?_) (fun _ => ?_)) <;> (first | (refine wl_skipd rfl rfl ?_) | (refine wl_pure rfl rfl (pv_len_slice Fa.sl_22 rfl) ?_))) | ((refine wl_split rfl rfl rfl (fun _ => ?_) (fun _ => ?_)) <;> (first | (refine wl_skipd rfl rfl ?_) | (refine wl_pure rfl rfl (pv_len_slice Fa.sl_22 rfl) ?_)))); all_goals (first | (refine wl_skipd rfl rfl ?_) | (refine wl_pure rfl rfl (pv_leq rfl rfl) ?_) | ((refine wl_split_dec rfl rfl rfl (fun _ => ?_) (fun _ => ?_)) <;> (first | (refine wl_skipd rfl rfl ?_) | (refine wl_pure rfl rfl (pv_leq rfl rfl) ?_))) | ((refine wl_split rfl rfl rfl (fun _ => ?_) (fun _ => ?_)) <;> (first | (refine wl_skipd rfl rfl ?_) | (refine wl_pure rfl rfl (pv_leq rfl rfl) ?_)))); all_goals (first | (refine wl_pure rfl rfl (pvk_t_b rfl rfl) ?_) | (refine wl_pure rfl rfl (pvk_f_b rfl rfl) ?_) | (refine wl_pure rfl rfl (pv_pick_t rfl) ?_) | (refine wl_pure rfl rfl (pv_pick_f rfl) ?_) | (refine wl_pure rfl rfl (pvk_and rfl rfl) ?_) | (refine wl_pure rfl rfl (pvk_or rfl rfl) ?_) | (refine wl_pure rfl rfl (pv_pick rfl) ?_)); all_goals (first | (refine wl_pure rfl rfl (pvm_assign_b rfl) ?_) | (refine wl_pure rfl rfl pv_assign ?_)); all_goals (refine wl_nil ?_)))
  all_goals refine ret_r (v := .bool _) rfl ⟨?_, rfl⟩
  · have h : 1 ≤ (n : Int) := ‹_›
    unfold may; congr 1; rw [decide_eq_decide]; omega
  · have h : ¬ 1 ≤ (n : Int) := ‹_›
    unfold may; rw [decide_eq_false (by omega)]
theorem first_c (slot : Int) (h : -1000 ≤ slot ∧ slot ≤ 1000) (ro : RO) : C Try.prog 40 #[.int .i64 slot] ro [] fun v own => v = .int .i64 (2 + slot * 2) ∧ own = [] := by
  refine c_of_w2 (n := 6) Try.func40 rfl rfl rfl (by rfl) fun E => ?_
  repeat' (first
    | with_reducible refine w_seq ?_
    | with_reducible refine thenP_n ?_
    | with_reducible refine thenP_x ?_
    | with_reducible refine thenP_r ?_
    | with_reducible refine blockP_n ?_
    | with_reducible refine blockP_r ?_
    | with_reducible refine blockP_eq ?_
    | with_reducible refine blockP_ne (by rfl) ?_
    | with_reducible refine w_skip ?_
    | with_reducible refine w_ret ?_
    | with_reducible refine w_exit ?_
    | with_reducible refine w_block ?_
    | refine w_cond_true rfl ?_
    | refine w_cond_false rfl ?_
    | (refine w_cond_dec rfl (fun _ => ?_) (fun _ => ?_) <;> try (exfalso; omega))
    | (refine w_cond_ndec rfl (fun _ => ?_) (fun _ => ?_) <;> try (exfalso; omega))
    | refine w_cond_not rfl (fun _ => ?_) (fun _ => ?_)
    | refine w_cond rfl (fun _ => ?_) (fun _ => ?_)
    | ((with_reducible refine w_region (id := 0) ?_); (first | (refine wl_pure rfl rfl (pvm_assign_i rfl) ?_) | (refine wl_pure rfl rfl pv_assign ?_)); refine wl_nil ?_)
    | ((with_reducible refine w_region (id := 1) ?_); (first | (refine wl_pure rfl rfl (pvm_move_i rfl) ?_) | (refine wl_pure rfl rfl pv_move ?_)); (first | (refine wl_pure rfl rfl (pv_imul rfl rfl (by omega)) ?_) | (refine wl_pure rfl rfl (pv_mul rfl rfl) ?_)); (first | (refine wl_pure rfl rfl (pv_iadd rfl rfl (by omega)) ?_) | (refine wl_pure rfl rfl (pv_add rfl rfl) ?_)); (first | (refine wl_pure rfl rfl (pvm_assign_i rfl) ?_) | (refine wl_pure rfl rfl pv_assign ?_)); refine wl_nil ?_))
  exact ret_r (v := .int .i64 _) rfl ⟨rfl, rfl⟩
theorem sRead_c (p q : Nat) (s : Fs) (hb : 3584 ≤ s.b.length) (slot n : Int) (ro : RO) : C Try.prog 11 #[.pointer (some ⟨p, 0, none⟩), .int .i64 slot, .int .i64 n] ro [flashG p q s] fun v own => ∃ bv g, v = .tuple #[bv, .int .i64 (s.sRead slot n).2] ∧ own = [g, flashG p q s] ∧ Sl v8 5 bv (s.sRead slot n).1 g := by
  by_cases hr : slotNo slot n
  · rw [show s.sRead slot n = ([], 1) from if_pos hr]
    unfold slotNo at hr
    refine c_of_w2 (n := 30) Try.func11 rfl rfl rfl (by rfl) fun E => ?_
    repeat' (first
        | with_reducible refine w_seq ?_
        | with_reducible refine thenP_n ?_
        | with_reducible refine thenP_x ?_
        | with_reducible refine thenP_r ?_
        | with_reducible refine blockP_n ?_
        | with_reducible refine blockP_r ?_
        | with_reducible refine blockP_eq ?_
        | with_reducible refine blockP_ne (by rfl) ?_
        | with_reducible refine w_skip ?_
        | with_reducible refine w_ret ?_
        | with_reducible refine w_exit ?_
        | with_reducible refine w_block ?_
        | refine w_cond_true rfl ?_
        | refine w_cond_false rfl ?_
        | (refine w_cond_dec rfl (fun _ => ?_) (fun _ => ?_) <;> try (exfalso; omega))
        | (refine w_cond_ndec rfl (fun _ => ?_) (fun _ => ?_) <;> try (exfalso; omega))
        | refine w_cond_not rfl (fun _ => ?_) (fun _ => ?_)
        | refine w_cond rfl (fun _ => ?_) (fun _ => ?_)
        | ((with_reducible refine w_region (id := 0) ?_); (first | (refine wl_pure rfl rfl (pvm_assign_s rfl) ?_) | (refine wl_pure rfl rfl pv_assign ?_)); (first | (refine wl_pure rfl rfl (pvm_assign_i rfl) ?_) | (refine wl_pure rfl rfl pv_assign ?_)); refine wl_nil ?_)
        | ((with_reducible refine w_region (id := 1) ?_); all_goals (first | (refine wl_pure rfl rfl (pvm_move_i rfl) ?_) | (refine wl_pure rfl rfl pv_move ?_)); all_goals (refine wl_pure rfl rfl (pv_neq rfl rfl) ?_); all_goals (first | (refine wl_pure rfl rfl (pvm_move_b rfl) ?_) | (refine wl_pure rfl rfl pv_move ?_)); all_goals (first | (refine wl_skipd rfl rfl ?_) | (refine wl_pure rfl rfl (pvm_move_i rfl) ?_) | (refine wl_pure rfl rfl pv_move ?_) | ((refine wl_split_dec rfl rfl rfl (fun _ => ?_) (fun _ => ?_)) <;> (first | (refine wl_skipd rfl rfl ?_) | (refine wl_pure rfl rfl (pvm_move_i rfl) ?_) | (refine wl_pure rfl rfl pv_move ?_))) | ((refine wl_split rfl rfl rfl (fun _ => ?_) (fun _ => ?_)) <;> (first | (refine wl_skipd rfl rfl ?_) | (refine wl_pure rfl rfl (pvm_move_i rfl) ?_) | (refine wl_pure rfl rfl pv_move ?_)))); all_goals (first | (refine wl_skipd rfl rfl ?_) | (refine wl_pure rfl rfl (pv_neq rfl rfl) ?_) | ((refine wl_split_dec rfl rfl rfl (fun _ => ?_) (fun _ => ?_)) <;> (first | (refine wl_skipd rfl rfl ?_) | (refine wl_pure rfl rfl (pv_neq rfl rfl) ?_))) | ((refine wl_split rfl rfl rfl (fun _ => ?_) (fun _ => ?_)) <;> (first | (refine wl_skipd rfl rfl ?_) | (refine wl_pure rfl rfl (pv_neq rfl rfl) ?_)))); all_goals (first | (refine wl_pure rfl rfl (pvk_t_b rfl rfl) ?_) | (refine wl_pure rfl rfl (pvk_f_b rfl rfl) ?_) | (refine wl_pure rfl rfl (pv_pick_t rfl) ?_) | (refine wl_pure rfl rfl (pv_pick_f rfl) ?_) | (refine wl_pure rfl rfl (pvk_and rfl rfl) ?_) | (refine wl_pure rfl rfl (pvk_or rfl rfl) ?_) | (refine wl_pure rfl rfl (pv_pick rfl) ?_)); all_goals (first | (refine wl_pure rfl rfl (pvm_move_b rfl) ?_) | (refine wl_pure rfl rfl pv_move ?_)); all_goals (first | (refine wl_skipd rfl rfl ?_) | (refine wl_pure rfl rfl (pvm_move_i rfl) ?_) | (refine wl_pure rfl rfl pv_move ?_) | ((refine wl_split_dec rfl rfl rfl (fun _ => ?_) (fun _ => ?_)) <;> (first | (refine wl_skipd rfl rfl ?_) | (refine wl_pure rfl rfl (pvm_move_i rfl) ?_) | (refine wl_pure rfl rfl pv_move ?_))) | ((refine wl_split rfl rfl rfl (fun _ => ?_) (fun _ => ?_)) <;> (first | (refine wl_skipd rfl rfl ?_) | (refine wl_pure rfl rfl (pvm_move_i rfl) ?_) | (refine wl_pure rfl rfl pv_move ?_)))); all_goals (first | (refine wl_skipd rfl rfl ?_) | (refine wl_pure rfl rfl (pv_lss rfl rfl) ?_) | ((refine wl_split_dec rfl rfl rfl (fun _ => ?_) (fun _ => ?_)) <;> (first | (refine wl_skipd rfl rfl ?_) | (refine wl_pure rfl rfl (pv_lss rfl rfl) ?_))) | ((refine wl_split rfl rfl rfl (fun _ => ?_) (fun _ => ?_)) <;> (first | (refine wl_skipd rfl rfl ?_) | (refine wl_pure rfl rfl (pv_lss rfl rfl) ?_)))); all_goals (first | (refine wl_pure rfl rfl (pvk_t_b rfl rfl) ?_) | (refine wl_pure rfl rfl (pvk_f_b rfl rfl) ?_) | (refine wl_pure rfl rfl (pv_pick_t rfl) ?_) | (refine wl_pure rfl rfl (pv_pick_f rfl) ?_) | (refine wl_pure rfl rfl (pvk_and rfl rfl) ?_) | (refine wl_pure rfl rfl (pvk_or rfl rfl) ?_) | (refine wl_pure rfl rfl (pv_pick rfl) ?_)); all_goals (first | (refine wl_pure rfl rfl (pvm_move_b rfl) ?_) | (refine wl_pure rfl rfl pv_move ?_)); all_goals (first | (refine wl_skipd rfl rfl ?_) | (refine wl_pure rfl rfl (pvm_move_i rfl) ?_) | (refine wl_pure rfl rfl pv_move ?_) | ((refine wl_split_dec rfl rfl rfl (fun _ => ?_) (fun _ => ?_)) <;> (first | (refine wl_skipd rfl rfl ?_) | (refine wl_pure rfl rfl (pvm_move_i rfl) ?_) | (refine wl_pure rfl rfl pv_move ?_))) | ((refine wl_split rfl rfl rfl (fun _ => ?_) (fun _ => ?_)) <;> (first | (refine wl_skipd rfl rfl ?_) | (refine wl_pure rfl rfl (pvm_move_i rfl) ?_) | (refine wl_pure rfl rfl pv_move ?_)))); all_goals (first | (refine wl_skipd rfl rfl ?_) | (refine wl_pure rfl rfl (pv_gtr rfl rfl) ?_) | ((refine wl_split_dec rfl rfl rfl (fun _ => ?_) (fun _ => ?_)) <;> (first | (refine wl_skipd rfl rfl ?_) | (refine wl_pure rfl rfl (pv_gtr rfl rfl) ?_))) | ((refine wl_split rfl rfl rfl (fun _ => ?_) (fun _ => ?_)) <;> (first | (refine wl_skipd rfl rfl ?_) | (refine wl_pure rfl rfl (pv_gtr rfl rfl) ?_)))); all_goals (first | (refine wl_pure rfl rfl (pvk_t_b rfl rfl) ?_) | (refine wl_pure rfl rfl (pvk_f_b rfl rfl) ?_) | (refine wl_pure rfl rfl (pv_pick_t rfl) ?_) | (refine wl_pure rfl rfl (pv_pick_f rfl) ?_) | (refine wl_pure rfl rfl (pvk_and rfl rfl) ?_) | (refine wl_pure rfl rfl (pvk_or rfl rfl) ?_) | (refine wl_pure rfl rfl (pv_pick rfl) ?_)); all_goals (refine wl_nil ?_))
        | ((with_reducible refine w_region (id := 2) ?_); (first | (refine wl_pure rfl rfl (pvm_assign_s rfl) ?_) | (refine wl_pure rfl rfl pv_assign ?_)); (first | (refine wl_pure rfl rfl (pvm_assign_i rfl) ?_) | (refine wl_pure rfl rfl pv_assign ?_)); refine wl_nil ?_)
        | ((with_reducible refine w_region (id := 3) ?_); (first | (refine wl_pure rfl rfl (pvm_move_p rfl) ?_) | (refine wl_pure rfl rfl pv_move ?_)); (first | (refine wl_pure rfl rfl (pvm_move_i rfl) ?_) | (refine wl_pure rfl rfl pv_move ?_)); fail "no way: call"; (first | (refine wl_pure rfl rfl (pv_imul rfl rfl (by omega)) ?_) | (refine wl_pure rfl rfl (pv_mul rfl rfl) ?_)); (first | (refine wl_pure rfl rfl (pvm_move_i rfl) ?_) | (refine wl_pure rfl rfl pv_move ?_)); fail "no way: call"; refine wl_pure rfl rfl (pv_extract rfl rfl) ?_; refine wl_pure rfl rfl (pv_extract rfl rfl) ?_; (first | (refine wl_pure rfl rfl (pvm_assign_s rfl) ?_) | (refine wl_pure rfl rfl pv_assign ?_)); (first | (refine wl_pure rfl rfl (pvm_assign_i rfl) ?_) | (refine wl_pure rfl rfl pv_assign ?_)); refine wl_nil ?_))
    all_goals first | (exfalso; omega) | exact ret_s [[], flashG p q s] rfl (Sub.flat rfl) ⟨_, [], rfl, rfl, Sl.nil⟩
  · rw [show s.sRead slot n = s.read ((2 + slot * 2) * 256) n from if_neg hr]
    unfold slotNo at hr
    refine c_of_w2 (n := 30) Try.func11 rfl rfl rfl (by rfl) fun E => ?_
    repeat' (first
        | with_reducible refine w_seq ?_
        | with_reducible refine thenP_n ?_
        | with_reducible refine thenP_x ?_
        | with_reducible refine thenP_r ?_
        | with_reducible refine blockP_n ?_
        | with_reducible refine blockP_r ?_
        | with_reducible refine blockP_eq ?_
        | with_reducible refine blockP_ne (by rfl) ?_
        | with_reducible refine w_skip ?_
        | with_reducible refine w_ret ?_
        | with_reducible refine w_exit ?_
        | with_reducible refine w_block ?_
        | refine w_cond_true rfl ?_
        | refine w_cond_false rfl ?_
        | (refine w_cond_dec rfl (fun _ => ?_) (fun _ => ?_) <;> try (exfalso; omega))
        | (refine w_cond_ndec rfl (fun _ => ?_) (fun _ => ?_) <;> try (exfalso; omega))
        | refine w_cond_not rfl (fun _ => ?_) (fun _ => ?_)
        | refine w_cond rfl (fun _ => ?_) (fun _ => ?_)
        | ((with_reducible refine w_region (id := 0) ?_); (first | (refine wl_pure rfl rfl (pvm_assign_s rfl) ?_) | (refine wl_pure rfl rfl pv_assign ?_)); (first | (refine wl_pure rfl rfl (pvm_assign_i rfl) ?_) | (refine wl_pure rfl rfl pv_assign ?_)); refine wl_nil ?_)
        | ((with_reducible refine w_region (id := 1) ?_); all_goals (first | (refine wl_pure rfl rfl (pvm_move_i rfl) ?_) | (refine wl_pure rfl rfl pv_move ?_)); all_goals (refine wl_pure rfl rfl (pv_neq rfl rfl) ?_); all_goals (first | (refine wl_pure rfl rfl (pvm_move_b rfl) ?_) | (refine wl_pure rfl rfl pv_move ?_)); all_goals (first | (refine wl_skipd rfl rfl ?_) | (refine wl_pure rfl rfl (pvm_move_i rfl) ?_) | (refine wl_pure rfl rfl pv_move ?_) | ((refine wl_split_dec rfl rfl rfl (fun _ => ?_) (fun _ => ?_)) <;> (first | (refine wl_skipd rfl rfl ?_) | (refine wl_pure rfl rfl (pvm_move_i rfl) ?_) | (refine wl_pure rfl rfl pv_move ?_))) | ((refine wl_split rfl rfl rfl (fun _ => ?_) (fun _ => ?_)) <;> (first | (refine wl_skipd rfl rfl ?_) | (refine wl_pure rfl rfl (pvm_move_i rfl) ?_) | (refine wl_pure rfl rfl pv_move ?_)))); all_goals (first | (refine wl_skipd rfl rfl ?_) | (refine wl_pure rfl rfl (pv_neq rfl rfl) ?_) | ((refine wl_split_dec rfl rfl rfl (fun _ => ?_) (fun _ => ?_)) <;> (first | (refine wl_skipd rfl rfl ?_) | (refine wl_pure rfl rfl (pv_neq rfl rfl) ?_))) | ((refine wl_split rfl rfl rfl (fun _ => ?_) (fun _ => ?_)) <;> (first | (refine wl_skipd rfl rfl ?_) | (refine wl_pure rfl rfl (pv_neq rfl rfl) ?_)))); all_goals (first | (refine wl_pure rfl rfl (pvk_t_b rfl rfl) ?_) | (refine wl_pure rfl rfl (pvk_f_b rfl rfl) ?_) | (refine wl_pure rfl rfl (pv_pick_t rfl) ?_) | (refine wl_pure rfl rfl (pv_pick_f rfl) ?_) | (refine wl_pure rfl rfl (pvk_and rfl rfl) ?_) | (refine wl_pure rfl rfl (pvk_or rfl rfl) ?_) | (refine wl_pure rfl rfl (pv_pick rfl) ?_)); all_goals (first | (refine wl_pure rfl rfl (pvm_move_b rfl) ?_) | (refine wl_pure rfl rfl pv_move ?_)); all_goals (first | (refine wl_skipd rfl rfl ?_) | (refine wl_pure rfl rfl (pvm_move_i rfl) ?_) | (refine wl_pure rfl rfl pv_move ?_) | ((refine wl_split_dec rfl rfl rfl (fun _ => ?_) (fun _ => ?_)) <;> (first | (refine wl_skipd rfl rfl ?_) | (refine wl_pure rfl rfl (pvm_move_i rfl) ?_) | (refine wl_pure rfl rfl pv_move ?_))) | ((refine wl_split rfl rfl rfl (fun _ => ?_) (fun _ => ?_)) <;> (first | (refine wl_skipd rfl rfl ?_) | (refine wl_pure rfl rfl (pvm_move_i rfl) ?_) | (refine wl_pure rfl rfl pv_move ?_)))); all_goals (first | (refine wl_skipd rfl rfl ?_) | (refine wl_pure rfl rfl (pv_lss rfl rfl) ?_) | ((refine wl_split_dec rfl rfl rfl (fun _ => ?_) (fun _ => ?_)) <;> (first | (refine wl_skipd rfl rfl ?_) | (refine wl_pure rfl rfl (pv_lss rfl rfl) ?_))) | ((refine wl_split rfl rfl rfl (fun _ => ?_) (fun _ => ?_)) <;> (first | (refine wl_skipd rfl rfl ?_) | (refine wl_pure rfl rfl (pv_lss rfl rfl) ?_)))); all_goals (first | (refine wl_pure rfl rfl (pvk_t_b rfl rfl) ?_) | (refine wl_pure rfl rfl (pvk_f_b rfl rfl) ?_) | (refine wl_pure rfl rfl (pv_pick_t rfl) ?_) | (refine wl_pure rfl rfl (pv_pick_f rfl) ?_) | (refine wl_pure rfl rfl (pvk_and rfl rfl) ?_) | (refine wl_pure rfl rfl (pvk_or rfl rfl) ?_) | (refine wl_pure rfl rfl (pv_pick rfl) ?_)); all_goals (first | (refine wl_pure rfl rfl (pvm_move_b rfl) ?_) | (refine wl_pure rfl rfl pv_move ?_)); all_goals (first | (refine wl_skipd rfl rfl ?_) | (refine wl_pure rfl rfl (pvm_move_i rfl) ?_) | (refine wl_pure rfl rfl pv_move ?_) | ((refine wl_split_dec rfl rfl rfl (fun _ => ?_) (fun _ => ?_)) <;> (first | (refine wl_skipd rfl rfl ?_) | (refine wl_pure rfl rfl (pvm_move_i rfl) ?_) | (refine wl_pure rfl rfl pv_move ?_))) | ((refine wl_split rfl rfl rfl (fun _ => ?_) (fun _ => ?_)) <;> (first | (refine wl_skipd rfl rfl ?_) | (refine wl_pure rfl rfl (pvm_move_i rfl) ?_) | (refine wl_pure rfl rfl pv_move ?_)))); all_goals (first | (refine wl_skipd rfl rfl ?_) | (refine wl_pure rfl rfl (pv_gtr rfl rfl) ?_) | ((refine wl_split_dec rfl rfl rfl (fun _ => ?_) (fun _ => ?_)) <;> (first | (refine wl_skipd rfl rfl ?_) | (refine wl_pure rfl rfl (pv_gtr rfl rfl) ?_))) | ((refine wl_split rfl rfl rfl (fun _ => ?_) (fun _ => ?_)) <;> (first | (refine wl_skipd rfl rfl ?_) | (refine wl_pure rfl rfl (pv_gtr rfl rfl) ?_)))); all_goals (first | (refine wl_pure rfl rfl (pvk_t_b rfl rfl) ?_) | (refine wl_pure rfl rfl (pvk_f_b rfl rfl) ?_) | (refine wl_pure rfl rfl (pv_pick_t rfl) ?_) | (refine wl_pure rfl rfl (pv_pick_f rfl) ?_) | (refine wl_pure rfl rfl (pvk_and rfl rfl) ?_) | (refine wl_pure rfl rfl (pvk_or rfl rfl) ?_) | (refine wl_pure rfl rfl (pv_pick rfl) ?_)); all_goals (refine wl_nil ?_))
        | ((with_reducible refine w_region (id := 2) ?_); (first | (refine wl_pure rfl rfl (pvm_assign_s rfl) ?_) | (refine wl_pure rfl rfl pv_assign ?_)); (first | (refine wl_pure rfl rfl (pvm_assign_i rfl) ?_) | (refine wl_pure rfl rfl pv_assign ?_)); refine wl_nil ?_)
        | ((with_reducible refine w_region (id := 3) ?_); (first | (refine wl_pure rfl rfl (pvm_move_p rfl) ?_) | (refine wl_pure rfl rfl pv_move ?_)); (first | (refine wl_pure rfl rfl (pvm_move_i rfl) ?_) | (refine wl_pure rfl rfl pv_move ?_)); refine wl_do rfl rfl (opw_call Fa.ca_40 rfl [] (first_c slot (by omega) _) RoOk.self (fun v own h => ?_)); obtain ⟨rfl, rfl⟩ := h; (first | (refine wl_pure rfl rfl (pv_imul rfl rfl (by omega)) ?_) | (refine wl_pure rfl rfl (pv_mul rfl rfl) ?_)); (first | (refine wl_pure rfl rfl (pvm_move_i rfl) ?_) | (refine wl_pure rfl rfl pv_move ?_)); refine wl_do rfl rfl (opw_call Fa.ca_44 rfl [0] (read_c p q s hb _ n (by omega) _) RoOk.self (fun v own h => ?_)); obtain ⟨bv, g, rfl, rfl, hg⟩ := h; refine wl_pure rfl rfl (pv_extract rfl rfl) ?_; refine wl_pure rfl rfl (pv_extract rfl rfl) ?_; (first | (refine wl_pure rfl rfl (pvm_assign_s rfl) ?_) | (refine wl_pure rfl rfl pv_assign ?_)); (first | (refine wl_pure rfl rfl (pvm_assign_i rfl) ?_) | (refine wl_pure rfl rfl pv_assign ?_)); refine wl_nil ?_))
    all_goals first | (exfalso; omega) | exact ret_r rfl ⟨_, _, rfl, rfl, ‹_›⟩
theorem clear_c (p q : Nat) (s : Fs) (hb : 3584 ≤ s.b.length) (slot : Int) (hslot : -1000 ≤ slot ∧ slot ≤ 1000) (ro : RO) : C Try.prog 39 #[.pointer (some ⟨p, 0, none⟩), .int .i64 slot] ro [flashG p q s] fun v own => v = .int .i64 (s.clear slot).2 ∧ own = [flashG p q (s.clear slot).1] := by
  have hlen := s.clr_len hb (2 + slot * 2 + 0)
  refine c_of_w2 (n := 26) Try.func39 rfl rfl rfl (by rfl) fun E => ?_
  repeat' (first
    | with_reducible refine w_seq ?_
    | with_reducible refine thenP_n ?_
    | with_reducible refine thenP_x ?_
    | with_reducible refine thenP_r ?_
    | with_reducible refine blockP_n ?_
    | with_reducible refine blockP_r ?_
    | with_reducible refine blockP_eq ?_
    | with_reducible refine blockP_ne (by rfl) ?_
    | with_reducible refine w_skip ?_
    | with_reducible refine w_ret ?_
    | with_reducible refine w_exit ?_
    | with_reducible refine w_block ?_
    | refine w_cond_true rfl ?_
    | refine w_cond_false rfl ?_
    | (refine w_cond_dec rfl (fun _ => ?_) (fun _ => ?_) <;> try (exfalso; omega))
    | (refine w_cond_ndec rfl (fun _ => ?_) (fun _ => ?_) <;> try (exfalso; omega))
    | refine w_cond_not rfl (fun _ => ?_) (fun _ => ?_)
    | refine w_cond rfl (fun _ => ?_) (fun _ => ?_)
    | ((with_reducible refine w_region (id := 0) ?_); (first | (refine wl_pure rfl rfl (pvm_assign_i rfl) ?_) | (refine wl_pure rfl rfl pv_assign ?_)); refine wl_nil ?_)
    | ((with_reducible refine w_region (id := 1) ?_); (first | (refine wl_pure rfl rfl (pvm_move_i rfl) ?_) | (refine wl_pure rfl rfl pv_move ?_)); refine wl_nil ?_)
    | ((with_reducible refine w_region (id := 2) ?_); refine wl_pure rfl rfl (pv_lss rfl rfl) ?_; refine wl_nil ?_)
    | ((with_reducible refine w_region (id := 3) ?_); (first | (refine wl_pure rfl rfl (pvm_move_i rfl) ?_) | (refine wl_pure rfl rfl pv_move ?_)); (first | (refine wl_pure rfl rfl (pvm_assign_i rfl) ?_) | (refine wl_pure rfl rfl pv_assign ?_)); refine wl_nil ?_)
    | ((with_reducible refine w_region (id := 4) ?_); (first | (refine wl_pure rfl rfl (pvm_move_i rfl) ?_) | (refine wl_pure rfl rfl pv_move ?_)); fail "no way: call"; (first | (refine wl_pure rfl rfl (pvm_move_i rfl) ?_) | (refine wl_pure rfl rfl pv_move ?_)); (first | (refine wl_pure rfl rfl (pv_iadd rfl rfl (by omega)) ?_) | (refine wl_pure rfl rfl (pv_add rfl rfl) ?_)); (first | (refine wl_pure rfl rfl (pvm_assign_i rfl) ?_) | (refine wl_pure rfl rfl pv_assign ?_)); refine wl_nil ?_)
    | ((with_reducible refine w_region (id := 5) ?_); (first | (refine wl_pure rfl rfl (pvm_move_p rfl) ?_) | (refine wl_pure rfl rfl pv_move ?_)); (first | (refine wl_pure rfl rfl (pvm_move_i rfl) ?_) | (refine wl_pure rfl rfl pv_move ?_)); (first | (refine wl_pure rfl rfl (pv_imul rfl rfl (by omega)) ?_) | (refine wl_pure rfl rfl (pv_mul rfl rfl) ?_)); fail "no way: call"; refine wl_nil ?_)
    | ((with_reducible refine w_region (id := 6) ?_); (first | (refine wl_pure rfl rfl (pvm_move_p rfl) ?_) | (refine wl_pure rfl rfl pv_move ?_)); (first | (refine wl_pure rfl rfl (pvm_move_i rfl) ?_) | (refine wl_pure rfl rfl pv_move ?_)); fail "no way: call"; (first | (refine wl_pure rfl rfl (pvm_assign_i rfl) ?_) | (refine wl_pure rfl rfl pv_assign ?_)); refine wl_nil ?_)
    | ((with_reducible refine w_region (id := 7) ?_); (first | (refine wl_pure rfl rfl (pvm_move_i rfl) ?_) | (refine wl_pure rfl rfl pv_move ?_)); refine wl_pure rfl rfl (pv_neq rfl rfl) ?_; refine wl_nil ?_)
    | ((with_reducible refine w_region (id := 8) ?_); (first | (refine wl_pure rfl rfl (pvm_move_i rfl) ?_) | (refine wl_pure rfl rfl pv_move ?_)); (first | (refine wl_pure rfl rfl (pvm_assign_i rfl) ?_) | (refine wl_pure rfl rfl pv_assign ?_)); refine wl_nil ?_)
    | ((with_reducible refine w_region (id := 9) ?_); (first | (refine wl_pure rfl rfl (pv_iadd rfl rfl (by omega)) ?_) | (refine wl_pure rfl rfl (pv_add rfl rfl) ?_)); (first | (refine wl_pure rfl rfl (pvm_move_i rfl) ?_) | (refine wl_pure rfl rfl pv_move ?_)); refine wl_nil ?_)
    | ((with_reducible refine w_region (id := 10) ?_); (first | (refine wl_pure rfl rfl (pvm_assign_i rfl) ?_) | (refine wl_pure rfl rfl pv_assign ?_)); refine wl_nil ?_))
  refine w_loop2 (ι := Nat × Fs) (fun x ρ ro' own => x.1 ≤ 2 ∧ Kn [(0, .pointer (some ⟨p, 0, none⟩)), (1, .int .i64 slot), (8, .int .i64 x.1)] ρ ∧ ro' = ro ∧ own = [flashG p q x.2] ∧ 3584 ≤ x.2.b.length ∧ clrInv s slot x.1 x.2) (fun x => 2 - x.1) (0, s) ⟨Nat.zero_le _, ⟨rfl, rfl, rfl, trivial⟩, rfl, rfl, hb, fun _ => rfl, (by intro h; cases h), (by intro h; cases h)⟩ ?_
  rintro ⟨i, st⟩ ρ ro' own ⟨hi, hk, rfl, rfl, hb', hci⟩
  obtain ⟨ρ', rfl⟩ := hk.ex
  dsimp only at *
  by_cases hlt : i < 2
  · repeat' (first
        | with_reducible refine w_seq ?_
        | with_reducible refine thenP_n ?_
        | with_reducible refine thenP_x ?_
        | with_reducible refine thenP_r ?_
        | with_reducible refine blockP_n ?_
        | with_reducible refine blockP_r ?_
        | with_reducible refine blockP_eq ?_
        | with_reducible refine blockP_ne (by rfl) ?_
        | with_reducible refine w_skip ?_
        | with_reducible refine w_ret ?_
        | with_reducible refine w_exit ?_
        | with_reducible refine w_block ?_
        | refine w_cond_true rfl ?_
        | refine w_cond_false rfl ?_
        | (refine w_cond_dec rfl (fun _ => ?_) (fun _ => ?_) <;> try (exfalso; omega))
        | (refine w_cond_ndec rfl (fun _ => ?_) (fun _ => ?_) <;> try (exfalso; omega))
        | refine w_cond_not rfl (fun _ => ?_) (fun _ => ?_)
        | refine w_cond rfl (fun _ => ?_) (fun _ => ?_)
        | ((with_reducible refine w_region (id := 0) ?_); (first | (refine wl_pure rfl rfl (pvm_assign_i rfl) ?_) | (refine wl_pure rfl rfl pv_assign ?_)); refine wl_nil ?_)
        | ((with_reducible refine w_region (id := 1) ?_); (first | (refine wl_pure rfl rfl (pvm_move_i rfl) ?_) | (refine wl_pure rfl rfl pv_move ?_)); refine wl_nil ?_)
        | ((with_reducible refine w_region (id := 2) ?_); refine wl_pure rfl rfl (pv_lss rfl rfl) ?_; refine wl_nil ?_)
        | ((with_reducible refine w_region (id := 3) ?_); (first | (refine wl_pure rfl rfl (pvm_move_i rfl) ?_) | (refine wl_pure rfl rfl pv_move ?_)); (first | (refine wl_pure rfl rfl (pvm_assign_i rfl) ?_) | (refine wl_pure rfl rfl pv_assign ?_)); refine wl_nil ?_)
        | ((with_reducible refine w_region (id := 4) ?_); (first | (refine wl_pure rfl rfl (pvm_move_i rfl) ?_) | (refine wl_pure rfl rfl pv_move ?_)); refine wl_do rfl rfl (opw_call Fa.ca_40 rfl [] (first_c slot hslot _) RoOk.self (fun v own h => ?_)); obtain ⟨rfl, rfl⟩ := h; (first | (refine wl_pure rfl rfl (pvm_move_i rfl) ?_) | (refine wl_pure rfl rfl pv_move ?_)); (first | (refine wl_pure rfl rfl (pv_iadd rfl rfl (by omega)) ?_) | (refine wl_pure rfl rfl (pv_add rfl rfl) ?_)); (first | (refine wl_pure rfl rfl (pvm_assign_i rfl) ?_) | (refine wl_pure rfl rfl pv_assign ?_)); refine wl_nil ?_)
        | ((with_reducible refine w_region (id := 5) ?_); (first | (refine wl_pure rfl rfl (pvm_move_p rfl) ?_) | (refine wl_pure rfl rfl pv_move ?_)); (first | (refine wl_pure rfl rfl (pvm_move_i rfl) ?_) | (refine wl_pure rfl rfl pv_move ?_)); (first | (refine wl_pure rfl rfl (pv_imul rfl rfl (by omega)) ?_) | (refine wl_pure rfl rfl (pv_mul rfl rfl) ?_)); refine wl_do rfl rfl (opw_call Fa.ca_58 rfl [0] (blank_c p q st hb' _ 256 (by omega) _) RoOk.self (fun v own h => ?_)); obtain ⟨rfl, rfl⟩ := h; refine wl_nil ?_)
        | ((with_reducible refine w_region (id := 6) ?_); (first | (refine wl_pure rfl rfl (pvm_move_p rfl) ?_) | (refine wl_pure rfl rfl pv_move ?_)); (first | (refine wl_pure rfl rfl (pvm_move_i rfl) ?_) | (refine wl_pure rfl rfl pv_move ?_)); refine wl_do rfl rfl (opw_call Fa.ca_73 rfl [0] (erase_c p q st hb' _ _) RoOk.self (fun v own h => ?_)); obtain ⟨rfl, rfl⟩ := h; (first | (refine wl_pure rfl rfl (pvm_assign_i rfl) ?_) | (refine wl_pure rfl rfl pv_assign ?_)); refine wl_nil ?_)
        | ((with_reducible refine w_region (id := 7) ?_); (first | (refine wl_pure rfl rfl (pvm_move_i rfl) ?_) | (refine wl_pure rfl rfl pv_move ?_)); refine wl_pure rfl rfl (pv_neq rfl rfl) ?_; refine wl_nil ?_)
        | ((with_reducible refine w_region (id := 8) ?_); (first | (refine wl_pure rfl rfl (pvm_move_i rfl) ?_) | (refine wl_pure rfl rfl pv_move ?_)); (first | (refine wl_pure rfl rfl (pvm_assign_i rfl) ?_) | (refine wl_pure rfl rfl pv_assign ?_)); refine wl_nil ?_)
        | ((with_reducible refine w_region (id := 9) ?_); (first | (refine wl_pure rfl rfl (pv_iadd rfl rfl (by omega)) ?_) | (refine wl_pure rfl rfl (pv_add rfl rfl) ?_)); (first | (refine wl_pure rfl rfl (pvm_move_i rfl) ?_) | (refine wl_pure rfl rfl pv_move ?_)); refine wl_nil ?_)
        | ((with_reducible refine w_region (id := 10) ?_); (first | (refine wl_pure rfl rfl (pvm_assign_i rfl) ?_) | (refine wl_pure rfl rfl pv_assign ?_)); refine wl_nil ?_))
    · have hbl : st.blank ((2 + slot * 2 + (i : Int)) * 256) 256 = true := ‹_›
      have e : st.clr (2 + slot * 2 + (i : Int)) = (st, 0) := if_pos hbl
      refine ⟨(i + 1, st), _, Sub.refl, ⟨hlt, ⟨rfl, rfl, rfl, trivial⟩, rfl, rfl, hb', ?_⟩, by dsimp only; omega⟩
      have := clrInv_succ hci hlt (by rw [e]); rwa [e] at this
    · have hbl : st.blank ((2 + slot * 2 + (i : Int)) * 256) 256 = false := ‹_›
      have e : st.clr (2 + slot * 2 + (i : Int)) = st.erase (2 + slot * 2 + (i : Int)) := if_neg (by simp [hbl])
      have hne : (st.erase (2 + slot * 2 + (i : Int))).2 ≠ 0 := ‹_›
      have := clrInv_stop hci hlt (by rw [e]; exact hne)
      rw [this, e]
      exact ret_s (v := .int .i64 _) [flashG p q (st.erase (2 + slot * 2 + (i : Int))).1] rfl (Sub.pk' [0] rfl) ⟨rfl, rfl⟩
    · have hbl : st.blank ((2 + slot * 2 + (i : Int)) * 256) 256 = false := ‹_›
      have e : st.clr (2 + slot * 2 + (i : Int)) = st.erase (2 + slot * 2 + (i : Int)) := if_neg (by simp [hbl])
      have hne : ¬ (st.erase (2 + slot * 2 + (i : Int))).2 ≠ 0 := ‹_›
      refine ⟨(i + 1, (st.erase (2 + slot * 2 + (i : Int))).1), _, Sub.refl, ⟨hlt, ⟨rfl, rfl, rfl, trivial⟩, rfl, rfl, by dsimp only; rw [Fs.erase_len _ hb']; exact hb', ?_⟩, by dsimp only; omega⟩
      have := clrInv_succ hci hlt (by rw [e]; simpa using hne); rwa [e] at this
  · repeat' (first
        | with_reducible refine w_seq ?_
        | with_reducible refine thenP_n ?_
        | with_reducible refine thenP_x ?_
        | with_reducible refine thenP_r ?_
        | with_reducible refine blockP_n ?_
        | with_reducible refine blockP_r ?_
        | with_reducible refine blockP_eq ?_
        | with_reducible refine blockP_ne (by rfl) ?_
        | with_reducible refine w_skip ?_
        | with_reducible refine w_ret ?_
        | with_reducible refine w_exit ?_
        | with_reducible refine w_block ?_
        | refine w_cond_true rfl ?_
        | refine w_cond_false rfl ?_
        | (refine w_cond_dec rfl (fun _ => ?_) (fun _ => ?_) <;> try (exfalso; omega))
        | (refine w_cond_ndec rfl (fun _ => ?_) (fun _ => ?_) <;> try (exfalso; omega))
        | refine w_cond_not rfl (fun _ => ?_) (fun _ => ?_)
        | refine w_cond rfl (fun _ => ?_) (fun _ => ?_)
        | ((with_reducible refine w_region (id := 0) ?_); (first | (refine wl_pure rfl rfl (pvm_assign_i rfl) ?_) | (refine wl_pure rfl rfl pv_assign ?_)); refine wl_nil ?_)
        | ((with_reducible refine w_region (id := 1) ?_); (first | (refine wl_pure rfl rfl (pvm_move_i rfl) ?_) | (refine wl_pure rfl rfl pv_move ?_)); refine wl_nil ?_)
        | ((with_reducible refine w_region (id := 2) ?_); refine wl_pure rfl rfl (pv_lss rfl rfl) ?_; refine wl_nil ?_)
        | ((with_reducible refine w_region (id := 3) ?_); (first | (refine wl_pure rfl rfl (pvm_move_i rfl) ?_) | (refine wl_pure rfl rfl pv_move ?_)); (first | (refine wl_pure rfl rfl (pvm_assign_i rfl) ?_) | (refine wl_pure rfl rfl pv_assign ?_)); refine wl_nil ?_)
        | ((with_reducible refine w_region (id := 4) ?_); (first | (refine wl_pure rfl rfl (pvm_move_i rfl) ?_) | (refine wl_pure rfl rfl pv_move ?_)); fail "no way: call"; (first | (refine wl_pure rfl rfl (pvm_move_i rfl) ?_) | (refine wl_pure rfl rfl pv_move ?_)); (first | (refine wl_pure rfl rfl (pv_iadd rfl rfl (by omega)) ?_) | (refine wl_pure rfl rfl (pv_add rfl rfl) ?_)); (first | (refine wl_pure rfl rfl (pvm_assign_i rfl) ?_) | (refine wl_pure rfl rfl pv_assign ?_)); refine wl_nil ?_)
        | ((with_reducible refine w_region (id := 5) ?_); (first | (refine wl_pure rfl rfl (pvm_move_p rfl) ?_) | (refine wl_pure rfl rfl pv_move ?_)); (first | (refine wl_pure rfl rfl (pvm_move_i rfl) ?_) | (refine wl_pure rfl rfl pv_move ?_)); (first | (refine wl_pure rfl rfl (pv_imul rfl rfl (by omega)) ?_) | (refine wl_pure rfl rfl (pv_mul rfl rfl) ?_)); fail "no way: call"; refine wl_nil ?_)
        | ((with_reducible refine w_region (id := 6) ?_); (first | (refine wl_pure rfl rfl (pvm_move_p rfl) ?_) | (refine wl_pure rfl rfl pv_move ?_)); (first | (refine wl_pure rfl rfl (pvm_move_i rfl) ?_) | (refine wl_pure rfl rfl pv_move ?_)); fail "no way: call"; (first | (refine wl_pure rfl rfl (pvm_assign_i rfl) ?_) | (refine wl_pure rfl rfl pv_assign ?_)); refine wl_nil ?_)
        | ((with_reducible refine w_region (id := 7) ?_); (first | (refine wl_pure rfl rfl (pvm_move_i rfl) ?_) | (refine wl_pure rfl rfl pv_move ?_)); refine wl_pure rfl rfl (pv_neq rfl rfl) ?_; refine wl_nil ?_)
        | ((with_reducible refine w_region (id := 8) ?_); (first | (refine wl_pure rfl rfl (pvm_move_i rfl) ?_) | (refine wl_pure rfl rfl pv_move ?_)); (first | (refine wl_pure rfl rfl (pvm_assign_i rfl) ?_) | (refine wl_pure rfl rfl pv_assign ?_)); refine wl_nil ?_)
        | ((with_reducible refine w_region (id := 9) ?_); (first | (refine wl_pure rfl rfl (pv_iadd rfl rfl (by omega)) ?_) | (refine wl_pure rfl rfl (pv_add rfl rfl) ?_)); (first | (refine wl_pure rfl rfl (pvm_move_i rfl) ?_) | (refine wl_pure rfl rfl pv_move ?_)); refine wl_nil ?_)
        | ((with_reducible refine w_region (id := 10) ?_); (first | (refine wl_pure rfl rfl (pvm_assign_i rfl) ?_) | (refine wl_pure rfl rfl pv_assign ?_)); refine wl_nil ?_))
    obtain rfl : i = 2 := by omega
    rw [hci.2.2 rfl]
    exact ret_r (v := .int .i64 _) rfl ⟨rfl, rfl⟩
theorem ret_x {P : Program} {rs : List ResultVar} {ρ : Fr} {ro : RO} {own : List Blks} {p q : Nat} {y x : Fs × Int} (own2 : List Blks) (hv : Res P rs ρ ro own (.int .i64 x.2)) (hs : Sub own2 own) (ho : own2 = [flashG p q x.1]) (e : y = x) :
    retP2 P rs (fun v own => v = .int .i64 y.2 ∧ own = [flashG p q y.1]) .ret ρ ro own := by subst e; subst ho; exact ret_s _ hv hs ⟨rfl, rfl⟩
theorem write_c (p q : Nat) (s : Fs) (hb : 3584 ≤ s.b.length) (slot : Int) (a : Option Addr) (c : Nat) (xs : List (BitVec 8)) (hl : xs.length ≤ 1000000) (ro : RO) (hs : SlR v8 (.slice a xs.length c) xs ro) :
    C Try.prog 9 #[.pointer (some ⟨p, 0, none⟩), .int .i64 slot, .slice a xs.length c] ro [flashG p q s] fun v own => v = .int .i64 (s.write slot xs).2 ∧ own = [flashG p q (s.write slot xs).1] := by
  refine c_of_w2 (n := 60) Try.func9 rfl rfl rfl (by rfl) fun E => ?_
  have hc := s.clear_len hb slot
  have hp := Fs.program_len (s.clear slot).1 ((2 + slot * 2) * 256) xs
  have hrl := Fs.sRead_len ((s.clear slot).1.program ((2 + slot * 2) * 256) xs).1 slot xs.length
  repeat' (first
    | with_reducible refine w_seq ?_
    | with_reducible refine thenP_n ?_
    | with_reducible refine thenP_x ?_
    | with_reducible refine thenP_r ?_
    | with_reducible refine blockP_n ?_
    | with_reducible refine blockP_r ?_
    | with_reducible refine blockP_eq ?_
    | with_reducible refine blockP_ne (by rfl) ?_
    | with_reducible refine w_skip ?_
    | with_reducible refine w_ret ?_
    | with_reducible refine w_exit ?_
    | with_reducible refine w_block ?_
    | refine w_cond_true rfl ?_
    | refine w_cond_false rfl ?_
    | (refine w_cond_dec rfl (fun _ => ?_) (fun _ => ?_) <;> try (exfalso; omega))
    | (refine w_cond_ndec rfl (fun _ => ?_) (fun _ => ?_) <;> try (exfalso; omega))
    | refine w_cond_not rfl (fun _ => ?_) (fun _ => ?_)
    | refine w_cond rfl (fun _ => ?_) (fun _ => ?_)
    | ((with_reducible refine w_region (id := 0) ?_); (first | (refine wl_pure rfl rfl (pvm_assign_i rfl) ?_) | (refine wl_pure rfl rfl pv_assign ?_)); refine wl_nil ?_)
    | ((with_reducible refine w_region (id := 1) ?_); all_goals (first | (refine wl_pure rfl rfl (pvm_move_p rfl) ?_) | (refine wl_pure rfl rfl pv_move ?_)); all_goals (refine wl_pure rfl rfl (pv_ptr_nil Try.underlying25 rfl rfl) ?_); all_goals (first | (refine wl_pure rfl rfl (pvm_move_b rfl) ?_) | (refine wl_pure rfl rfl pv_move ?_)); all_goals (first | (refine wl_skipd rfl rfl ?_) | (refine wl_pure rfl rfl (pvm_move_i rfl) ?_) | (refine wl_pure rfl rfl pv_move ?_) | ((refine wl_split_dec rfl rfl rfl (fun _ => ?_) (fun _ => ?_)) <;> (first | (refine wl_skipd rfl rfl ?_) | (refine wl_pure rfl rfl (pvm_move_i rfl) ?_) | (refine wl_pure rfl rfl pv_move ?_))) | ((refine wl_split rfl rfl rfl (fun _ => ?_) (fun _ => ?_)) <;> (first | (refine wl_skipd rfl rfl ?_) | (refine wl_pure rfl rfl (pvm_move_i rfl) ?_) | (refine wl_pure rfl rfl pv_move ?_)))); all_goals (first | (refine wl_skipd rfl rfl ?_) | (refine wl_pure rfl rfl (pv_neq rfl rfl) ?_) | ((refine wl_split_dec rfl rfl rfl (fun _ => ?_) (fun _ => ?_)) <;> (first | (refine wl_skipd rfl rfl ?_) | (refine wl_pure rfl rfl (pv_neq rfl rfl) ?_))) | ((refine wl_split rfl rfl rfl (fun _ => ?_) (fun _ => ?_)) <;> (first | (refine wl_skipd rfl rfl ?_) | (refine wl_pure rfl rfl (pv_neq rfl rfl) ?_)))); all_goals (first | (refine wl_skipd rfl rfl ?_) | (refine wl_pure rfl rfl (pvm_move_b rfl) ?_) | (refine wl_pure rfl rfl pv_move ?_) | ((refine wl_split_dec rfl rfl rfl (fun _ => ?_) (fun _ => ?_)) <;> (first | (refine wl_skipd rfl rfl ?_) | (refine wl_pure rfl rfl (pvm_move_b rfl) ?_) | (refine wl_pure rfl rfl pv_move ?_))) | ((refine wl_split rfl rfl rfl (fun _ => ?_) (fun _ => ?_)) <;> (first | (refine wl_skipd rfl rfl ?_) | (refine wl_pure rfl rfl (pvm_move_b rfl) ?_) | (refine wl_pure rfl rfl pv_move ?_)))); all_goals (first | (refine wl_skipd rfl rfl ?_) | (refine wl_pure rfl rfl (pvm_move_i rfl) ?_) | (refine wl_pure rfl rfl pv_move ?_) | ((refine wl_split_dec rfl rfl rfl (fun _ => ?_) (fun _ => ?_)) <;> (first | (refine wl_skipd rfl rfl ?_) | (refine wl_pure rfl rfl (pvm_move_i rfl) ?_) | (refine wl_pure rfl rfl pv_move ?_))) | ((refine wl_split rfl rfl rfl (fun _ => ?_) (fun _ => ?_)) <;> (first | (refine wl_skipd rfl rfl ?_) | (refine wl_pure rfl rfl (pvm_move_i rfl) ?_) | (refine wl_pure rfl rfl pv_move ?_)))); all_goals (first | (refine wl_skipd rfl rfl ?_) | (refine wl_pure rfl rfl (pv_neq rfl rfl) ?_) | ((refine wl_split_dec rfl rfl rfl (fun _ => ?_) (fun _ => ?_)) <;> (first | (refine wl_skipd rfl rfl ?_) | (refine wl_pure rfl rfl (pv_neq rfl rfl) ?_))) | ((refine wl_split rfl rfl rfl (fun _ => ?_) (fun _ => ?_)) <;> (first | (refine wl_skipd rfl rfl ?_) | (refine wl_pure rfl rfl (pv_neq rfl rfl) ?_)))); all_goals (first | (refine wl_skipd rfl rfl ?_) | (refine wl_pure rfl rfl (pvk_t_b rfl rfl) ?_) | (refine wl_pure rfl rfl (pvk_f_b rfl rfl) ?_) | (refine wl_pure rfl rfl (pv_pick_t rfl) ?_) | (refine wl_pure rfl rfl (pv_pick_f rfl) ?_) | (refine wl_pure rfl rfl (pvk_and rfl rfl) ?_) | (refine wl_pure rfl rfl (pvk_or rfl rfl) ?_) | (refine wl_pure rfl rfl (pv_pick rfl) ?_) | ((refine wl_split_dec rfl rfl rfl (fun _ => ?_) (fun _ => ?_)) <;> (first | (refine wl_skipd rfl rfl ?_) | (refine wl_pure rfl rfl (pvk_t_b rfl rfl) ?_) | (refine wl_pure rfl rfl (pvk_f_b rfl rfl) ?_) | (refine wl_pure rfl rfl (pv_pick_t rfl) ?_) | (refine wl_pure rfl rfl (pv_pick_f rfl) ?_) | (refine wl_pure rfl rfl (pvk_and rfl rfl) ?_) | (refine wl_pure rfl rfl (pvk_or rfl rfl) ?_) | (refine wl_pure rfl rfl (pv_pick rfl) ?_))) | ((refine wl_split rfl rfl rfl (fun _ => ?_) (fun _ => ?_)) <;> (first | (refine wl_skipd rfl rfl ?_) | (refine wl_pure rfl rfl (pvk_t_b rfl rfl) ?_) | (refine wl_pure rfl rfl (pvk_f_b rfl rfl) ?_) | (refine wl_pure rfl rfl (pv_pick_t rfl) ?_) | (refine wl_pure rfl rfl (pv_pick_f rfl) ?_) | (refine wl_pure rfl rfl (pvk_and rfl rfl) ?_) | (refine wl_pure rfl rfl (pvk_or rfl rfl) ?_) | (refine wl_pure rfl rfl (pv_pick rfl) ?_)))); all_goals (first | (refine wl_pure rfl rfl (pvk_t_b rfl rfl) ?_) | (refine wl_pure rfl rfl (pvk_f_b rfl rfl) ?_) | (refine wl_pure rfl rfl (pv_pick_t rfl) ?_) | (refine wl_pure rfl rfl (pv_pick_f rfl) ?_) | (refine wl_pure rfl rfl (pvk_and rfl rfl) ?_) | (refine wl_pure rfl rfl (pvk_or rfl rfl) ?_) | (refine wl_pure rfl rfl (pv_pick rfl) ?_)); all_goals (first | (refine wl_pure rfl rfl (pvm_move_b rfl) ?_) | (refine wl_pure rfl rfl pv_move ?_)); all_goals (first | (refine wl_skipd rfl rfl ?_) | (refine wl_pure rfl rfl (pvm_move_s rfl) ?_) | (refine wl_pure rfl rfl pv_move ?_) | ((refine wl_split_dec rfl rfl rfl (fun _ => ?_) (fun _ => ?_)) <;> (first | (refine wl_skipd rfl rfl ?_) | (refine wl_pure rfl rfl (pvm_move_s rfl) ?_) | (refine wl_pure rfl rfl pv_move ?_))) | ((refine wl_split rfl rfl rfl (fun _ => ?_) (fun _ => ?_)) <;> (first | (refine wl_skipd rfl rfl ?_) | (refine wl_pure rfl rfl (pvm_move_s rfl) ?_) | (refine wl_pure rfl rfl pv_move ?_)))); all_goals (first | (refine wl_skipd rfl rfl ?_) | (refine wl_do rfl rfl (opw_call Fa.ca_37 rfl [] (may_c _ _ _ hl _) RoOk.self (fun v own h => ?_)); obtain ⟨rfl, rfl⟩ := h) | ((refine wl_split_dec rfl rfl rfl (fun _ => ?_) (fun _ => ?_)) <;> (first | (refine wl_skipd rfl rfl ?_) | (refine wl_do rfl rfl (opw_call Fa.ca_37 rfl [] (may_c _ _ _ hl _) RoOk.self (fun v own h => ?_)); obtain ⟨rfl, rfl⟩ := h))) | ((refine wl_split rfl rfl rfl (fun _ => ?_) (fun _ => ?_)) <;> (first | (refine wl_skipd rfl rfl ?_) | (refine wl_do rfl rfl (opw_call Fa.ca_37 rfl [] (may_c _ _ _ hl _) RoOk.self (fun v own h => ?_)); obtain ⟨rfl, rfl⟩ := h)))); all_goals (first | (refine wl_skipd rfl rfl ?_) | (refine wl_pure rfl rfl (pv_not_t rfl) ?_) | (refine wl_pure rfl rfl (pv_not_f rfl) ?_) | (refine wl_pure rfl rfl (pv_not rfl) ?_) | ((refine wl_split_dec rfl rfl rfl (fun _ => ?_) (fun _ => ?_)) <;> (first | (refine wl_skipd rfl rfl ?_) | (refine wl_pure rfl rfl (pv_not_t rfl) ?_) | (refine wl_pure rfl rfl (pv_not_f rfl) ?_) | (refine wl_pure rfl rfl (pv_not rfl) ?_))) | ((refine wl_split rfl rfl rfl (fun _ => ?_) (fun _ => ?_)) <;> (first | (refine wl_skipd rfl rfl ?_) | (refine wl_pure rfl rfl (pv_not_t rfl) ?_) | (refine wl_pure rfl rfl (pv_not_f rfl) ?_) | (refine wl_pure rfl rfl (pv_not rfl) ?_)))); all_goals (first | (refine wl_pure rfl rfl (pvk_t_b rfl rfl) ?_) | (refine wl_pure rfl rfl (pvk_f_b rfl rfl) ?_) | (refine wl_pure rfl rfl (pv_pick_t rfl) ?_) | (refine wl_pure rfl rfl (pv_pick_f rfl) ?_) | (refine wl_pure rfl rfl (pvk_and rfl rfl) ?_) | (refine wl_pure rfl rfl (pvk_or rfl rfl) ?_) | (refine wl_pure rfl rfl (pv_pick rfl) ?_)); all_goals (refine wl_nil ?_))
    | ((with_reducible refine w_region (id := 2) ?_); (first | (refine wl_pure rfl rfl (pvm_assign_i rfl) ?_) | (refine wl_pure rfl rfl pv_assign ?_)); refine wl_nil ?_)
    | ((with_reducible refine w_region (id := 3) ?_); (first | (refine wl_pure rfl rfl (pvm_move_p rfl) ?_) | (refine wl_pure rfl rfl pv_move ?_)); refine wl_do rfl rfl (opw_call Fa.ca_38 rfl [0] (down_c p q s _) RoOk.self (fun v own h => ?_)); obtain ⟨rfl, rfl⟩ := h; refine wl_nil ?_)
    | ((with_reducible refine w_region (id := 4) ?_); (first | (refine wl_pure rfl rfl (pvm_assign_i rfl) ?_) | (refine wl_pure rfl rfl pv_assign ?_)); refine wl_nil ?_)
    | ((with_reducible refine w_region (id := 5) ?_); (first | (refine wl_pure rfl rfl (pvm_move_p rfl) ?_) | (refine wl_pure rfl rfl pv_move ?_)); (first | (refine wl_pure rfl rfl (pvm_move_i rfl) ?_) | (refine wl_pure rfl rfl pv_move ?_)); refine wl_do rfl rfl (opw_call Fa.ca_39 rfl [0] (clear_c p q s hb slot (by omega) _) RoOk.self (fun v own h => ?_)); obtain ⟨rfl, rfl⟩ := h; (first | (refine wl_pure rfl rfl (pvm_assign_i rfl) ?_) | (refine wl_pure rfl rfl pv_assign ?_)); refine wl_nil ?_)
    | ((with_reducible refine w_region (id := 6) ?_); (first | (refine wl_pure rfl rfl (pvm_move_i rfl) ?_) | (refine wl_pure rfl rfl pv_move ?_)); refine wl_pure rfl rfl (pv_neq rfl rfl) ?_; refine wl_nil ?_)
    | ((with_reducible refine w_region (id := 7) ?_); (first | (refine wl_pure rfl rfl (pvm_move_i rfl) ?_) | (refine wl_pure rfl rfl pv_move ?_)); (first | (refine wl_pure rfl rfl (pvm_assign_i rfl) ?_) | (refine wl_pure rfl rfl pv_assign ?_)); refine wl_nil ?_)
    | ((with_reducible refine w_region (id := 8) ?_); (first | (refine wl_pure rfl rfl (pvm_move_p rfl) ?_) | (refine wl_pure rfl rfl pv_move ?_)); (first | (refine wl_pure rfl rfl (pvm_move_i rfl) ?_) | (refine wl_pure rfl rfl pv_move ?_)); refine wl_do rfl rfl (opw_call Fa.ca_40 rfl [] (first_c slot (by omega) _) RoOk.self (fun v own h => ?_)); obtain ⟨rfl, rfl⟩ := h; (first | (refine wl_pure rfl rfl (pv_imul rfl rfl (by omega)) ?_) | (refine wl_pure rfl rfl (pv_mul rfl rfl) ?_)); (first | (refine wl_pure rfl rfl (pvm_move_s rfl) ?_) | (refine wl_pure rfl rfl pv_move ?_)); refine wl_do rfl rfl (opw_call Fa.ca_10 rfl [0] (program_c p q _ (by omega) _ a c xs hl _ hs) RoOk.self (fun v own h => ?_)); obtain ⟨rfl, rfl⟩ := h; (first | (refine wl_pure rfl rfl (pvm_assign_i rfl) ?_) | (refine wl_pure rfl rfl pv_assign ?_)); refine wl_nil ?_)
    | ((with_reducible refine w_region (id := 9) ?_); (first | (refine wl_pure rfl rfl (pvm_move_i rfl) ?_) | (refine wl_pure rfl rfl pv_move ?_)); refine wl_pure rfl rfl (pv_neq rfl rfl) ?_; refine wl_nil ?_)
    | ((with_reducible refine w_region (id := 10) ?_); (first | (refine wl_pure rfl rfl (pvm_move_i rfl) ?_) | (refine wl_pure rfl rfl pv_move ?_)); (first | (refine wl_pure rfl rfl (pvm_assign_i rfl) ?_) | (refine wl_pure rfl rfl pv_assign ?_)); refine wl_nil ?_)
    | ((with_reducible refine w_region (id := 11) ?_); (first | (refine wl_pure rfl rfl (pvm_move_p rfl) ?_) | (refine wl_pure rfl rfl pv_move ?_)); (first | (refine wl_pure rfl rfl (pvm_move_i rfl) ?_) | (refine wl_pure rfl rfl pv_move ?_)); (first | (refine wl_pure rfl rfl (pvm_move_s rfl) ?_) | (refine wl_pure rfl rfl pv_move ?_)); refine wl_pure rfl rfl (pv_len_slice Fa.sl_22 rfl) ?_; refine wl_do rfl rfl (opw_call Fa.ca_11 rfl [0] (sRead_c p q _ (by omega) slot _ _) RoOk.self (fun v own h => ?_)); obtain ⟨bv, g, rfl, rfl, hg⟩ := h; obtain ⟨a2, c2, rfl, hle⟩ := hg.slice; obtain ⟨r2, hr2, hok2⟩ := hg.ro; (first | (refine wl_pure rfl rfl (pvm_move_t rfl) ?_) | (refine wl_pure rfl rfl pv_move ?_)); refine wl_pure rfl rfl (pv_extract rfl rfl) ?_; refine wl_pure rfl rfl (pv_extract rfl rfl) ?_; (first | (refine wl_pure rfl rfl (pvm_assign_s rfl) ?_) | (refine wl_pure rfl rfl pv_assign ?_)); (first | (refine wl_pure rfl rfl (pvm_assign_i rfl) ?_) | (refine wl_pure rfl rfl pv_assign ?_)); refine wl_nil ?_)
    | ((with_reducible refine w_region (id := 12) ?_); all_goals (first | (refine wl_pure rfl rfl (pvm_move_i rfl) ?_) | (refine wl_pure rfl rfl pv_move ?_)); all_goals (refine wl_pure rfl rfl (pv_eql rfl rfl) ?_); all_goals (first | (refine wl_pure rfl rfl (pvm_move_b rfl) ?_) | (refine wl_pure rfl rfl pv_move ?_)); all_goals (first | (refine wl_skipd rfl rfl ?_) | (refine wl_pure rfl rfl (pvm_move_s rfl) ?_) | (refine wl_pure rfl rfl pv_move ?_) | ((refine wl_split_dec rfl rfl rfl (fun _ => ?_) (fun _ => ?_)) <;> (first | (refine wl_skipd rfl rfl ?_) | (refine wl_pure rfl rfl (pvm_move_s rfl) ?_) | (refine wl_pure rfl rfl pv_move ?_))) | ((refine wl_split rfl rfl rfl (fun _ => ?_) (fun _ => ?_)) <;> (first | (refine wl_skipd rfl rfl ?_) | (refine wl_pure rfl rfl (pvm_move_s rfl) ?_) | (refine wl_pure rfl rfl pv_move ?_)))); all_goals (first | (refine wl_skipd rfl rfl ?_) | (refine wl_pure rfl rfl (pvm_move_s rfl) ?_) | (refine wl_pure rfl rfl pv_move ?_) | ((refine wl_split_dec rfl rfl rfl (fun _ => ?_) (fun _ => ?_)) <;> (first | (refine wl_skipd rfl rfl ?_) | (refine wl_pure rfl rfl (pvm_move_s rfl) ?_) | (refine wl_pure rfl rfl pv_move ?_))) | ((refine wl_split rfl rfl rfl (fun _ => ?_) (fun _ => ?_)) <;> (first | (refine wl_skipd rfl rfl ?_) | (refine wl_pure rfl rfl (pvm_move_s rfl) ?_) | (refine wl_pure rfl rfl pv_move ?_)))); all_goals (first | (refine wl_skipd rfl rfl ?_) | (refine wl_do rfl rfl (opw_call Fa.ca_41 rfl [] (equal8_c a2 a c2 c _ xs (by omega) hl (r2 ++ ro) (hr2.mono (fun _ h => List.mem_append_left _ h)) (hs.mono (fun _ h => List.mem_append_right _ h))) (RoOk.append (hok2 _ _ (List.mem_append_left _ (List.mem_cons_self ..))) RoOk.self) (fun v own h => ?_)); obtain ⟨rfl, rfl⟩ := h) | ((refine wl_split_dec rfl rfl rfl (fun _ => ?_) (fun _ => ?_)) <;> (first | (refine wl_skipd rfl rfl ?_) | (refine wl_do rfl rfl (opw_call Fa.ca_41 rfl [] (equal8_c a2 a c2 c _ xs (by omega) hl (r2 ++ ro) (hr2.mono (fun _ h => List.mem_append_left _ h)) (hs.mono (fun _ h => List.mem_append_right _ h))) (RoOk.append (hok2 _ _ (List.mem_append_left _ (List.mem_cons_self ..))) RoOk.self) (fun v own h => ?_)); obtain ⟨rfl, rfl⟩ := h))) | ((refine wl_split rfl rfl rfl (fun _ => ?_) (fun _ => ?_)) <;> (first | (refine wl_skipd rfl rfl ?_) | (refine wl_do rfl rfl (opw_call Fa.ca_41 rfl [] (equal8_c a2 a c2 c _ xs (by omega) hl (r2 ++ ro) (hr2.mono (fun _ h => List.mem_append_left _ h)) (hs.mono (fun _ h => List.mem_append_right _ h))) (RoOk.append (hok2 _ _ (List.mem_append_left _ (List.mem_cons_self ..))) RoOk.self) (fun v own h => ?_)); obtain ⟨rfl, rfl⟩ := h)))); all_goals (first | (refine wl_skipd rfl rfl ?_) | (refine wl_pure rfl rfl (pv_not_t rfl) ?_) | (refine wl_pure rfl rfl (pv_not_f rfl) ?_) | (refine wl_pure rfl rfl (pv_not rfl) ?_) | ((refine wl_split_dec rfl rfl rfl (fun _ => ?_) (fun _ => ?_)) <;> (first | (refine wl_skipd rfl rfl ?_) | (refine wl_pure rfl rfl (pv_not_t rfl) ?_) | (refine wl_pure rfl rfl (pv_not_f rfl) ?_) | (refine wl_pure rfl rfl (pv_not rfl) ?_))) | ((refine wl_split rfl rfl rfl (fun _ => ?_) (fun _ => ?_)) <;> (first | (refine wl_skipd rfl rfl ?_) | (refine wl_pure rfl rfl (pv_not_t rfl) ?_) | (refine wl_pure rfl rfl (pv_not_f rfl) ?_) | (refine wl_pure rfl rfl (pv_not rfl) ?_)))); all_goals (first | (refine wl_pure rfl rfl (pvk_t_b rfl rfl) ?_) | (refine wl_pure rfl rfl (pvk_f_b rfl rfl) ?_) | (refine wl_pure rfl rfl (pv_pick_t rfl) ?_) | (refine wl_pure rfl rfl (pv_pick_f rfl) ?_) | (refine wl_pure rfl rfl (pvk_and rfl rfl) ?_) | (refine wl_pure rfl rfl (pvk_or rfl rfl) ?_) | (refine wl_pure rfl rfl (pv_pick rfl) ?_)); all_goals (refine wl_nil ?_))
    | ((with_reducible refine w_region (id := 13) ?_); (first | (refine wl_pure rfl rfl (pvm_assign_i rfl) ?_) | (refine wl_pure rfl rfl pv_assign ?_)); refine wl_nil ?_)
    | ((with_reducible refine w_region (id := 14) ?_); (first | (refine wl_pure rfl rfl (pvm_move_i rfl) ?_) | (refine wl_pure rfl rfl pv_move ?_)); (first | (refine wl_pure rfl rfl (pvm_assign_i rfl) ?_) | (refine wl_pure rfl rfl pv_assign ?_)); refine wl_nil ?_))
  all_goals first
    | (refine ret_x (x := (s, 1)) [flashG p q s] rfl (Sub.flat rfl) rfl ?_)
    | (refine ret_x (x := (s, 11)) [flashG p q s] rfl (Sub.flat rfl) rfl ?_)
    | (refine ret_x (x := s.clear slot) [flashG p q (s.clear slot).1] rfl (Sub.flat rfl) rfl ?_)
    | (refine ret_x (x := (s.clear slot).1.program ((2 + slot * 2) * 256) xs) [flashG p q _] rfl (Sub.flat rfl) rfl ?_)
    | (refine ret_x (x := (((s.clear slot).1.program ((2 + slot * 2) * 256) xs).1, 13)) [flashG p q _] rfl (Sub.pk' [1] rfl) rfl ?_)
    | (refine ret_x (x := (((s.clear slot).1.program ((2 + slot * 2) * 256) xs).1, (((s.clear slot).1.program ((2 + slot * 2) * 256) xs).1.sRead slot xs.length).2)) [flashG p q _] rfl (Sub.pk' [1] rfl) rfl ?_)
    | skip
  all_goals clear hb hs hc hp hrl E
  all_goals try clear hg
  all_goals try clear hr2 hok2 hle
  all_goals try (simp_all [Fs.write, Fs.write2, may]; done)
end Go.Proofs.Ytnohdfhhdppflaa
