/- flash.New, walked. -/
import Derived.Test.YtnohdfhhdppflaaFlashW3
namespace Go.Proofs.Ytnohdfhhdppflaa
open Go Go.Vc Go.Fl
set_option linter.unusedVariables false
set_option linter.unusedSimpArgs false
set_option maxRecDepth 100000

theorem new_c (wear : Int) (ro : RO) : C Try.prog 8 #[.int .i64 wear] ro [] fun v own => ∃ p q b, v = .pointer (some ⟨p, 0, none⟩) ∧ own = [flashG p q (Fs.new wear b)] ∧ 3584 ≤ b.length ∧ b.take 3584 = List.replicate 3584 255#8 := by
  refine c_of_w2 (n := 10) Try.func8 rfl rfl rfl (by rfl) fun E => ?_
  repeat' (first
    | with_reducible refine w_seq ?_
    | with_reducible refine thenP_n ?_
    | with_reducible refine thenP_x ?_
    | with_reducible refine thenP_r ?_
    | with_reducible refine blockP_n ?_
    | with_reducible refine blockP_r ?_
    | with_reducible refine blockP_eq ?_
    | with_reducible refine blockP_ne (by rfl) ?_
    | with_reducible refine w_skip ?_
    | with_reducible refine w_ret ?_
    | with_reducible refine w_exit ?_
    | with_reducible refine w_block ?_
    | refine w_cond_true rfl ?_
    | refine w_cond_false rfl ?_
    | (refine w_cond_dec rfl (fun _ => ?_) (fun _ => ?_) <;> try (exfalso; omega))
    | (refine w_cond_ndec rfl (fun _ => ?_) (fun _ => ?_) <;> try (exfalso; omega))
    | refine w_cond_not rfl (fun _ => ?_) (fun _ => ?_)
    | refine w_cond rfl (fun _ => ?_) (fun _ => ?_)
    | ((with_reducible refine w_region (id := 0) ?_); (first | (refine wl_pure rfl rfl (pvm_assign_p rfl) ?_) | (refine wl_pure rfl rfl pv_assign ?_)); refine wl_nil ?_)
    | ((with_reducible refine w_region (id := 1) ?_); refine wl_do rfl rfl (opw_buildRow (f := v8) [(BitVec.ofNat 8 255)] Try.underlying22 Fa.sz_5 Fa.zero_5 rfl rfl (by omega) rfl (fun _ => rfl) fun nb => ?_); refine wl_do rfl rfl (opw_call Fa.ca_36 rfl [] (repeat_c 255#8 ⟨nb, 0, none⟩ 1 [(nb, AtO v8 0 [255#8])] (SlR.of_has (c := 1) (by decide))) (roOk_arr 0 0 rfl (fun k hk => by rw [Nat.zero_add])) (fun v own h => ?_)); obtain ⟨q, l, rfl, rfl, hl, ht⟩ := h; (first | (refine wl_pure rfl rfl (pvm_move_i rfl) ?_) | (refine wl_pure rfl rfl pv_move ?_)); refine wl_pure rfl rfl (pv_min rfl rfl) ?_; refine wl_pure rfl rfl (pv_max rfl rfl) ?_; refine wl_pure rfl rfl (pv_build_structL (fs := structF Try.prog 80) Fa.sf_80 Fa.zero_80 Fa.pl_80 rfl) ?_; refine wl_do rfl rfl (opw_box fun b9 => ?_); (first | (refine wl_pure rfl rfl (pvm_assign_p rfl) ?_) | (refine wl_pure rfl rfl pv_assign ?_)); refine wl_nil ?_))
  exact ret_s [flashG b9 q (Fs.new wear l)] rfl (Sub.pk' [2, 0] rfl) ⟨b9, q, l, rfl, rfl, hl, ht⟩
end Go.Proofs.Ytnohdfhhdppflaa
