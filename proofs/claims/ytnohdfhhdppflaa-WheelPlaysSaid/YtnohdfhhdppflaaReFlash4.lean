/- The reference's flash, walked: Blank. -/
import Derived.Test.YtnohdfhhdppflaaReFlash3
namespace Go.Proofs.Ytnohdfhhdppflaa
open Go Go.Vc Go.Fl
set_option linter.unusedVariables false
set_option linter.unusedSimpArgs false
set_option maxRecDepth 100000
set_option maxHeartbeats 4000000
namespace FaReFlash4
theorem ca_53 : callable Try.prog 53 = true := by kernel_rfl
theorem one_5 : isOne Try.prog 5 = true := by kernel_rfl
theorem sl_22 : sliceOf Try.prog 22 = some (5, 1) := by kernel_rfl
instance : Fb (callable Try.prog 53) := ⟨ca_53⟩
instance : Fb (isOne Try.prog 5) := ⟨one_5⟩
instance : Ft (sliceOf Try.prog 22) (5, 1) := ⟨sl_22⟩
end FaReFlash4
attribute [local irreducible] PV OpW WL WM WH WZ W C Has RoOk

theorem blankR_c (p q : Nat) (s t : Fs) (h : Rel s t) (at_ n : Int) (ro : RO) : C Try.prog 64 #[.pointer (some ⟨p, 0, none⟩), .int .i64 at_, .int .i64 n] ro [refG p q t] fun v own => v = .bool (s.blank at_ n) ∧ own = [refG p q t] := by
  have hlen := s.read_len at_ n
  refine c_of_w2 (n := 29) Try.func64 rfl rfl rfl (by rfl) fun E => ?_
  repeat' (first | ((with_reducible refine g_wl ?_); (first | refine kN ?_ | ((with_reducible refine g_mv ?_); (first | refine kp (pvm_move_p rfl) ?_ | refine kp (pvm_move_t rfl) ?_ | refine kp (pvm_move_s rfl) ?_ | refine kp (pvm_move_i rfl) ?_)) | ((with_reducible refine g_as ?_); (first | refine kp (pvm_assign_b rfl) ?_ | refine kp (pvm_assign_s rfl) ?_ | refine kp (pvm_assign_i rfl) ?_)) | ((with_reducible refine g_cb .len ?_); refine kp (pv_len_slice Ft.h rfl) ?_) | ((with_reducible refine g_cf 53 ?_); (refine kd (opw_call Fb.h rfl [0] (readR_c p q s t h at_ n (.inr trivial) _) RoOk.self (fun v own h => ?_)); obtain ⟨bv, g, rfl, rfl, hg⟩ := h; obtain ⟨a, c, rfl, hle⟩ := hg.slice)) | refine kp (pv_extract rfl rfl) ?_)) | with_reducible refine w_seq ?_ | with_reducible refine thenP_n ?_ | with_reducible refine w_block ?_ | refine wr rfl ?_)
  refine w_loop2 (ι := Nat) (fun i ρ ro' own => i ≤ (s.read at_ n).1.length ∧ Kn [(8, .int .i64 (s.read at_ n).2), (18, .slice a (s.read at_ n).1.length c), (19, .int .i64 (s.read at_ n).1.length), (20, .int .i64 i)] ρ ∧ ro' = ro ∧ own = [g, refG p q t] ∧ ((s.read at_ n).1.take i).any (fun x => decide (x ≠ 255#8)) = false) (fun i => (s.read at_ n).1.length - i) 0 ⟨Nat.zero_le _, ⟨rfl, rfl, rfl, rfl, trivial⟩, rfl, rfl, rfl⟩ ?_
  rintro i ρ ro' own ⟨hi, hk, rfl, rfl, hany⟩
  obtain ⟨ρ', rfl⟩ := hk.ex
  by_cases hlt : i < (s.read at_ n).1.length
  · obtain ⟨b, data, rfl, rfl, rfl, ht⟩ := hg.addr (by omega)
    have hx : (s.read at_ n).1[i]? = some ((s.read at_ n).1[i]'hlt) := List.getElem?_eq_getElem hlt
    have hdx : data[0 + i]? = some ((s.read at_ n).1[i]'hlt) := by
      have h2 : (data.take (s.read at_ n).1.length)[i]? = some ((s.read at_ n).1[i]'hlt) := (congrArg (fun l => l[i]?) ht).trans hx
      rw [List.getElem?_take, if_pos hlt] at h2
      rw [Nat.zero_add]; exact h2
    have htk : (s.read at_ n).1.take (i + 1) = (s.read at_ n).1.take i ++ [(s.read at_ n).1[i]'hlt] := by rw [List.take_succ_eq_append_getElem hlt]
    repeat' (first | ((with_reducible refine g_wl ?_); (first | refine kN ?_ | ((with_reducible refine g_mv ?_); (first | refine kp (pvm_move_8 rfl) ?_ | refine kp (pvm_move_i rfl) ?_)) | ((with_reducible refine g_as ?_); (first | refine kp (pvm_assign_8 rfl) ?_ | refine kp (pvm_assign_b rfl) ?_)) | ((with_reducible refine g_bo ?_); (first | refine kp (pv8_neq rfl (v8_lit 255 rfl (by omega))) ?_ | refine kp (pv_iadd rfl rfl (by omega)) ?_ | refine kp (pv_lss rfl rfl) ?_)) | ((with_reducible refine g_ld ?_); (refine kd (opw_load Fb.h rfl (Has.own 0 0 rfl (cellAt_arr hdx)) ?_))) | refine kp (pv_indexAddr1 FaReFlash4.sl_22 rfl rfl (by omega) (by omega)) ?_)) | with_reducible refine w_seq ?_ | with_reducible refine thenP_n ?_ | with_reducible refine thenP_r ?_ | with_reducible refine blockP_n ?_ | with_reducible refine blockP_r ?_ | with_reducible refine w_skip ?_ | with_reducible refine w_ret ?_ | with_reducible refine w_block ?_ | (refine w_cond_dec rfl (fun _ => ?_) (fun _ => ?_) <;> try (exfalso; omega)) | refine wr (id := 3) rfl ?_ | refine wr (id := 4) rfl ?_ | refine wr (id := 5) rfl ?_ | refine wr (id := 6) rfl ?_ | refine wr (id := 7) rfl ?_)
    · have hne : (s.read at_ n).1[i]'hlt ≠ 255#8 := ‹_›
      refine ret_s (v := .bool false) [refG p q t] rfl (Sub.pk' [1] rfl) ⟨?_, rfl⟩
      have : ((s.read at_ n).1.any fun x => decide (x ≠ 255#8)) = true := List.any_eq_true.2 ⟨_, List.getElem_mem hlt, by simpa using hne⟩
      unfold Fs.blank; rw [this]; simp
    · have hne : ¬ (s.read at_ n).1[i]'hlt ≠ 255#8 := ‹_›
      refine ⟨i + 1, _, Sub.refl, ⟨by omega, ⟨rfl, rfl, rfl, rfl, trivial⟩, rfl, rfl, ?_⟩, by omega⟩
      rw [htk, List.any_append, hany]; simpa using hne
  · repeat' (first | ((with_reducible refine g_wl ?_); (first | refine kN ?_ | ((with_reducible refine g_mv ?_); (refine kp (pvm_move_i rfl) ?_)) | ((with_reducible refine g_as ?_); (refine kp (pvm_assign_b rfl) ?_)) | ((with_reducible refine g_bo ?_); (first | refine kp (pv_lss rfl rfl) ?_ | refine kp (pv_eql rfl rfl) ?_)))) | with_reducible refine w_seq ?_ | with_reducible refine thenP_n ?_ | with_reducible refine thenP_x ?_ | with_reducible refine blockP_eq ?_ | with_reducible refine w_ret ?_ | with_reducible refine w_exit ?_ | (refine w_cond_dec rfl (fun _ => ?_) (fun _ => ?_) <;> try (exfalso; omega)) | refine wr (id := 3) rfl ?_ | refine wr (id := 8) rfl ?_)
    rw [List.take_of_length_le (by omega)] at hany
    refine ret_s (v := .bool _) [refG p q t] rfl (Sub.pk' [1] rfl) ⟨?_, rfl⟩
    unfold Fs.blank; rw [hany]; simp
end Go.Proofs.Ytnohdfhhdppflaa
