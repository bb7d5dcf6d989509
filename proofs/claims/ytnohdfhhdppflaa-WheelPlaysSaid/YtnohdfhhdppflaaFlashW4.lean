/- flash.New, walked. -/
import Derived.Test.YtnohdfhhdppflaaFlashW3
namespace Go.Proofs.Ytnohdfhhdppflaa
open Go Go.Vc Go.Fl
set_option linter.unusedVariables false
set_option linter.unusedSimpArgs false
set_option maxRecDepth 100000
set_option maxHeartbeats 4000000
namespace FaFlashW4
theorem ca_36 : callable Try.prog 36 = true := by kernel_rfl
theorem pl_80 : ∀ w, ((structF Try.prog 80).mapM fun f => do pure (f.offset, ← sizeOf f.type) : Sem (Array (Nat × Nat))).run Try.prog w = .ok #[(0, 1), (1, 14), (15, 1), (16, 1), (17, 1), (18, 1), (19, 1), (20, 1)] w := fun w => by kernel_rfl
theorem sf_80 : Try.prog.underlying 80 = some (.struct (structF Try.prog 80)) := by kernel_rfl
theorem sz_5 : sz Try.prog 5 = some 1 := by kernel_rfl
theorem zero_5 : zeroOf Try.prog 5 = some (.int .u8 0) := by kernel_rfl
theorem zero_80 : zeroOf Try.prog 80 = some (.agg #[(.slice none 0 0), (.int .i64 0), (.int .i64 0), (.int .i64 0), (.int .i64 0), (.int .i64 0), (.int .i64 0), (.int .i64 0), (.int .i64 0), (.int .i64 0), (.int .i64 0), (.int .i64 0), (.int .i64 0), (.int .i64 0), (.int .i64 0), (.int .i64 0), (.bool false), (.bool false), (.int .i64 0), (.int .i64 0), (.int .i64 0)]) := by kernel_rfl
instance : Fb (callable Try.prog 36) := ⟨ca_36⟩
instance : Ft (Try.prog.underlying 80) (.struct (structF Try.prog 80)) := ⟨sf_80⟩
instance : Ft (sz Try.prog 5) (1) := ⟨sz_5⟩
instance : Ft (zeroOf Try.prog 5) (.int .u8 0) := ⟨zero_5⟩
instance : Ft (zeroOf Try.prog 80) (.agg #[(.slice none 0 0), (.int .i64 0), (.int .i64 0), (.int .i64 0), (.int .i64 0), (.int .i64 0), (.int .i64 0), (.int .i64 0), (.int .i64 0), (.int .i64 0), (.int .i64 0), (.int .i64 0), (.int .i64 0), (.int .i64 0), (.int .i64 0), (.int .i64 0), (.bool false), (.bool false), (.int .i64 0), (.int .i64 0), (.int .i64 0)]) := ⟨zero_80⟩
instance : Ft (Try.prog.underlying 22) (.slice 5) := ⟨Try.underlying22⟩
end FaFlashW4
attribute [local irreducible] PV OpW WL WM WH WZ W C Has RoOk

theorem new_c (wear : Int) (ro : RO) : C Try.prog 8 #[.int .i64 wear] ro [] fun v own => ∃ p q b, v = .pointer (some ⟨p, 0, none⟩) ∧ own = [flashG p q (Fs.new wear b)] ∧ 3584 ≤ b.length ∧ b.take 3584 = List.replicate 3584 255#8 := by
  refine c_of_w2 (n := 10) Try.func8 rfl rfl rfl (by rfl) fun E => ?_
  repeat' (first | ((with_reducible refine g_wl ?_); (first | refine kN ?_ | ((with_reducible refine g_mv ?_); (refine kp (pvm_move_i rfl) ?_)) | ((with_reducible refine g_as ?_); (refine kp (pvm_assign_p rfl) ?_)) | ((with_reducible refine g_cb .max ?_); refine kp (pv_max rfl rfl) ?_) | ((with_reducible refine g_cb .min ?_); refine kp (pv_min rfl rfl) ?_) | ((with_reducible refine g_cf 36 ?_); (refine kd (opw_call Fb.h rfl [] (repeat_c 255#8 ⟨nb, 0, none⟩ 1 [(nb, AtO v8 0 [255#8])] (SlR.of_has (c := 1) (by decide))) (roOk_arr 0 0 rfl (fun k hk => by rw [Nat.zero_add])) (fun v own h => ?_)); obtain ⟨q, l, rfl, rfl, hl, ht⟩ := h)) | refine kp (pv_build_structL (fs := structF Try.prog 80) FaFlashW4.sf_80 FaFlashW4.zero_80 FaFlashW4.pl_80 rfl) ?_ | refine kd (opw_buildRow (f := v8) [(BitVec.ofNat 8 255)] Try.underlying22 FaFlashW4.sz_5 FaFlashW4.zero_5 rfl rfl (by omega) rfl (fun _ => rfl) fun nb => ?_) | refine kd (d := 9) (opw_box fun b9 => ?_))) | with_reducible refine w_seq ?_ | with_reducible refine thenP_n ?_ | with_reducible refine w_ret ?_ | refine wr rfl ?_)
  exact ret_s [flashG b9 q (Fs.new wear l)] rfl (Sub.pk' [2, 0] rfl) ⟨b9, q, l, rfl, rfl, hl, ht⟩
end Go.Proofs.Ytnohdfhhdppflaa
