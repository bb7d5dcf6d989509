/- Flash's further methods, walked. -/
import Derived.Test.YtnohdfhhdppflaaFlashW
import Derived.Test.YtnohdfhhdppflaaLibW
namespace Go.Proofs.Ytnohdfhhdppflaa
open Go Go.Vc Go.Fl
set_option linter.unusedVariables false
set_option linter.unusedSimpArgs false
set_option maxRecDepth 100000
set_option maxHeartbeats 4000000
namespace FaFlashW2
theorem ca_42 : callable Try.prog 42 = true := by kernel_rfl
theorem ca_45 : callable Try.prog 45 = true := by kernel_rfl
theorem fo_80_0 : fieldOff Try.prog 80 0 = some 0 := by kernel_rfl
theorem fo_80_3 : fieldOff Try.prog 80 3 = some 16 := by kernel_rfl
theorem fo_80_4 : fieldOff Try.prog 80 4 = some 17 := by kernel_rfl
theorem fo_80_5 : fieldOff Try.prog 80 5 = some 18 := by kernel_rfl
theorem fo_80_6 : fieldOff Try.prog 80 6 = some 19 := by kernel_rfl
theorem one_22 : isOne Try.prog 22 = true := by kernel_rfl
theorem one_3 : isOne Try.prog 3 = true := by kernel_rfl
theorem one_4 : isOne Try.prog 4 = true := by kernel_rfl
theorem sl_22 : sliceOf Try.prog 22 = some (5, 1) := by kernel_rfl
theorem sz_3 : sz Try.prog 3 = some 1 := by kernel_rfl
theorem sz_4 : sz Try.prog 4 = some 1 := by kernel_rfl
instance : Fb (callable Try.prog 42) := ⟨ca_42⟩
instance : Fb (callable Try.prog 45) := ⟨ca_45⟩
instance : Ft (fieldOff Try.prog 80 0) (0) := ⟨fo_80_0⟩
instance : Ft (fieldOff Try.prog 80 3) (16) := ⟨fo_80_3⟩
instance : Ft (fieldOff Try.prog 80 4) (17) := ⟨fo_80_4⟩
instance : Ft (fieldOff Try.prog 80 5) (18) := ⟨fo_80_5⟩
instance : Ft (fieldOff Try.prog 80 6) (19) := ⟨fo_80_6⟩
instance : Fb (isOne Try.prog 22) := ⟨one_22⟩
instance : Fb (isOne Try.prog 3) := ⟨one_3⟩
instance : Fb (isOne Try.prog 4) := ⟨one_4⟩
instance : Ft (sliceOf Try.prog 22) (5, 1) := ⟨sl_22⟩
instance : Ft (sz Try.prog 3) (1) := ⟨sz_3⟩
instance : Ft (sz Try.prog 4) (1) := ⟨sz_4⟩
instance : Ft (Try.prog.underlying 25) (.pointer 80) := ⟨Try.underlying25⟩
end FaFlashW2
attribute [local irreducible] PV OpW WL WM WH WZ W C Has RoOk

theorem down_c (p q : Nat) (s : Fs) (ro : RO) : C Try.prog 38 #[.pointer (some ⟨p, 0, none⟩)] ro [flashG p q s] fun v own => v = .bool s.down ∧ own = [flashG p q s] := by
  refine c_of_w2 (n := 11) Try.func38 rfl rfl rfl (by rfl) fun E => ?_
  repeat' (first | ((with_reducible refine g_wl ?_); (first | refine kN ?_ | ((with_reducible refine g_gd ?_); (refine kg rfl ?_)) | ((with_reducible refine g_mv ?_); (first | refine kp (pvm_move_p rfl) ?_ | refine kp (pvm_move_b rfl) ?_)) | ((with_reducible refine g_as ?_); (refine kp (pvm_assign_b rfl) ?_)) | ((with_reducible refine g_pk ?_); (refine kp (pvk_t_b rfl rfl) ?_)) | ((with_reducible refine g_bo ?_); refine kp (pv_ptr_nnil Ft.h rfl rfl) ?_) | ((with_reducible refine g_ld ?_); (refine kd (opw_load Fb.h rfl (Has.own 0 0 rfl rfl) ?_))) | refine kp (pv_nilCheck rfl) ?_ | refine kp (pv_fieldAddr Ft.h rfl) ?_)) | with_reducible refine w_seq ?_ | with_reducible refine thenP_n ?_ | with_reducible refine w_ret ?_ | refine wr rfl ?_)
  exact ret_r (v := .bool _) rfl ⟨rfl, rfl⟩
theorem start_c (p q : Nat) (s : Fs) (ro : RO) : C Try.prog 14 #[.pointer (some ⟨p, 0, none⟩)] ro [flashG p q s] fun v own => own = [flashG p q s.start] := by
  refine c_of_w2 (n := 21) Try.func14 rfl rfl rfl (by rfl) fun E => ?_
  repeat' (first | ((with_reducible refine g_wl ?_); (first | refine kN ?_ | ((with_reducible refine g_gd ?_); (first | refine kg rfl ?_ | refine ks rfl ?_ | refine kb rfl rfl rfl (fun _ => ?_) (fun _ => ?_))) | ((with_reducible refine g_mv ?_); (first | refine kp (pvm_move_p rfl) ?_ | refine kp (pvm_move_b rfl) ?_)) | ((with_reducible refine g_pk ?_); (first | refine kp (pvk_t_b rfl rfl) ?_ | refine kp (pvk_f_b rfl rfl) ?_)) | ((with_reducible refine g_bo ?_); (first | refine kp (pv_ptr_nnil Ft.h rfl rfl) ?_ | refine kp (pv_geq rfl rfl) ?_)) | ((with_reducible refine g_ld ?_); (refine kd (opw_load Fb.h rfl (Has.own 0 0 rfl rfl) ?_))) | ((with_reducible refine g_st ?_); (refine kn (opw_store 0 0 Ft.h rfl rfl rfl rfl rfl (Nat.le_of_ble_eq_true rfl) (noFr_zero _ _) ?_))) | refine kp (pv_nilCheck rfl) ?_ | refine kp (pv_fieldAddr Ft.h rfl) ?_)) | with_reducible refine w_seq ?_ | with_reducible refine thenP_n ?_ | refine w_cond_true rfl ?_ | refine wr rfl ?_)
  all_goals refine ret_n rfl ?_
  · have e : s.start = { s with down := false, fused := decide (0 ≤ s.left) } := by have h : s.fused = true := ‹_›; simp [Fs.start, h]
    rw [e]; rfl
  · have e : s.start = { s with down := false, fused := false } := by have h : s.fused = false := ‹_›; simp [Fs.start, h]
    rw [e]; rfl
theorem fuse_c (p q : Nat) (s : Fs) (n torn : Int) (ro : RO) : C Try.prog 13 #[.pointer (some ⟨p, 0, none⟩), .int .i64 n, .int .i64 torn] ro [flashG p q s] fun v own => own = [flashG p q (s.fuse n torn)] := by
  refine c_of_w2 (n := 21) Try.func13 rfl rfl rfl (by rfl) fun E => ?_
  repeat' (first | ((with_reducible refine g_wl ?_); (first | refine kN ?_ | ((with_reducible refine g_mv ?_); (first | refine kp (pvm_move_p rfl) ?_ | refine kp (pvm_move_i rfl) ?_)) | ((with_reducible refine g_bo ?_); (first | refine kp (pv_ptr_nnil Ft.h rfl rfl) ?_ | refine kp (pv_geq rfl rfl) ?_)) | ((with_reducible refine g_st ?_); (refine kn (opw_store 0 0 Ft.h rfl rfl rfl rfl rfl (Nat.le_of_ble_eq_true rfl) (noFr_zero _ _) ?_))) | refine kp (pv_nilCheck rfl) ?_ | refine kp (pv_fieldAddr Ft.h rfl) ?_)) | with_reducible refine w_seq ?_ | with_reducible refine thenP_n ?_ | refine w_cond_true rfl ?_ | refine wr rfl ?_)
  exact ret_n rfl rfl
theorem blankF_c (x : BitVec 8) (ro : RO) : C Try.prog 81 #[v8 x] ro [] fun v own => v = .bool (decide (x ≠ 255#8)) ∧ own = [] := by
  refine c_of_w2 (n := 5) Try.func81 rfl rfl rfl (by rfl) fun E => ?_
  repeat' (first | ((with_reducible refine g_wl ?_); (first | refine kN ?_ | ((with_reducible refine g_mv ?_); (refine kp (pvm_move_8 rfl) ?_)) | ((with_reducible refine g_as ?_); (refine kp (pvm_assign_b rfl) ?_)) | ((with_reducible refine g_bo ?_); refine kp (pv8_neq rfl (v8_lit 255 rfl (by omega))) ?_))) | with_reducible refine w_seq ?_ | with_reducible refine thenP_n ?_ | with_reducible refine w_ret ?_ | refine wr rfl ?_)
  exact ret_r (v := .bool _) rfl ⟨rfl, rfl⟩
theorem bytes_c (p q : Nat) (s : Fs) (hb : 3584 ≤ s.b.length) (ro : RO) : C Try.prog 12 #[.pointer (some ⟨p, 0, none⟩)] ro [flashG p q s] fun v own => ∃ g, own = [g, flashG p q s] ∧ Sl v8 5 v s.bs g := by
  have hbl := Fs.bs_len hb
  refine c_of_w2 (n := 10) Try.func12 rfl rfl rfl (by rfl) fun E => ?_
  repeat' (first | ((with_reducible refine g_wl ?_); (first | refine kN ?_ | ((with_reducible refine g_mv ?_); (refine kp (pvm_move_p rfl) ?_)) | ((with_reducible refine g_as ?_); (first | refine kp (pvm_assign_s rfl) ?_ | refine kp pv_assign ?_)) | ((with_reducible refine g_bo ?_); refine kp (pv_ptr_nil Ft.h rfl rfl) ?_) | ((with_reducible refine g_ld ?_); (refine kd (opw_load Fb.h rfl (Has.own 0 0 rfl rfl) ?_))) | ((with_reducible refine g_cf 45 ?_); (refine kd (opw_call Fb.h (by rw [hbl]; rfl) [] (clone8_c (some ⟨q, 0, none⟩) 3584 s.bs (by omega) [(q, AtO v8 0 s.bs)] (SlR.of_has (by omega))) (roOk_arr 0 1 rfl (fun k hk => by rw [Nat.zero_add, Fs.bs, List.getElem?_take, if_pos (by omega)])) (fun v own h => ?_)); obtain ⟨g, rfl, hg⟩ := h)) | refine kp (pv_nilCheck rfl) ?_ | refine kp (pv_fieldAddr Ft.h rfl) ?_)) | with_reducible refine w_seq ?_ | with_reducible refine thenP_n ?_ | with_reducible refine w_skip ?_ | with_reducible refine w_ret ?_ | refine w_cond_false rfl ?_ | refine wr rfl ?_)
  exact ret_r rfl ⟨_, rfl, ‹_›⟩
theorem read_c (p q : Nat) (s : Fs) (hb : 3584 ≤ s.b.length) (at_ n : Int) (hn : -9223372036854775808 ≤ n ∧ n ≤ 9223372036854775807) (ro : RO) : C Try.prog 44 #[.pointer (some ⟨p, 0, none⟩), .int .i64 at_, .int .i64 n] ro [flashG p q s] fun v own => ∃ bv g, v = .tuple #[bv, .int .i64 (s.read at_ n).2] ∧ own = [g, flashG p q s] ∧ Sl v8 5 bv (s.read at_ n).1 g := by
  by_cases hr : s.ready at_ n = 0
  · obtain ⟨hd, h0, h1, h2, h3⟩ := Fs.ready_0 hr
    obtain ⟨at', rfl⟩ := Int.eq_ofNat_of_zero_le h2
    obtain ⟨n', rfl⟩ := Int.eq_ofNat_of_zero_le h0
    have hp : s.read (at' : Int) (n' : Int) = ((s.bs.drop at').take n', 0) := if_pos hr
    have hbl := Fs.bs_len hb
    have hlen : ((s.bs.drop at').take n').length = n' := by simp; omega
    rw [hp]
    have hcut : SlR v8 (.slice (cutAddr (some ⟨q, 0, none⟩) at' 1 3584) n' (3584 - at')) ((s.bs.drop at').take n') [(q, AtO v8 0 s.bs)] := by
      have := (SlR.of_has (f := v8) (b := q) (off := 0) (xs := s.bs) (c := 3584) (by omega)).cut (l := at') (m := at' + n') (by omega) (by omega)
      rwa [Nat.add_sub_cancel_left] at this
    refine c_of_w2 (n := 26) Try.func44 rfl rfl rfl (by rfl) fun E => ?_
    repeat' (first | ((with_reducible refine g_wl ?_); (first | refine kN ?_ | ((with_reducible refine g_mv ?_); (first | refine kp (pvm_move_p rfl) ?_ | refine kp (pvm_move_i rfl) ?_)) | ((with_reducible refine g_as ?_); (first | refine kp (pvm_assign_s rfl) ?_ | refine kp (pvm_assign_i rfl) ?_ | refine kp pv_assign ?_)) | ((with_reducible refine g_bo ?_); (first | refine kp (pv_iadd rfl rfl (by omega)) ?_ | refine kp (pv_neq rfl rfl) ?_)) | ((with_reducible refine g_ld ?_); (refine kd (opw_load Fb.h rfl (Has.own 0 0 rfl rfl) ?_))) | ((with_reducible refine g_cf 42 ?_); (refine kd (opw_call Fb.h rfl [0] (ready_c p q s _ _ (by omega) ro) RoOk.self (fun v own h => ?_)); obtain ⟨rfl, rfl⟩ := h; rw [hr])) | ((with_reducible refine g_cf 45 ?_); (refine kd (opw_call Fb.h (by rw [hlen]; exact congrArg (fun k => [Value.slice (cutAddr (some ⟨q, 0, none⟩) at' 1 3584) k (3584 - at')]) (by omega : n' = ((at' : Int) + n').toNat - ((at' : Int)).toNat)) [] (clone8_c (cutAddr (some ⟨q, 0, none⟩) at' 1 3584) (3584 - at') ((s.bs.drop at').take n') (by omega) [(q, AtO v8 0 s.bs)] (by rw [hlen]; exact hcut)) (roOk_arr 0 1 rfl (fun k hk => by rw [Nat.zero_add, Fs.bs, List.getElem?_take, if_pos (by omega)])) (fun v own h => ?_)); obtain ⟨g, rfl, hg⟩ := h)) | refine kp (pv_nilCheck rfl) ?_ | refine kp (pv_fieldAddr Ft.h rfl) ?_ | refine kp (pv_slice_lh FaFlashW2.sl_22 rfl rfl rfl (by omega) (by omega) (by omega)) ?_)) | with_reducible refine w_seq ?_ | with_reducible refine thenP_n ?_ | with_reducible refine w_skip ?_ | with_reducible refine w_ret ?_ | refine w_cond_false rfl ?_ | refine wr rfl ?_)
    exact ret_r rfl ⟨_, _, rfl, rfl, ‹_›⟩
  · have hp : s.read at_ n = ([], s.ready at_ n) := if_neg hr
    rw [hp]
    refine c_of_w2 (n := 26) Try.func44 rfl rfl rfl (by rfl) fun E => ?_
    repeat' (first | ((with_reducible refine g_wl ?_); (first | refine kN ?_ | ((with_reducible refine g_mv ?_); (first | refine kp (pvm_move_p rfl) ?_ | refine kp (pvm_move_i rfl) ?_)) | ((with_reducible refine g_as ?_); (first | refine kp (pvm_assign_s rfl) ?_ | refine kp (pvm_assign_i rfl) ?_)) | ((with_reducible refine g_bo ?_); (refine kp (pv_neq rfl rfl) ?_)) | ((with_reducible refine g_cf 42 ?_); (refine kd (opw_call Fb.h rfl [0] (ready_c p q s _ _ (by omega) ro) RoOk.self (fun v own h => ?_)); obtain ⟨rfl, rfl⟩ := h)))) | with_reducible refine w_seq ?_ | with_reducible refine thenP_n ?_ | with_reducible refine thenP_r ?_ | with_reducible refine w_ret ?_ | (refine w_cond_dec rfl (fun _ => ?_) (fun _ => ?_) <;> try (exfalso; omega)) | refine wr rfl ?_)
    all_goals first | exact ret_s [[], flashG p q s] rfl (Sub.flat rfl) ⟨_, [], rfl, rfl, Sl.nil⟩ | skip
end Go.Proofs.Ytnohdfhhdppflaa
