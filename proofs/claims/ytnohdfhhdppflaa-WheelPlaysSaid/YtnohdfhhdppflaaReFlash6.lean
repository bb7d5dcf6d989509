/- The reference's flash and slots, walked: clear, NewFlash, SlotOf, ReadSlot. -/
import Derived.Test.YtnohdfhhdppflaaReFlash5
import Derived.Test.YtnohdfhhdppflaaRefW2
namespace Go.Proofs.Ytnohdfhhdppflaa
open Go Go.Vc Go.Fl
set_option linter.unusedVariables false
set_option linter.unusedSimpArgs false
set_option maxRecDepth 100000
set_option maxHeartbeats 4000000
namespace FaReFlash6
theorem ca_17 : callable Try.prog 17 = true := by kernel_rfl
theorem ca_52 : callable Try.prog 52 = true := by kernel_rfl
theorem ca_53 : callable Try.prog 53 = true := by kernel_rfl
theorem ca_64 : callable Try.prog 64 = true := by kernel_rfl
theorem ca_78 : callable Try.prog 78 = true := by kernel_rfl
theorem ei_5 : elemInfo Try.prog 5 = some (1, 1, (.int .u8 0)) := by kernel_rfl
theorem fo_53_0 : fieldOff Try.prog 53 0 = some 0 := by kernel_rfl
theorem many_37 : isMany Try.prog 37 = true := by kernel_rfl
theorem one_22 : isOne Try.prog 22 = true := by kernel_rfl
theorem pl_37 : ∀ w, ((structF Try.prog 37).mapM fun f => do pure (f.offset, ← sizeOf f.type) : Sem (Array (Nat × Nat))).run Try.prog w = .ok #[(0, 1), (1, 1), (2, 1)] w := fun w => by kernel_rfl
theorem pl_53 : ∀ w, ((structF Try.prog 53).mapM fun f => do pure (f.offset, ← sizeOf f.type) : Sem (Array (Nat × Nat))).run Try.prog w = .ok #[(0, 1), (1, 1), (2, 14), (16, 1), (17, 1), (18, 1), (19, 1), (20, 1)] w := fun w => by kernel_rfl
theorem sf_37 : Try.prog.underlying 37 = some (.struct (structF Try.prog 37)) := by kernel_rfl
theorem sf_53 : Try.prog.underlying 53 = some (.struct (structF Try.prog 53)) := by kernel_rfl
theorem sl_22 : sliceOf Try.prog 22 = some (5, 1) := by kernel_rfl
theorem sz_37 : sz Try.prog 37 = some 3 := by kernel_rfl
theorem sz_5 : sz Try.prog 5 = some 1 := by kernel_rfl
theorem zero_37 : zeroOf Try.prog 37 = some (.agg #[(.int .u32 0), (.int .i64 0), (.slice none 0 0)]) := by kernel_rfl
theorem zero_53 : zeroOf Try.prog 53 = some (.agg #[(.slice none 0 0), (.int .i64 0), (.int .i64 0), (.int .i64 0), (.int .i64 0), (.int .i64 0), (.int .i64 0), (.int .i64 0), (.int .i64 0), (.int .i64 0), (.int .i64 0), (.int .i64 0), (.int .i64 0), (.int .i64 0), (.int .i64 0), (.int .i64 0), (.bool false), (.int .i64 0), (.bool false), (.int .i64 0), (.int .i64 0)]) := by kernel_rfl
instance : Fb (callable Try.prog 17) := ⟨ca_17⟩
instance : Fb (callable Try.prog 52) := ⟨ca_52⟩
instance : Fb (callable Try.prog 53) := ⟨ca_53⟩
instance : Fb (callable Try.prog 64) := ⟨ca_64⟩
instance : Fb (callable Try.prog 78) := ⟨ca_78⟩
instance : Ft (elemInfo Try.prog 5) (1, 1, (.int .u8 0)) := ⟨ei_5⟩
instance : Ft (fieldOff Try.prog 53 0) (0) := ⟨fo_53_0⟩
instance : Fb (isMany Try.prog 37) := ⟨many_37⟩
instance : Fb (isOne Try.prog 22) := ⟨one_22⟩
instance : Ft (Try.prog.underlying 37) (.struct (structF Try.prog 37)) := ⟨sf_37⟩
instance : Ft (Try.prog.underlying 53) (.struct (structF Try.prog 53)) := ⟨sf_53⟩
instance : Ft (sliceOf Try.prog 22) (5, 1) := ⟨sl_22⟩
instance : Ft (sz Try.prog 37) (3) := ⟨sz_37⟩
instance : Ft (sz Try.prog 5) (1) := ⟨sz_5⟩
instance : Ft (zeroOf Try.prog 37) (.agg #[(.int .u32 0), (.int .i64 0), (.slice none 0 0)]) := ⟨zero_37⟩
instance : Ft (zeroOf Try.prog 53) (.agg #[(.slice none 0 0), (.int .i64 0), (.int .i64 0), (.int .i64 0), (.int .i64 0), (.int .i64 0), (.int .i64 0), (.int .i64 0), (.int .i64 0), (.int .i64 0), (.int .i64 0), (.int .i64 0), (.int .i64 0), (.int .i64 0), (.int .i64 0), (.int .i64 0), (.bool false), (.int .i64 0), (.bool false), (.int .i64 0), (.int .i64 0)]) := ⟨zero_53⟩
end FaReFlash6
attribute [local irreducible] PV OpW WL WM WH WZ W C Has RoOk

theorem clearR_c (p q : Nat) (s t : Fs) (h : Rel s t) (k : Int) (hk : -1000 ≤ k ∧ k ≤ 1000) (ro : RO) : C Try.prog 51 #[.pointer (some ⟨p, 0, none⟩), .int .i64 k] ro [refG p q t] fun v own => ∃ t', v = .int .i64 (s.clr k).2 ∧ own = [refG p q t'] ∧ Rel (s.clr k).1 t' := by
  refine c_of_w2 (n := 12) Try.func51 rfl rfl rfl (by rfl) fun E => ?_
  repeat' (first | ((with_reducible refine g_wl ?_); (first | refine kN ?_ | ((with_reducible refine g_mv ?_); (first | refine kp (pvm_move_p rfl) ?_ | refine kp (pvm_move_i rfl) ?_)) | ((with_reducible refine g_as ?_); (refine kp (pvm_assign_i rfl) ?_)) | ((with_reducible refine g_bo ?_); (refine kp (pv_imul rfl rfl (by omega)) ?_)) | ((with_reducible refine g_cf 64 ?_); (refine kd (opw_call Fb.h rfl [0] (blankR_c p q s t h _ 256 _) RoOk.self (fun v own h => ?_)); obtain ⟨rfl, rfl⟩ := h)) | ((with_reducible refine g_cf 78 ?_); (refine kd (opw_call Fb.h rfl [0] (eraseR_c p q s t h k _) RoOk.self (fun v own h => ?_)); obtain ⟨t', rfl, rfl, hrel'⟩ := h)))) | with_reducible refine w_seq ?_ | with_reducible refine thenP_n ?_ | with_reducible refine thenP_r ?_ | with_reducible refine w_skip ?_ | with_reducible refine w_ret ?_ | refine w_cond rfl (fun _ => ?_) (fun _ => ?_) | refine wr rfl ?_)
  · have hb : s.blank (k * 256) 256 = true := ‹_›
    have e : s.clr k = (s, 0) := if_pos hb
    rw [e]
    exact ret_r (v := .int .i64 _) rfl ⟨t, rfl, rfl, h⟩
  · have hb : s.blank (k * 256) 256 = false := ‹_›
    have e : s.clr k = s.erase k := if_neg (by simp [hb])
    rw [e]
    exact ret_r (v := .int .i64 _) rfl ⟨t', rfl, rfl, hrel'⟩
theorem newR_c (wear : Int) (ro : RO) : C Try.prog 18 #[.int .i64 wear] ro [] fun v own => ∃ p q, v = .pointer (some ⟨p, 0, none⟩) ∧ own = [refG p q (Fs.new wear (List.replicate 3584 255#8))] := by
  refine c_of_w2 (n := 27) Try.func18 rfl rfl rfl (by rfl) fun E => ?_
  repeat' (first | ((with_reducible refine g_wl ?_); (first | refine kN ?_ | ((with_reducible refine g_mv ?_); (first | refine kp (pvm_move_p rfl) ?_ | refine kp (pvm_move_i rfl) ?_)) | ((with_reducible refine g_as ?_); (refine kp (pvm_assign_p rfl) ?_)) | ((with_reducible refine g_ld ?_); (refine kd (opw_load Fb.h rfl (Has.own 1 0 rfl rfl) ?_))) | ((with_reducible refine g_cb .len ?_); refine kp (pv_len_slice Ft.h rfl) ?_) | ((with_reducible refine g_cb .max ?_); refine kp (pv_max rfl rfl) ?_) | ((with_reducible refine g_cb .min ?_); refine kp (pv_min rfl rfl) ?_) | refine kp (pv_build_structL (fs := structF Try.prog 53) FaReFlash6.sf_53 FaReFlash6.zero_53 FaReFlash6.pl_53 rfl) ?_ | refine kp (pv_nilCheck rfl) ?_ | refine kp (pv_fieldAddr Ft.h rfl) ?_ | refine kd (d := 5) (opw_make (f := v8) FaReFlash6.sl_22 FaReFlash6.ei_5 0 rfl rfl rfl rfl (by omega) (by omega) (by omega) fun b5 => ?_) | refine kd (d := 10) (opw_box fun b10 => ?_))) | with_reducible refine w_seq ?_ | with_reducible refine thenP_n ?_ | with_reducible refine w_block ?_ | refine wr rfl ?_)
  refine w_sub (own' := [refG b10 b5 (Fs.new wear (fill255 (List.replicate 3584 0#8) 0 0))]) (Sub.pk' [1, 0] rfl) ?_
  refine w_loop2 (ι := Nat) (fun i ρ ro' own => i ≤ 3584 ∧ Kn [(3, .pointer (some ⟨b10, 0, none⟩)), (15, .int .i64 3584), (16, .int .i64 i)] ρ ∧ ro' = ro ∧ own = [refG b10 b5 (Fs.new wear (fill255 (List.replicate 3584 0#8) 0 i))]) (fun i => 3584 - i) 0 ⟨Nat.zero_le _, ⟨rfl, rfl, rfl, trivial⟩, rfl, rfl⟩ ?_
  rintro i ρ ro' own ⟨hi, hk, rfl, rfl⟩
  obtain ⟨ρ', rfl⟩ := hk.ex
  by_cases hlt : i < 3584
  · have hl : (fill255 (List.replicate 3584 0#8) 0 i).length = 3584 := by rw [fill255_len _ _ _ (by rw [List.length_replicate]; omega), List.length_replicate]
    repeat' (first | ((with_reducible refine g_wl ?_); (first | refine kN ?_ | ((with_reducible refine g_mv ?_); (first | refine kp (pvm_move_p rfl) ?_ | refine kp (pvm_move_i rfl) ?_)) | ((with_reducible refine g_as ?_); (refine kp (pvm_assign_i rfl) ?_)) | ((with_reducible refine g_bo ?_); (first | refine kp (pv_iadd rfl rfl (by omega)) ?_ | refine kp (pv_lss rfl rfl) ?_)) | ((with_reducible refine g_ld ?_); (refine kd (opw_load Fb.h rfl (Has.own 0 0 rfl rfl) ?_))) | ((with_reducible refine g_st ?_); (refine kn (opw_storeArr (f := v8) i 0 1 Ft.h rfl (v8_lit 255 rfl (by omega)) rfl rfl rfl (by omega) (by show _ < (fill255 (List.replicate 3584 0#8) 0 i).length; omega) ?_))) | refine kp (pv_nilCheck rfl) ?_ | refine kp (pv_fieldAddr Ft.h rfl) ?_ | refine kp (pv_indexAddr1 FaReFlash6.sl_22 rfl rfl (by omega) (by omega)) ?_)) | with_reducible refine w_seq ?_ | with_reducible refine thenP_n ?_ | with_reducible refine blockP_n ?_ | with_reducible refine w_skip ?_ | with_reducible refine w_block ?_ | (refine w_cond_dec rfl (fun _ => ?_) (fun _ => ?_) <;> try (exfalso; omega)) | refine wr (id := 3) rfl ?_ | refine wr (id := 4) rfl ?_ | refine wr (id := 5) rfl ?_ | refine wr (id := 6) rfl ?_)
    refine ⟨i + 1, _, Sub.refl, ⟨hlt, ⟨rfl, rfl, rfl, trivial⟩, rfl, ?_⟩, by omega⟩
    have := fill255_succ (List.replicate 3584 0#8) 0 i (by rw [List.length_replicate]; omega)
    rw [Nat.zero_add] at this
    show [refG b10 b5 (Fs.new wear ((fill255 (List.replicate 3584 0#8) 0 i).set i 255#8))] = _
    rw [this]
  · obtain rfl : i = 3584 := by omega
    repeat' (first | ((with_reducible refine g_wl ?_); (first | refine kN ?_ | ((with_reducible refine g_mv ?_); (refine kp (pvm_move_p rfl) ?_)) | ((with_reducible refine g_as ?_); (refine kp (pvm_assign_p rfl) ?_)) | ((with_reducible refine g_bo ?_); refine kp (pv_lss rfl rfl) ?_))) | with_reducible refine w_seq ?_ | with_reducible refine thenP_n ?_ | with_reducible refine thenP_x ?_ | with_reducible refine blockP_eq ?_ | with_reducible refine w_ret ?_ | with_reducible refine w_exit ?_ | refine w_cond_false rfl ?_ | refine wr (id := 3) rfl ?_ | refine wr (id := 7) rfl ?_)
    have e : fill255 (List.replicate 3584 0#8) 0 3584 = List.replicate 3584 255#8 := by
      unfold fill255; rw [List.take_zero, List.nil_append, List.drop_of_length_le (by rw [List.length_replicate]; omega), List.append_nil]
    rw [e]
    exact ret_r rfl ⟨b10, b5, rfl, rfl⟩
theorem placeR_c (k : Int) (hk : -1000 ≤ k ∧ k ≤ 1000) (ro : RO) : C Try.prog 52 #[.int .i64 k] ro [] fun v own => v = .int .i64 ((2 + k * 2) * 256) ∧ own = [] := by
  refine c_of_w2 (n := 7) Try.func52 rfl rfl rfl (by rfl) fun E => ?_
  repeat' (first | ((with_reducible refine g_wl ?_); (first | refine kN ?_ | ((with_reducible refine g_mv ?_); (refine kp (pvm_move_i rfl) ?_)) | ((with_reducible refine g_as ?_); (refine kp (pvm_assign_i rfl) ?_)) | ((with_reducible refine g_bo ?_); (first | refine kp (pv_imul rfl rfl (by omega)) ?_ | refine kp (pv_iadd rfl rfl (by omega)) ?_)))) | with_reducible refine w_seq ?_ | with_reducible refine thenP_n ?_ | with_reducible refine w_ret ?_ | refine wr rfl ?_)
  exact ret_r rfl ⟨by rw [show 2 * k = k * 2 by omega]; rfl, rfl⟩
theorem readSlotR_c (p q : Nat) (s t : Fs) (h : Rel s t) (slot n : Int) (ro : RO) : C Try.prog 21 #[.pointer (some ⟨p, 0, none⟩), .int .i64 slot, .int .i64 n] ro [refG p q t] fun v own => ∃ bv g, v = .tuple #[bv, .int .i64 (s.sRead slot n).2] ∧ own = [g, refG p q t] ∧ Sl v8 5 bv (s.sRead slot n).1 g := by
  by_cases hr : slotNo slot n
  · rw [show s.sRead slot n = ([], 1) from if_pos hr]
    unfold slotNo at hr
    refine c_of_w2 (n := 29) Try.func21 rfl rfl rfl (by rfl) fun E => ?_
    repeat' (first | ((with_reducible refine g_wl ?_); (first | refine kN ?_ | ((with_reducible refine g_gd ?_); (first | refine kg rfl ?_ | refine ks rfl ?_ | refine kc rfl rfl rfl (fun _ => ?_) (fun _ => ?_))) | ((with_reducible refine g_mv ?_); (first | refine kp (pvm_move_b rfl) ?_ | refine kp (pvm_move_i rfl) ?_)) | ((with_reducible refine g_as ?_); (first | refine kp (pvm_assign_s rfl) ?_ | refine kp (pvm_assign_i rfl) ?_)) | ((with_reducible refine g_pk ?_); (first | refine kp (pvk_t_b rfl rfl) ?_ | refine kp (pvk_f_b rfl rfl) ?_)) | ((with_reducible refine g_bo ?_); (first | refine kp (pv_lss rfl rfl) ?_ | refine kp (pv_gtr rfl rfl) ?_)))) | with_reducible refine w_seq ?_ | with_reducible refine thenP_n ?_ | with_reducible refine thenP_r ?_ | with_reducible refine w_ret ?_ | refine w_cond_true rfl ?_ | (refine w_cond_dec rfl (fun _ => ?_) (fun _ => ?_) <;> try (exfalso; omega)) | refine wr (id := 0) rfl ?_ | refine wr (id := 1) rfl ?_ | refine wr (id := 2) rfl ?_)
    all_goals first | (exfalso; omega) | exact ret_s [[], refG p q t] rfl (Sub.flat rfl) ⟨_, [], rfl, rfl, Sl.nil⟩
  · rw [show s.sRead slot n = s.read ((2 + slot * 2) * 256) n from if_neg hr]
    unfold slotNo at hr
    refine c_of_w2 (n := 29) Try.func21 rfl rfl rfl (by rfl) fun E => ?_
    repeat' (first | ((with_reducible refine g_wl ?_); (first | refine kN ?_ | ((with_reducible refine g_gd ?_); (first | refine kg rfl ?_ | refine ks rfl ?_ | refine kc rfl rfl rfl (fun _ => ?_) (fun _ => ?_))) | ((with_reducible refine g_mv ?_); (first | refine kp (pvm_move_b rfl) ?_ | refine kp (pvm_move_p rfl) ?_ | refine kp (pvm_move_i rfl) ?_)) | ((with_reducible refine g_as ?_); (first | refine kp (pvm_assign_s rfl) ?_ | refine kp (pvm_assign_i rfl) ?_ | refine kp pv_assign ?_)) | ((with_reducible refine g_pk ?_); (first | refine kp (pvk_t_b rfl rfl) ?_ | refine kp (pvk_f_b rfl rfl) ?_)) | ((with_reducible refine g_bo ?_); (first | refine kp (pv_lss rfl rfl) ?_ | refine kp (pv_gtr rfl rfl) ?_)) | ((with_reducible refine g_cf 52 ?_); (refine kd (opw_call Fb.h rfl [] (placeR_c slot (by omega) _) RoOk.self (fun v own h => ?_)); obtain ⟨rfl, rfl⟩ := h)) | ((with_reducible refine g_cf 53 ?_); (refine kd (opw_call Fb.h rfl [0] (readR_c p q s t h _ n (.inr trivial) _) RoOk.self (fun v own h => ?_)); obtain ⟨bv, g, rfl, rfl, hg⟩ := h)) | refine kp (pv_extract rfl rfl) ?_)) | with_reducible refine w_seq ?_ | with_reducible refine thenP_n ?_ | with_reducible refine thenP_r ?_ | with_reducible refine w_skip ?_ | with_reducible refine w_ret ?_ | refine w_cond_true rfl ?_ | (refine w_cond_dec rfl (fun _ => ?_) (fun _ => ?_) <;> try (exfalso; omega)) | refine wr rfl ?_)
    all_goals first | (exfalso; omega) | exact ret_r rfl ⟨_, _, rfl, rfl, ‹_›⟩
theorem slotOfR_c (ver : Int) (a : Option Addr) (c : Nat) (xs : List (BitVec 8)) (hl : xs.length ≤ 100000) (ro : RO) (hs : SlR v8 (.slice a xs.length c) xs ro) : C Try.prog 19 #[.int .u32 ver, .slice a xs.length c] ro [] fun v own => ∃ hv g, v = .tuple #[(slotOf ver xs).V hv, .bool (may xs.length)] ∧ own = [g] ∧ Sl v8 5 hv (slotOf ver xs).hash g := by
  refine c_of_w2 (n := 21) Try.func19 rfl rfl rfl (by rfl) fun E => ?_
  by_cases hm : 1 ≤ xs.length ∧ xs.length ≤ 512
  · have hm' : may xs.length = true := by unfold may; rw [decide_eq_true hm]
    have e : slotOf ver xs = ⟨ver, xs.length, Sha.sha xs⟩ := by unfold slotOf; rw [hm']; rfl
    rw [e, hm']
    repeat' (first | ((with_reducible refine g_wl ?_); (first | refine kN ?_ | ((with_reducible refine g_gd ?_); (first | refine kg rfl ?_ | refine ks rfl ?_ | refine kc rfl rfl rfl (fun _ => ?_) (fun _ => ?_))) | ((with_reducible refine g_mv ?_); (first | refine kp (pvm_move_s rfl) ?_ | refine kp (pvm_move_b rfl) ?_ | refine kp pv_move ?_)) | ((with_reducible refine g_as ?_); (refine kp (pvm_assign_b rfl) ?_)) | ((with_reducible refine g_pk ?_); (first | refine kp (pvk_t_b rfl rfl) ?_ | refine kp (pvk_f_b rfl rfl) ?_)) | ((with_reducible refine g_bo ?_); (first | refine kp (pv_lss rfl rfl) ?_ | refine kp (pv_gtr rfl rfl) ?_)) | ((with_reducible refine g_st ?_); (first | refine kn (opw_storeS 0 0 FaReFlash6.sz_37 rfl rfl rfl rfl rfl rfl rfl (noFr_zero _ _) ?_) | refine kn (opw_storeS 1 0 FaReFlash6.sz_37 rfl rfl rfl rfl rfl rfl rfl (noFr_zero _ _) ?_))) | ((with_reducible refine g_cb .len ?_); refine kp (pv_len_slice Ft.h rfl) ?_) | ((with_reducible refine g_cf 17 ?_); (refine kd (opw_call Fb.h rfl [] (digest_c a c xs hl _ hs) RoOk.self (fun v own h => ?_)); obtain ⟨g, rfl, hg⟩ := h; obtain ⟨a2, c2, rfl, hle⟩ := hg.slice)) | refine kp (pv_build_structL (fs := structF Try.prog 37) FaReFlash6.sf_37 FaReFlash6.zero_37 FaReFlash6.pl_37 rfl) ?_ | refine kd (d := 4) (opw_alloc FaReFlash6.zero_37 fun b4 => ?_))) | with_reducible refine w_seq ?_ | with_reducible refine thenP_n ?_ | with_reducible refine thenP_r ?_ | with_reducible refine w_skip ?_ | with_reducible refine w_ret ?_ | refine w_cond_true rfl ?_ | (refine w_cond_dec rfl (fun _ => ?_) (fun _ => ?_) <;> try (exfalso; omega)) | refine wr rfl ?_)
    all_goals first
      | (exfalso; omega)
      | exact ret_s (v := .tuple #[.agg #[.int .u32 ver, .int .i64 xs.length, .slice a2 (Sha.sha xs).length c2], .bool true]) [g] (res_cell2 [.int .u32 ver, .int .i64 xs.length, .slice a2 (Sha.sha xs).length c2] 1 0 rfl FaReFlash6.many_37 FaReFlash6.sz_37 rfl rfl rfl) (Sub.pk' [0] rfl) ⟨_, g, rfl, rfl, hg⟩
  · have hm' : may xs.length = false := by unfold may; rw [decide_eq_false hm]
    have e : slotOf ver xs = ⟨0, 0, []⟩ := by unfold slotOf; rw [hm']; rfl
    rw [e, hm']
    repeat' (first | ((with_reducible refine g_wl ?_); (first | refine kN ?_ | ((with_reducible refine g_gd ?_); (first | refine kg rfl ?_ | refine ks rfl ?_ | refine kc rfl rfl rfl (fun _ => ?_) (fun _ => ?_))) | ((with_reducible refine g_mv ?_); (first | refine kp (pvm_move_s rfl) ?_ | refine kp (pvm_move_b rfl) ?_)) | ((with_reducible refine g_as ?_); (refine kp (pvm_assign_b rfl) ?_)) | ((with_reducible refine g_pk ?_); (first | refine kp (pvk_t_b rfl rfl) ?_ | refine kp (pvk_f_b rfl rfl) ?_)) | ((with_reducible refine g_bo ?_); (first | refine kp (pv_lss rfl rfl) ?_ | refine kp (pv_gtr rfl rfl) ?_)) | ((with_reducible refine g_st ?_); (refine kn (opw_storeS 0 0 FaReFlash6.sz_37 rfl rfl rfl rfl rfl rfl rfl (noFr_zero _ _) ?_))) | ((with_reducible refine g_cb .len ?_); refine kp (pv_len_slice Ft.h rfl) ?_) | refine kp (pv_build_structL (fs := structF Try.prog 37) FaReFlash6.sf_37 FaReFlash6.zero_37 FaReFlash6.pl_37 rfl) ?_ | refine kd (d := 4) (opw_alloc FaReFlash6.zero_37 fun b4 => ?_))) | with_reducible refine w_seq ?_ | with_reducible refine thenP_n ?_ | with_reducible refine thenP_r ?_ | with_reducible refine w_ret ?_ | refine w_cond_true rfl ?_ | (refine w_cond_dec rfl (fun _ => ?_) (fun _ => ?_) <;> try (exfalso; omega)) | refine wr (id := 0) rfl ?_ | refine wr (id := 1) rfl ?_ | refine wr (id := 2) rfl ?_)
    all_goals first
      | (exfalso; omega)
      | exact ret_s (v := .tuple #[.agg #[.int .u32 0, .int .i64 0, .slice none 0 0], .bool false]) [[]] (res_cell2 [.int .u32 0, .int .i64 0, .slice none 0 0] 0 0 rfl FaReFlash6.many_37 FaReFlash6.sz_37 rfl rfl rfl) (Sub.pk' [] rfl) ⟨_, [], rfl, rfl, Sl.nil⟩
end Go.Proofs.Ytnohdfhhdppflaa
