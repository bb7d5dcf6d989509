/- Slots, walked: with the hash. -/
import Derived.Test.YtnohdfhhdppflaaSlotW
import Derived.Test.YtnohdfhhdppflaaShaW2
namespace Go.Proofs.Ytnohdfhhdppflaa
open Go Go.Vc Go.Fl
set_option linter.unusedVariables false
set_option linter.unusedSimpArgs false
set_option maxRecDepth 100000
set_option maxHeartbeats 4000000
namespace FaSlotW2
theorem ca_11 : callable Try.prog 11 = true := by kernel_rfl
theorem ca_37 : callable Try.prog 37 = true := by kernel_rfl
theorem ca_41 : callable Try.prog 41 = true := by kernel_rfl
theorem ca_46 : callable Try.prog 46 = true := by kernel_rfl
theorem fo_37_1 : fieldOff Try.prog 37 1 = some 1 := by kernel_rfl
theorem fo_37_2 : fieldOff Try.prog 37 2 = some 2 := by kernel_rfl
theorem many_37 : isMany Try.prog 37 = true := by kernel_rfl
theorem one_22 : isOne Try.prog 22 = true := by kernel_rfl
theorem one_3 : isOne Try.prog 3 = true := by kernel_rfl
theorem pl_37 : ∀ w, ((structF Try.prog 37).mapM fun f => do pure (f.offset, ← sizeOf f.type) : Sem (Array (Nat × Nat))).run Try.prog w = .ok #[(0, 1), (1, 1), (2, 1)] w := fun w => by kernel_rfl
theorem sf_37 : Try.prog.underlying 37 = some (.struct (structF Try.prog 37)) := by kernel_rfl
theorem sl_22 : sliceOf Try.prog 22 = some (5, 1) := by kernel_rfl
theorem sz_37 : sz Try.prog 37 = some 3 := by kernel_rfl
theorem zero_37 : zeroOf Try.prog 37 = some (.agg #[(.int .u32 0), (.int .i64 0), (.slice none 0 0)]) := by kernel_rfl
instance : Fb (callable Try.prog 11) := ⟨ca_11⟩
instance : Fb (callable Try.prog 37) := ⟨ca_37⟩
instance : Fb (callable Try.prog 41) := ⟨ca_41⟩
instance : Fb (callable Try.prog 46) := ⟨ca_46⟩
instance : Ft (fieldOff Try.prog 37 1) (1) := ⟨fo_37_1⟩
instance : Ft (fieldOff Try.prog 37 2) (2) := ⟨fo_37_2⟩
instance : Fb (isMany Try.prog 37) := ⟨many_37⟩
instance : Fb (isOne Try.prog 22) := ⟨one_22⟩
instance : Fb (isOne Try.prog 3) := ⟨one_3⟩
instance : Ft (Try.prog.underlying 37) (.struct (structF Try.prog 37)) := ⟨sf_37⟩
instance : Ft (sliceOf Try.prog 22) (5, 1) := ⟨sl_22⟩
instance : Ft (sz Try.prog 37) (3) := ⟨sz_37⟩
instance : Ft (zeroOf Try.prog 37) (.agg #[(.int .u32 0), (.int .i64 0), (.slice none 0 0)]) := ⟨zero_37⟩
end FaSlotW2
attribute [local irreducible] PV OpW WL WM WH WZ W C Has RoOk

theorem of_c (ver : Int) (a : Option Addr) (c : Nat) (xs : List (BitVec 8)) (hl : xs.length ≤ 100000) (ro : RO) (hs : SlR v8 (.slice a xs.length c) xs ro) : C Try.prog 15 #[.int .u32 ver, .slice a xs.length c] ro [] fun v own => ∃ hv g, v = .tuple #[(slotOf ver xs).V hv, .bool (may xs.length)] ∧ own = [g] ∧ Sl v8 5 hv (slotOf ver xs).hash g := by
  refine c_of_w2 (n := 16) Try.func15 rfl rfl rfl (by rfl) fun E => ?_
  repeat' (first | ((with_reducible refine g_wl ?_); (first | refine kN ?_ | ((with_reducible refine g_mv ?_); (first | refine kp (pvm_move_s rfl) ?_ | refine kp pv_move ?_)) | ((with_reducible refine g_as ?_); (refine kp (pvm_assign_b rfl) ?_)) | ((with_reducible refine g_st ?_); (first | refine kn (opw_storeS 0 0 FaSlotW2.sz_37 rfl rfl rfl rfl rfl rfl rfl (noFr_zero _ _) ?_) | refine kn (opw_storeS 1 0 FaSlotW2.sz_37 rfl rfl rfl rfl rfl rfl rfl (noFr_zero _ _) ?_))) | ((with_reducible refine g_cb .len ?_); refine kp (pv_len_slice Ft.h rfl) ?_) | ((with_reducible refine g_cf 37 ?_); (refine kd (opw_call Fb.h rfl [] (may_c _ _ _ (by omega) _) RoOk.self (fun v own h => ?_)); obtain ⟨rfl, rfl⟩ := h)) | ((with_reducible refine g_cf 46 ?_); (refine kd (opw_call Fb.h rfl [] (sum_c a c xs hl _ hs) RoOk.self (fun v own h => ?_)); obtain ⟨g, rfl, hg⟩ := h; obtain ⟨a2, c2, rfl, hle⟩ := hg.slice)) | refine kp (pv_build_structL (fs := structF Try.prog 37) FaSlotW2.sf_37 FaSlotW2.zero_37 FaSlotW2.pl_37 rfl) ?_ | refine kd (d := 4) (opw_alloc FaSlotW2.zero_37 fun b4 => ?_) | refine kp (pv_not rfl) ?_)) | with_reducible refine w_seq ?_ | with_reducible refine thenP_n ?_ | with_reducible refine thenP_r ?_ | with_reducible refine w_skip ?_ | with_reducible refine w_ret ?_ | (refine w_cond_ndec rfl (fun _ => ?_) (fun _ => ?_) <;> try (exfalso; omega)) | refine wr rfl ?_)
  · have hm : ¬ (1 ≤ xs.length ∧ xs.length ≤ 512) := ‹_›
    have hm' : may xs.length = false := by unfold may; rw [decide_eq_false hm]
    have e : slotOf ver xs = ⟨0, 0, []⟩ := by unfold slotOf; rw [hm']; rfl
    rw [e, hm']
    exact ret_s (v := .tuple #[.agg #[.int .u32 0, .int .i64 0, .slice none 0 0], .bool false]) [[]] (res_cell2 [.int .u32 0, .int .i64 0, .slice none 0 0] 0 0 rfl FaSlotW2.many_37 FaSlotW2.sz_37 rfl rfl rfl) (Sub.pk' [] rfl) ⟨_, [], rfl, rfl, Sl.nil⟩
  · have hm : (1 ≤ xs.length ∧ xs.length ≤ 512) := ‹_›
    have hm' : may xs.length = true := by unfold may; rw [decide_eq_true hm]
    have e : slotOf ver xs = ⟨ver, xs.length, Sha.sha xs⟩ := by unfold slotOf; rw [hm']; rfl
    rw [e, hm']
    exact ret_s (v := .tuple #[.agg #[.int .u32 ver, .int .i64 xs.length, .slice a2 (Sha.sha xs).length c2], .bool true]) [g] (res_cell2 [.int .u32 ver, .int .i64 xs.length, .slice a2 (Sha.sha xs).length c2] 1 0 rfl FaSlotW2.many_37 FaSlotW2.sz_37 rfl rfl rfl) (Sub.pk' [0] rfl) ⟨_, g, rfl, rfl, hg⟩
theorem right_c (p q : Nat) (s : Fs) (hb : 3584 ≤ s.b.length) (slot : Int) (r : SlotR) (a : Option Addr) (c : Nat) (hl : r.hash.length ≤ 100000) (ro : RO) (hs : SlR v8 (.slice a r.hash.length c) r.hash ro) : C Try.prog 16 #[.pointer (some ⟨p, 0, none⟩), .int .i64 slot, r.V (.slice a r.hash.length c)] ro [flashG p q s] fun v own => v = .bool (s.right slot r) ∧ own = [flashG p q s] := by
  have hrl := s.sRead_len slot r.len
  refine c_of_w2 (n := 29) Try.func16 rfl rfl rfl (by rfl) fun E => ?_
  repeat' (first | ((with_reducible refine g_wl ?_); (first | refine kN ?_ | ((with_reducible refine g_mv ?_); (first | refine kp (pvm_move_p rfl) ?_ | refine kp (pvm_move_t rfl) ?_ | refine kp (pvm_move_i rfl) ?_)) | ((with_reducible refine g_as ?_); (first | refine kp (pvm_assign_b rfl) ?_ | refine kp (pvm_assign_s rfl) ?_ | refine kp (pvm_assign_i rfl) ?_)) | ((with_reducible refine g_bo ?_); refine kp (pv_lss rfl rfl) ?_) | ((with_reducible refine g_ld ?_); (refine kd (opw_load Fb.h rfl (Has.own 1 0 rfl rfl) ?_))) | ((with_reducible refine g_cf 11 ?_); (refine kd (opw_call Fb.h rfl [0] (sRead_c p q s hb slot _ _) RoOk.self (fun v own h => ?_)); obtain ⟨bv, g, rfl, rfl, hg⟩ := h; obtain ⟨a2, c2, rfl, hle⟩ := hg.slice; obtain ⟨r2, hr2, hok2⟩ := hg.ro)) | refine kp (pv_fieldAddr Ft.h rfl) ?_ | refine kp (pv_extract rfl rfl) ?_ | refine kd (d := 5) (opw_box fun b5 => ?_))) | with_reducible refine w_seq ?_ | with_reducible refine thenP_n ?_ | with_reducible refine thenP_r ?_ | with_reducible refine w_skip ?_ | with_reducible refine w_ret ?_ | (refine w_cond_dec rfl (fun _ => ?_) (fun _ => ?_) <;> try (exfalso; omega)) | (refine w_draw (id := 4) [] (hold [(b5, .cells #[.int .u32 r.ver, .int .i64 r.len, .slice a r.hash.length c] 37 (0, 0))]) Fa.mixed (hold_one 2 0 rfl) ?_; all_goals (refine wh_pure 0 rfl (by kernel_rfl) rfl rfl (pvm_move_i rfl) ?_); all_goals (refine wh_pure 1 rfl (by kernel_rfl) rfl rfl (pv_eql rfl rfl) ?_); all_goals (refine wh_pure 2 rfl (by kernel_rfl) rfl rfl (pvm_move_b rfl) ?_); all_goals ((refine wh_split 3 rfl rfl rfl rfl (fun _ => ?_) (fun _ => ?_)) <;> (first | (refine wh_skip 3 rfl (by kernel_rfl) rfl rfl ?_) | (refine wh_pure 3 rfl (by kernel_rfl) rfl rfl (pvm_move_s rfl) ?_))); all_goals (first | (refine wh_skip 5 rfl (by kernel_rfl) rfl rfl ?_) | (refine wh_pure 5 rfl (by kernel_rfl) rfl rfl (pv_fieldAddr FaSlotW2.fo_37_2 rfl) ?_)); all_goals (first | (refine wh_skip 6 rfl (by kernel_rfl) rfl rfl ?_) | (refine wh_load 6 rfl (by kernel_rfl) rfl rfl FaSlotW2.one_22 rfl (Has.hold 0 rfl rfl) ?_)); all_goals (first | (refine wh_skip 4 rfl (by kernel_rfl) rfl rfl ?_) | (refine wh_do 4 (by kernel_rfl) rfl rfl rfl rfl (opw_call FaSlotW2.ca_46 rfl [] (sum_c a2 c2 _ (by omega) _ hr2) (hok2 _ _ (List.mem_cons_self ..)) (fun v own h => ?_)); obtain ⟨g3, rfl, hg3⟩ := h; obtain ⟨a3, c3, rfl, hle3⟩ := hg3.slice; obtain ⟨r3, hr3, hok3⟩ := hg3.ro; refine ⟨(hold_one 3 0 rfl), ?_⟩)); all_goals (first | (refine wh_skip 7 rfl (by kernel_rfl) rfl rfl ?_) | (refine wh_do 7 (by kernel_rfl) rfl rfl rfl rfl (opw_call FaSlotW2.ca_41 rfl [] (equal8_c a3 a c3 c _ r.hash (by rw [Sha.sha_len]; omega) (by omega) (r3 ++ ro) (hr3.mono (fun _ h => List.mem_append_left _ h)) (hs.mono (fun _ h => List.mem_append_right _ h))) (RoOk.append (hok3 _ _ (List.mem_cons_self ..)) RoOk.self) (fun v own h => ?_)); obtain ⟨rfl, rfl⟩ := h; refine ⟨(hold_one 3 0 rfl), ?_⟩)); all_goals (first | (refine wh_pure 8 rfl (by kernel_rfl) rfl rfl (pvk_t_b rfl rfl) ?_) | (refine wh_pure 8 rfl (by kernel_rfl) rfl rfl (pvk_f_b rfl rfl) ?_)); all_goals (refine wh_pure 9 rfl (by kernel_rfl) rfl rfl (pvm_assign_b rfl) ?_); all_goals (refine wh_done (by kernel_rfl) ?_)) | refine wr rfl ?_)
  · have hlt : r.len < 1 := ‹_›
    refine ret_s (v := .bool _) [flashG p q s] rfl (Sub.pk' [0] rfl) ⟨?_, rfl⟩
    unfold Fs.right; rw [decide_eq_false (by omega)]; rfl
  · have hlt : ¬ r.len < 1 := ‹_›
    have h0 : decide ((s.sRead slot r.len).2 = 0) = true := ‹_›
    refine ret_s (v := .bool (decide (Sha.sha (s.sRead slot r.len).1 = r.hash))) [flashG p q s] rfl (Sub.pk' [2] rfl) ⟨?_, rfl⟩
    unfold Fs.right; rw [decide_eq_true (show 1 ≤ r.len by omega), h0]; rfl
  · have hlt : ¬ r.len < 1 := ‹_›
    have h0 : decide ((s.sRead slot r.len).2 = 0) = false := ‹_›
    refine ret_s (v := .bool false) [flashG p q s] rfl (Sub.pk' [1] rfl) ⟨?_, rfl⟩
    unfold Fs.right; rw [h0]; simp
end Go.Proofs.Ytnohdfhhdppflaa
