/- Flash's methods, walked. -/
import Derived.Test.YtnohdfhhdppflaaVcFacts
import Derived.Test.YtnohdfhhdppflaaPlain
namespace Go.Proofs.Ytnohdfhhdppflaa
open Go Go.Vc Go.Fl
set_option linter.unusedVariables false
set_option linter.unusedSimpArgs false
set_option maxRecDepth 100000
set_option maxHeartbeats 4000000
namespace FaFlashW
theorem ca_42 : callable Try.prog 42 = true := by kernel_rfl
theorem ca_43 : callable Try.prog 43 = true := by kernel_rfl
theorem ca_74 : callable Try.prog 74 = true := by kernel_rfl
theorem fo_78_2 : fieldOff Try.prog 78 2 = some 0 := by kernel_rfl
theorem fo_80_0 : fieldOff Try.prog 80 0 = some 0 := by kernel_rfl
theorem fo_80_3 : fieldOff Try.prog 80 3 = some 16 := by kernel_rfl
theorem fo_80_4 : fieldOff Try.prog 80 4 = some 17 := by kernel_rfl
theorem fo_80_5 : fieldOff Try.prog 80 5 = some 18 := by kernel_rfl
theorem fo_80_6 : fieldOff Try.prog 80 6 = some 19 := by kernel_rfl
theorem fo_80_7 : fieldOff Try.prog 80 7 = some 20 := by kernel_rfl
theorem one_22 : isOne Try.prog 22 = true := by kernel_rfl
theorem one_3 : isOne Try.prog 3 = true := by kernel_rfl
theorem one_4 : isOne Try.prog 4 = true := by kernel_rfl
theorem one_5 : isOne Try.prog 5 = true := by kernel_rfl
theorem sl_22 : sliceOf Try.prog 22 = some (5, 1) := by kernel_rfl
theorem sz_3 : sz Try.prog 3 = some 1 := by kernel_rfl
theorem sz_4 : sz Try.prog 4 = some 1 := by kernel_rfl
theorem sz_5 : sz Try.prog 5 = some 1 := by kernel_rfl
instance : Fb (callable Try.prog 42) := ⟨ca_42⟩
instance : Fb (callable Try.prog 43) := ⟨ca_43⟩
instance : Fb (callable Try.prog 74) := ⟨ca_74⟩
instance : Ft (fieldOff Try.prog 78 2) (0) := ⟨fo_78_2⟩
instance : Ft (fieldOff Try.prog 80 0) (0) := ⟨fo_80_0⟩
instance : Ft (fieldOff Try.prog 80 3) (16) := ⟨fo_80_3⟩
instance : Ft (fieldOff Try.prog 80 4) (17) := ⟨fo_80_4⟩
instance : Ft (fieldOff Try.prog 80 5) (18) := ⟨fo_80_5⟩
instance : Ft (fieldOff Try.prog 80 6) (19) := ⟨fo_80_6⟩
instance : Ft (fieldOff Try.prog 80 7) (20) := ⟨fo_80_7⟩
instance : Fb (isOne Try.prog 22) := ⟨one_22⟩
instance : Fb (isOne Try.prog 3) := ⟨one_3⟩
instance : Fb (isOne Try.prog 4) := ⟨one_4⟩
instance : Fb (isOne Try.prog 5) := ⟨one_5⟩
instance : Ft (sliceOf Try.prog 22) (5, 1) := ⟨sl_22⟩
instance : Ft (sz Try.prog 3) (1) := ⟨sz_3⟩
instance : Ft (sz Try.prog 4) (1) := ⟨sz_4⟩
instance : Ft (sz Try.prog 5) (1) := ⟨sz_5⟩
instance : Ft (Try.prog.underlying 3) (.int .i64) := ⟨Try.underlying3⟩
instance : Ft (Try.prog.underlying 5) (.int .u8) := ⟨Try.underlying5⟩
instance : Ft (Try.prog.underlying 25) (.pointer 80) := ⟨Try.underlying25⟩
end FaFlashW
attribute [local irreducible] PV OpW WL WM WH WZ W C Has RoOk

def flashObj (q : Nat) (s : Fs) : Obj := .cells #[.slice (some ⟨q, 0, none⟩) 3584 3584, .int .i64 (s.er 0), .int .i64 (s.er 1), .int .i64 (s.er 2), .int .i64 (s.er 3), .int .i64 (s.er 4), .int .i64 (s.er 5), .int .i64 (s.er 6), .int .i64 (s.er 7), .int .i64 (s.er 8), .int .i64 (s.er 9), .int .i64 (s.er 10), .int .i64 (s.er 11), .int .i64 (s.er 12), .int .i64 (s.er 13),
  .int .i64 s.wear, .bool s.down, .bool s.fused, .int .i64 s.left, .int .i64 s.torn, .int .i64 s.steps] 80 (0, 0)
def flashG (p q : Nat) (s : Fs) : Blks := [(p, flashObj q s), (q, arr v8 5 s.b)]

theorem addInt64 : IsExt Try.prog 87 (Extern.Atomic.update (Op.intArith .add) .i64 true) := ⟨_, Try.func87, by kernel_rfl, by kernel_rfl, by kernel_rfl, by kernel_rfl⟩

theorem int64Add_c (p q : Nat) (s : Fs) (ro : RO) : C Try.prog 74 #[.pointer (some ⟨p, 20, none⟩), .int .i64 1] ro [flashG p q s] fun v own => own = [flashG p q s.more] := by
  refine c_of_w2 (n := 10) Try.func74 rfl rfl rfl (by rfl) fun E => ?_
  repeat' (first | ((with_reducible refine g_wl ?_); (first | refine kN ?_ | ((with_reducible refine g_mv ?_); (first | refine kp (pvm_move_p rfl) ?_ | refine kp (pvm_move_i rfl) ?_)) | ((with_reducible refine g_as ?_); (refine kp (pvm_assign_i rfl) ?_)) | ((with_reducible refine g_cf 87 ?_); refine kd (opw_atomicAdd 0 0 addInt64 rfl rfl rfl rfl (noFr_zero _ _) ?_)) | refine kp (pv_nilCheck rfl) ?_ | refine kp (pv_fieldAddr Ft.h rfl) ?_)) | with_reducible refine w_seq ?_ | with_reducible refine thenP_n ?_ | with_reducible refine w_ret ?_ | refine wr rfl ?_)
  exact ret_r rfl rfl

theorem step_c (p q : Nat) (s : Fs) (ro : RO) : C Try.prog 43 #[.pointer (some ⟨p, 0, none⟩)] ro [flashG p q s] fun v own => v = .bool (!s.stepS.down) ∧ own = [flashG p q s.stepS] := by
  refine c_of_w2 (n := 33) Try.func43 rfl rfl rfl (by rfl) fun E => ?_
  repeat' (first | ((with_reducible refine g_wl ?_); (first | refine kN ?_ | ((with_reducible refine g_gd ?_); (first | refine kg rfl ?_ | refine ks rfl ?_ | refine kb rfl rfl rfl (fun _ => ?_) (fun _ => ?_))) | ((with_reducible refine g_mv ?_); (first | refine kp (pvm_move_p rfl) ?_ | refine kp (pvm_move_b rfl) ?_)) | ((with_reducible refine g_as ?_); (refine kp (pvm_assign_b rfl) ?_)) | ((with_reducible refine g_pk ?_); (first | refine kp (pvk_t_b rfl rfl) ?_ | refine kp (pvk_f_b rfl rfl) ?_)) | ((with_reducible refine g_bo ?_); (first | refine kp (pv_sub rfl rfl) ?_ | refine kp (pv_lss rfl rfl) ?_)) | ((with_reducible refine g_ld ?_); (refine kd (opw_load Fb.h rfl (Has.own 0 0 rfl rfl) ?_))) | ((with_reducible refine g_st ?_); (refine kn (opw_store 0 0 Ft.h rfl rfl rfl rfl rfl (Nat.le_of_ble_eq_true rfl) (noFr_zero _ _) ?_))) | ((with_reducible refine g_cf 74 ?_); (refine kd (opw_call Fb.h rfl [0] (int64Add_c p q s ro) RoOk.self (fun v own h => ?_)); obtain rfl := h)) | refine kp (pv_nilCheck rfl) ?_ | refine kp (pv_fieldAddr Ft.h rfl) ?_ | refine kp (pv_not_t rfl) ?_ | refine kp (pv_not rfl) ?_)) | with_reducible refine w_seq ?_ | with_reducible refine thenP_n ?_ | with_reducible refine w_skip ?_ | with_reducible refine w_ret ?_ | refine w_cond_false rfl ?_ | (refine w_cond_dec rfl (fun _ => ?_) (fun _ => ?_) <;> try (exfalso; omega)) | refine wr rfl ?_)
  all_goals refine ret_r (v := .bool _) rfl ?_
  · have e : s.stepS = { s.tick with down := true } := if_pos (by have h1 : s.fused = true := ‹_›; have h2 : w64 (s.left - 1) < 0 := ‹_›; simp [Fs.blows, h1, h2])
    rw [e]; exact ⟨rfl, rfl⟩
  · have e : s.stepS = s.tick := if_neg (by have h1 : s.fused = true := ‹_›; have h2 : ¬ w64 (s.left - 1) < 0 := ‹_›; simp [Fs.blows, h1, h2])
    rw [e]; exact ⟨rfl, rfl⟩
  · have e : s.stepS = s.tick := if_neg (by have h1 : s.fused = false := ‹_›; simp [Fs.blows, h1])
    rw [e]; exact ⟨rfl, rfl⟩

theorem ready_c (p q : Nat) (s : Fs) (at_ m : Int) (hm : -9223372036854775808 ≤ m ∧ m ≤ 9223372036854775807) (ro : RO) : C Try.prog 42 #[.pointer (some ⟨p, 0, none⟩), .int .i64 at_, .int .i64 m] ro [flashG p q s] fun v own => v = .int .i64 (s.ready at_ m) ∧ own = [flashG p q s] := by
  refine c_of_w2 (n := 32) Try.func42 rfl rfl rfl (by rfl) fun E => ?_
  repeat' (first | ((with_reducible refine g_wl ?_); (first | refine kN ?_ | ((with_reducible refine g_gd ?_); (first | refine kg rfl ?_ | refine ks rfl ?_ | refine kc rfl rfl rfl (fun _ => ?_) (fun _ => ?_))) | ((with_reducible refine g_mv ?_); (first | refine kp (pvm_move_p rfl) ?_ | refine kp (pvm_move_b rfl) ?_ | refine kp (pvm_move_i rfl) ?_)) | ((with_reducible refine g_as ?_); (first | refine kp (pvm_assign_b rfl) ?_ | refine kp (pvm_assign_i rfl) ?_)) | ((with_reducible refine g_pk ?_); (first | refine kp (pvk_t_b rfl rfl) ?_ | refine kp (pvk_f_b rfl rfl) ?_)) | ((with_reducible refine g_bo ?_); (first | refine kp (pv_ptr_nil Ft.h rfl rfl) ?_ | refine kp (pv_isub rfl rfl (by omega)) ?_ | refine kp (pv_lss rfl rfl) ?_ | refine kp (pv_gtr rfl rfl) ?_)) | ((with_reducible refine g_ld ?_); (refine kd (opw_load Fb.h rfl (Has.own 0 0 rfl rfl) ?_))) | refine kp (pv_nilCheck rfl) ?_ | refine kp (pv_fieldAddr Ft.h rfl) ?_)) | with_reducible refine w_seq ?_ | with_reducible refine thenP_n ?_ | with_reducible refine thenP_r ?_ | with_reducible refine blockP_n ?_ | with_reducible refine blockP_r ?_ | with_reducible refine w_skip ?_ | with_reducible refine w_ret ?_ | with_reducible refine w_block ?_ | refine w_cond_true rfl ?_ | refine w_cond_false rfl ?_ | (refine w_cond_dec rfl (fun _ => ?_) (fun _ => ?_) <;> try (exfalso; omega)) | refine w_cond rfl (fun _ => ?_) (fun _ => ?_) | refine wr rfl ?_)
  all_goals refine ret_r (v := .int .i64 _) rfl ?_
  all_goals refine ⟨?_, rfl⟩
  all_goals unfold Fs.ready
  all_goals simp_all
  all_goals omega
theorem program_c (p q : Nat) (s : Fs) (hb : 3584 ≤ s.b.length) (at_ : Int) (a : Option Addr) (c : Nat) (xs : List (BitVec 8)) (hl : xs.length ≤ 1000000) (ro : RO) (hs : SlR v8 (.slice a xs.length c) xs ro) :
    C Try.prog 10 #[.pointer (some ⟨p, 0, none⟩), .int .i64 at_, .slice a xs.length c] ro [flashG p q s] fun v own => v = .int .i64 (s.program at_ xs).2 ∧ own = [flashG p q (s.program at_ xs).1] := by
  by_cases hr : s.ready at_ xs.length = 0
  · obtain ⟨hd, h0, h1, h2, h3⟩ := Fs.ready_0 hr
    obtain ⟨at', rfl⟩ := Int.eq_ofNat_of_zero_le h2
    have hp : s.program (at' : Int) xs = s.prog at' xs := if_pos hr
    rw [hp]
    refine c_of_w2 (n := 59) Try.func10 rfl rfl rfl (by rfl) fun E => ?_
    repeat' (first | ((with_reducible refine g_wl ?_); (first | refine kN ?_ | ((with_reducible refine g_mv ?_); (first | refine kp (pvm_move_p rfl) ?_ | refine kp (pvm_move_s rfl) ?_ | refine kp (pvm_move_i rfl) ?_)) | ((with_reducible refine g_as ?_); (refine kp (pvm_assign_i rfl) ?_)) | ((with_reducible refine g_bo ?_); (refine kp (pv_neq rfl rfl) ?_)) | ((with_reducible refine g_cb .len ?_); refine kp (pv_len_slice Ft.h rfl) ?_) | ((with_reducible refine g_cf 42 ?_); (refine kd (opw_call Fb.h rfl [0] (ready_c p q s _ _ (by omega) ro) RoOk.self (fun v own h => ?_)); obtain ⟨rfl, rfl⟩ := h; rw [hr])))) | with_reducible refine w_seq ?_ | with_reducible refine thenP_n ?_ | with_reducible refine w_skip ?_ | with_reducible refine w_block ?_ | refine w_cond_false rfl ?_ | refine wr rfl ?_)
    refine w_loop (ι := Nat × Fs) (fun x ρ ro' own => x.1 ≤ xs.length ∧ Kn [(0, .pointer (some ⟨p, 0, none⟩)), (1, .int .i64 at'), (18, .slice a xs.length c), (19, .int .i64 xs.length), (20, .int .i64 x.1)] ρ ∧ ro' = ro ∧ own = [flashG p q x.2] ∧ 3584 ≤ x.2.b.length ∧ s.prog at' xs = x.2.prog (at' + x.1) (xs.drop x.1)) (fun x => xs.length - x.1) (0, s) ⟨Nat.zero_le _, ⟨rfl, rfl, rfl, rfl, rfl, trivial⟩, rfl, rfl, hb, rfl⟩ ?_
    rintro ⟨i, st⟩ ρ ro' own ⟨hi, hk, rfl, rfl, hb', hpr⟩
    obtain ⟨ρ', rfl⟩ := hk.ex
    dsimp only at *
    by_cases hlt : i < xs.length
    · obtain ⟨b, off, rfl, hhas⟩ := hs.addr (by omega)
      have hx : xs[i]? = some (xs.getD i 0) := getD_of hlt
      have hc : st.stepS.b[0 + (at' + i)]? = some (st.stepS.b.getD (at' + i) 0) := by rw [Nat.zero_add]; exact getD_of (by rw [Fs.stepS_b]; omega)
      have hdrop : xs.drop i = xs.getD i 0 :: xs.drop (i + 1) := by rw [List.drop_eq_getElem_cons hlt]; simp [List.getD, hlt]
      rw [hdrop] at hpr
      cases hst : st.stepS.down with
      | true =>
        repeat' (first | ((with_reducible refine g_wl ?_); (first | refine kN ?_ | ((with_reducible refine g_mv ?_); (first | refine kp (pvm_move_p rfl) ?_ | refine kp (pvm_move_i rfl) ?_)) | ((with_reducible refine g_as ?_); (first | refine kp (pvm_assign_8 rfl) ?_ | refine kp (pvm_assign_i rfl) ?_)) | ((with_reducible refine g_bo ?_); (refine kp (pv_lss rfl rfl) ?_)) | ((with_reducible refine g_ld ?_); (refine kd (opw_load Fb.h rfl (hhas _ _ _ hx) ?_))) | ((with_reducible refine g_cf 43 ?_); (refine kd (opw_call Fb.h rfl [0] (step_c p q st _) RoOk.self (fun v own h => ?_)); obtain ⟨rfl, rfl⟩ := h; rw [hst])) | refine kp (pv_indexAddr1 FaFlashW.sl_22 rfl rfl (by omega) (by omega)) ?_ | refine kp (pv_not_f rfl) ?_)) | with_reducible refine w_seq ?_ | with_reducible refine thenP_n ?_ | with_reducible refine thenP_r ?_ | with_reducible refine blockP_r ?_ | with_reducible refine w_skip ?_ | with_reducible refine w_ret ?_ | with_reducible refine w_block ?_ | refine w_cond_true rfl ?_ | (refine w_cond_dec rfl (fun _ => ?_) (fun _ => ?_) <;> try (exfalso; omega)) | (refine w_draw (id := 8) [18] (hold (flashG p q st.stepS)) Fa.mixed (hold_ok (by intro y hy; exact List.mem_append_left _ hy)) ?_; (refine wh_pure 0 rfl (by kernel_rfl) rfl rfl (pvm_move_p rfl) ?_); refine wh_pure 1 rfl (by kernel_rfl) rfl rfl (pv_nilCheck rfl) ?_; refine wh_pure 2 rfl (by kernel_rfl) rfl rfl (pv_fieldAddr FaFlashW.fo_80_0 rfl) ?_; (refine wh_load 3 rfl (by kernel_rfl) rfl rfl FaFlashW.one_22 rfl (Has.hold 0 rfl rfl) ?_); (refine wh_pure 4 rfl (by kernel_rfl) rfl rfl (pvm_move_i rfl) ?_); (refine wh_pure 5 rfl (by kernel_rfl) rfl rfl (pvm_move_i rfl) ?_); (refine wh_pure 6 rfl (by kernel_rfl) rfl rfl (pv_iadd rfl rfl (by omega)) ?_); refine wh_pure 7 rfl (by kernel_rfl) rfl rfl (pv_indexAddr1 FaFlashW.sl_22 rfl rfl (by omega) (by omega)) ?_; (refine wh_load 8 rfl (by kernel_rfl) rfl rfl FaFlashW.one_5 rfl (Has.hold 1 rfl (cellAt_arr hc)) ?_); (refine wh_pure 9 rfl (by kernel_rfl) rfl rfl (pvm_move_8 rfl) ?_); (refine wh_pure 10 rfl (by kernel_rfl) rfl rfl (pvm_move_p rfl) ?_); refine wh_pure 11 rfl (by kernel_rfl) rfl rfl (pv_nilCheck rfl) ?_; refine wh_pure 12 rfl (by kernel_rfl) rfl rfl (pv_fieldAddr FaFlashW.fo_80_6 rfl) ?_; (refine wh_load 13 rfl (by kernel_rfl) rfl rfl FaFlashW.one_3 rfl (Has.hold 0 rfl rfl) ?_); refine wh_pure 14 rfl (by kernel_rfl) rfl rfl (pvc_i_8 Try.underlying3 Try.underlying5 rfl) ?_; refine wh_pure 15 rfl (by kernel_rfl) rfl rfl (pv8_or rfl rfl) ?_; refine wh_pure 16 rfl (by kernel_rfl) rfl rfl (pv8_and rfl rfl) ?_; refine wh_pure 17 rfl (by kernel_rfl) rfl rfl (pv_indexAddr1 FaFlashW.sl_22 rfl rfl (by omega) (by omega)) ?_; (refine wh_rel 18 (by kernel_rfl) rfl rfl rfl rfl (opw_storeArr (f := v8) (at' + i) 0 1 FaFlashW.sz_5 rfl rfl rfl rfl rfl (by omega) (by rw [Fs.stepS_b]; omega) ?_)); (refine wz_done (by kernel_rfl) ?_)) | refine wr rfl ?_)
        refine ret_r (v := .int .i64 _) rfl ?_
        rw [hpr, show st.prog (at' + i) (xs.getD i 0 :: xs.drop (i + 1)) = _ from if_pos hst]
        exact ⟨rfl, rfl⟩
      | false =>
        repeat' (first | ((with_reducible refine g_wl ?_); (first | refine kN ?_ | ((with_reducible refine g_mv ?_); (first | refine kp (pvm_move_p rfl) ?_ | refine kp (pvm_move_8 rfl) ?_ | refine kp (pvm_move_i rfl) ?_)) | ((with_reducible refine g_as ?_); (first | refine kp (pvm_assign_8 rfl) ?_ | refine kp (pvm_assign_i rfl) ?_)) | ((with_reducible refine g_bo ?_); (first | refine kp (pv_iadd rfl rfl (by omega)) ?_ | refine kp (pv8_and rfl rfl) ?_ | refine kp (pv_lss rfl rfl) ?_)) | ((with_reducible refine g_ld ?_); (first | refine kd (opw_load Fb.h rfl (hhas _ _ _ hx) ?_) | refine kd (opw_load Fb.h rfl (Has.own 0 1 rfl (cellAt_arr hc)) ?_) | refine kd (opw_load Fb.h rfl (Has.own 0 0 rfl rfl) ?_))) | ((with_reducible refine g_st ?_); (refine kn (opw_storeArr (f := v8) (at' + i) 0 1 Ft.h rfl rfl rfl rfl rfl (by omega) (by rw [Fs.stepS_b]; omega) ?_))) | ((with_reducible refine g_cf 43 ?_); (refine kd (opw_call Fb.h rfl [0] (step_c p q st _) RoOk.self (fun v own h => ?_)); obtain ⟨rfl, rfl⟩ := h; rw [hst])) | refine kp (pv_indexAddr1 FaFlashW.sl_22 rfl rfl (by omega) (by omega)) ?_ | refine kp (pv_not_t rfl) ?_ | refine kp (pv_nilCheck rfl) ?_ | refine kp (pv_fieldAddr Ft.h rfl) ?_)) | with_reducible refine w_seq ?_ | with_reducible refine thenP_n ?_ | with_reducible refine blockP_n ?_ | with_reducible refine w_skip ?_ | with_reducible refine w_block ?_ | refine w_cond_false rfl ?_ | (refine w_cond_dec rfl (fun _ => ?_) (fun _ => ?_) <;> try (exfalso; omega)) | refine wr rfl ?_)
        refine ⟨(i + 1, { st.stepS with b := st.stepS.b.set (at' + i) (st.stepS.b.getD (at' + i) 0 &&& xs.getD i 0) }), ⟨hlt, ⟨rfl, rfl, rfl, rfl, rfl, trivial⟩, rfl, rfl, by simp [Fs.stepS_b]; exact hb', ?_⟩, by dsimp only; omega⟩
        rw [hpr, show st.prog (at' + i) (xs.getD i 0 :: xs.drop (i + 1)) = _ from if_neg (by rw [hst]; simp), Nat.add_assoc]
    · have hi' : i = xs.length := by omega
      repeat' (first | ((with_reducible refine g_wl ?_); (first | refine kN ?_ | ((with_reducible refine g_as ?_); (refine kp (pvm_assign_i rfl) ?_)) | ((with_reducible refine g_bo ?_); (refine kp (pv_lss rfl rfl) ?_)))) | with_reducible refine w_seq ?_ | with_reducible refine thenP_n ?_ | with_reducible refine thenP_x ?_ | with_reducible refine blockP_eq ?_ | with_reducible refine w_ret ?_ | with_reducible refine w_exit ?_ | (refine w_cond_dec rfl (fun _ => ?_) (fun _ => ?_) <;> try (exfalso; omega)) | refine wr rfl ?_)
      refine ret_r (v := .int .i64 _) rfl ?_
      rw [hpr, List.drop_of_length_le (by omega)]
      exact ⟨rfl, rfl⟩
  · have hp : s.program at_ xs = (s, s.ready at_ xs.length) := if_neg hr
    rw [hp]
    refine c_of_w2 (n := 59) Try.func10 rfl rfl rfl (by rfl) fun E => ?_
    repeat' (first | ((with_reducible refine g_wl ?_); (first | refine kN ?_ | ((with_reducible refine g_mv ?_); (first | refine kp (pvm_move_p rfl) ?_ | refine kp (pvm_move_s rfl) ?_ | refine kp (pvm_move_i rfl) ?_)) | ((with_reducible refine g_as ?_); (refine kp (pvm_assign_i rfl) ?_)) | ((with_reducible refine g_bo ?_); (refine kp (pv_neq rfl rfl) ?_)) | ((with_reducible refine g_cb .len ?_); refine kp (pv_len_slice Ft.h rfl) ?_) | ((with_reducible refine g_cf 42 ?_); (refine kd (opw_call Fb.h rfl [0] (ready_c p q s _ _ (by omega) ro) RoOk.self (fun v own h => ?_)); obtain ⟨rfl, rfl⟩ := h)))) | with_reducible refine w_seq ?_ | with_reducible refine thenP_n ?_ | with_reducible refine thenP_r ?_ | with_reducible refine w_ret ?_ | (refine w_cond_dec rfl (fun _ => ?_) (fun _ => ?_) <;> try (exfalso; omega)) | refine wr rfl ?_)
    all_goals first | exact ret_r (v := .int .i64 _) rfl ⟨rfl, rfl⟩ | skip
end Go.Proofs.Ytnohdfhhdppflaa
