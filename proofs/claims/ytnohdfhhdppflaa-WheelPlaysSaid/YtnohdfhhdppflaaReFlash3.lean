/- The reference's flash, walked: Program. -/
import Derived.Test.YtnohdfhhdppflaaReFlash2
namespace Go.Proofs.Ytnohdfhhdppflaa
open Go Go.Vc Go.Fl
set_option linter.unusedVariables false
set_option linter.unusedSimpArgs false
set_option maxRecDepth 100000
set_option maxHeartbeats 4000000
namespace FaReFlash3
theorem ca_54 : callable Try.prog 54 = true := by kernel_rfl
theorem ca_55 : callable Try.prog 55 = true := by kernel_rfl
theorem fo_53_0 : fieldOff Try.prog 53 0 = some 0 := by kernel_rfl
theorem fo_53_3 : fieldOff Try.prog 53 3 = some 16 := by kernel_rfl
theorem fo_53_7 : fieldOff Try.prog 53 7 = some 20 := by kernel_rfl
theorem one_22 : isOne Try.prog 22 = true := by kernel_rfl
theorem one_3 : isOne Try.prog 3 = true := by kernel_rfl
theorem one_4 : isOne Try.prog 4 = true := by kernel_rfl
theorem one_5 : isOne Try.prog 5 = true := by kernel_rfl
theorem sl_22 : sliceOf Try.prog 22 = some (5, 1) := by kernel_rfl
theorem sz_5 : sz Try.prog 5 = some 1 := by kernel_rfl
instance : Fb (callable Try.prog 54) := ⟨ca_54⟩
instance : Fb (callable Try.prog 55) := ⟨ca_55⟩
instance : Ft (fieldOff Try.prog 53 0) (0) := ⟨fo_53_0⟩
instance : Ft (fieldOff Try.prog 53 3) (16) := ⟨fo_53_3⟩
instance : Ft (fieldOff Try.prog 53 7) (20) := ⟨fo_53_7⟩
instance : Fb (isOne Try.prog 22) := ⟨one_22⟩
instance : Fb (isOne Try.prog 3) := ⟨one_3⟩
instance : Fb (isOne Try.prog 4) := ⟨one_4⟩
instance : Fb (isOne Try.prog 5) := ⟨one_5⟩
instance : Ft (sliceOf Try.prog 22) (5, 1) := ⟨sl_22⟩
instance : Ft (sz Try.prog 5) (1) := ⟨sz_5⟩
instance : Ft (Try.prog.underlying 3) (.int .i64) := ⟨Try.underlying3⟩
instance : Ft (Try.prog.underlying 5) (.int .u8) := ⟨Try.underlying5⟩
end FaReFlash3
attribute [local irreducible] PV OpW WL WM WH WZ W C Has RoOk

theorem Rel.cell {s t : Fs} (h : Rel s t) {k : Nat} (hk : k < 3584) : t.b[0 + k]? = some (s.b.getD k 0) := by
  have := h.len
  rw [Nat.zero_add, h.b, Fs.bs, List.getElem?_take, if_pos hk]; exact getD_of (by omega)
theorem Rel.tlen {s t : Fs} (h : Rel s t) : t.b.length = 3584 := by rw [h.b]; exact Fs.bs_len h.len
theorem Rel.set {s t : Fs} (h : Rel s t) (k : Nat) (v : BitVec 8) : Rel { s with b := s.b.set k v } { t with b := t.b.set k v } :=
  ⟨by show 3584 ≤ (s.b.set k v).length; rw [List.length_set]; exact h.len, by show t.b.set k v = (s.b.set k v).take 3584; rw [h.b, Fs.bs, List.take_set], h.er, h.wear, h.down, h.fused, h.torn, h.left⟩
theorem programR_c (p q : Nat) (s t : Fs) (h : Rel s t) (at_ : Int) (a : Option Addr) (c : Nat) (xs : List (BitVec 8)) (hl : xs.length ≤ 1000000) (ro : RO) (hs : SlR v8 (.slice a xs.length c) xs ro) :
    C Try.prog 24 #[.pointer (some ⟨p, 0, none⟩), .int .i64 at_, .slice a xs.length c] ro [refG p q t] fun v own => ∃ t', v = .int .i64 (s.program at_ xs).2 ∧ own = [refG p q t'] ∧ Rel (s.program at_ xs).1 t' := by
  have hd := h.down
  by_cases hr : s.ready at_ xs.length = 0
  · obtain ⟨hd0, h0, h1, h2, h3⟩ := Fs.ready_0 hr
    rw [hd0] at hd
    obtain ⟨at', rfl⟩ := Int.eq_ofNat_of_zero_le h2
    have hp : s.program (at' : Int) xs = s.prog at' xs := if_pos hr
    have hdec : (decide (0 ≤ (xs.length : Int) ∧ (xs.length : Int) ≤ 3584 ∧ 0 ≤ (at' : Int) ∧ (at' : Int) ≤ 3584 - xs.length)) = true := decide_eq_true (by omega)
    rw [hp]
    refine c_of_w2 (n := 59) Try.func24 rfl rfl rfl (by rfl) fun E => ?_
    repeat' (first | ((with_reducible refine g_wl ?_); (first | refine kN ?_ | ((with_reducible refine g_mv ?_); (first | refine kp (pvm_move_p rfl) ?_ | refine kp (pvm_move_s rfl) ?_ | refine kp (pvm_move_i rfl) ?_)) | ((with_reducible refine g_as ?_); (refine kp (pvm_assign_i rfl) ?_)) | ((with_reducible refine g_ld ?_); (refine kd (opw_load Fb.h rfl (Has.own 0 0 rfl rfl) ?_))) | ((with_reducible refine g_cb .len ?_); refine kp (pv_len_slice Ft.h rfl) ?_) | ((with_reducible refine g_cf 54 ?_); (refine kd (opw_call Fb.h rfl [] (there_c _ _ _) RoOk.self (fun v own h => ?_)); obtain ⟨rfl, rfl⟩ := h; rw [hdec])) | refine kp (pv_nilCheck rfl) ?_ | refine kp (pv_fieldAddr Ft.h rfl) ?_ | refine kp (pv_not_t rfl) ?_)) | with_reducible refine w_seq ?_ | with_reducible refine thenP_n ?_ | with_reducible refine thenP_r ?_ | with_reducible refine w_skip ?_ | with_reducible refine w_ret ?_ | with_reducible refine w_block ?_ | refine w_cond_false rfl ?_ | refine w_cond rfl (fun _ => ?_) (fun _ => ?_) | refine wr (id := 0) rfl ?_ | refine wr (id := 1) rfl ?_ | refine wr (id := 2) rfl ?_ | refine wr (id := 3) rfl ?_ | refine wr (id := 5) rfl ?_)
    · have hx : t.down = true := ‹_›
      rw [hd] at hx; cases hx
    refine w_loop2 (ι := Nat × Fs × Fs) (fun x ρ ro' own => x.1 ≤ xs.length ∧ Kn [(0, .pointer (some ⟨p, 0, none⟩)), (1, .int .i64 at'), (18, .slice a xs.length c), (19, .int .i64 xs.length), (20, .int .i64 x.1)] ρ ∧ ro' = ro ∧ own = [refG p q x.2.2] ∧ Rel x.2.1 x.2.2 ∧ x.2.1.down = false ∧ s.prog at' xs = x.2.1.prog (at' + x.1) (xs.drop x.1)) (fun x => xs.length - x.1) (0, s, t) ⟨Nat.zero_le _, ⟨rfl, rfl, rfl, rfl, rfl, trivial⟩, rfl, rfl, h, hd0, rfl⟩ ?_
    rintro ⟨i, st, tt⟩ ρ ro' own ⟨hi, hk, rfl, rfl, hrel, hdn, hpr⟩
    obtain ⟨ρ', rfl⟩ := hk.ex
    dsimp only at *
    by_cases hlt : i < xs.length
    · obtain ⟨b, off, rfl, hhas⟩ := hs.addr (by omega)
      have hx : xs[i]? = some (xs.getD i 0) := getD_of hlt
      have hdrop : xs.drop i = xs.getD i 0 :: xs.drop (i + 1) := by rw [List.drop_eq_getElem_cons hlt]; simp [List.getD, hlt]
      rw [hdrop] at hpr
      cases hst : st.stepS.down with
      | true =>
        repeat' (first | ((with_reducible refine g_wl ?_); (first | refine kN ?_ | ((with_reducible refine g_mv ?_); (first | refine kp (pvm_move_p rfl) ?_ | refine kp (pvm_move_i rfl) ?_)) | ((with_reducible refine g_as ?_); (first | refine kp (pvm_assign_8 rfl) ?_ | refine kp (pvm_assign_i rfl) ?_)) | ((with_reducible refine g_bo ?_); refine kp (pv_lss rfl rfl) ?_) | ((with_reducible refine g_ld ?_); (refine kd (opw_load Fb.h rfl (hhas _ _ _ hx) ?_))) | ((with_reducible refine g_cf 55 ?_); (refine kd (opw_call Fb.h rfl [0] (stepR_c p q st tt hrel hdn _) RoOk.self (fun v own h => ?_)); obtain ⟨t', rfl, rfl, hrel', hbt⟩ := h; rw [hst])) | refine kp (pv_indexAddr1 FaReFlash3.sl_22 rfl rfl (by omega) (by omega)) ?_ | refine kp (pv_not_f rfl) ?_)) | with_reducible refine w_seq ?_ | with_reducible refine thenP_n ?_ | with_reducible refine w_skip ?_ | with_reducible refine w_block ?_ | refine w_cond_true rfl ?_ | (refine w_cond_dec rfl (fun _ => ?_) (fun _ => ?_) <;> try (exfalso; omega)) | refine wr (id := 6) rfl ?_ | refine wr (id := 7) rfl ?_ | refine wr (id := 8) rfl ?_)
        have hc := hrel'.cell (k := at' + i) (by omega)
        have htl := hrel'.tlen
        repeat' (first | ((with_reducible refine g_wl ?_); (first | refine kN ?_ | ((with_reducible refine g_as ?_); (refine kp (pvm_assign_i rfl) ?_)))) | with_reducible refine w_seq ?_ | with_reducible refine thenP_n ?_ | with_reducible refine thenP_r ?_ | with_reducible refine blockP_r ?_ | with_reducible refine w_ret ?_ | (refine w_draw (id := 9) [18] (hold (refG p q t')) Fa.mixed (hold_ok (by intro y hy; exact List.mem_append_left _ hy)) ?_; (refine wh_pure 0 rfl (by kernel_rfl) rfl rfl (pvm_move_p rfl) ?_); refine wh_pure 1 rfl (by kernel_rfl) rfl rfl (pv_nilCheck rfl) ?_; refine wh_pure 2 rfl (by kernel_rfl) rfl rfl (pv_fieldAddr FaReFlash3.fo_53_0 rfl) ?_; (refine wh_load 3 rfl (by kernel_rfl) rfl rfl FaReFlash3.one_22 rfl (Has.hold 0 rfl rfl) ?_); (refine wh_pure 4 rfl (by kernel_rfl) rfl rfl (pvm_move_i rfl) ?_); (refine wh_pure 5 rfl (by kernel_rfl) rfl rfl (pvm_move_i rfl) ?_); (refine wh_pure 6 rfl (by kernel_rfl) rfl rfl (pv_iadd rfl rfl (by omega)) ?_); refine wh_pure 7 rfl (by kernel_rfl) rfl rfl (pv_indexAddr1 FaReFlash3.sl_22 rfl rfl (by omega) (by omega)) ?_; (refine wh_load 8 rfl (by kernel_rfl) rfl rfl FaReFlash3.one_5 rfl (Has.hold 1 rfl (cellAt_arr hc)) ?_); (refine wh_pure 9 rfl (by kernel_rfl) rfl rfl (pvm_move_8 rfl) ?_); (refine wh_pure 10 rfl (by kernel_rfl) rfl rfl (pvm_move_p rfl) ?_); refine wh_pure 11 rfl (by kernel_rfl) rfl rfl (pv_nilCheck rfl) ?_; refine wh_pure 12 rfl (by kernel_rfl) rfl rfl (pv_fieldAddr FaReFlash3.fo_53_7 rfl) ?_; (refine wh_load 13 rfl (by kernel_rfl) rfl rfl FaReFlash3.one_3 rfl (Has.hold 0 rfl rfl) ?_); refine wh_pure 14 rfl (by kernel_rfl) rfl rfl (pvc_i_8 Try.underlying3 Try.underlying5 rfl) ?_; refine wh_pure 15 rfl (by kernel_rfl) rfl rfl (pv8_or rfl rfl) ?_; refine wh_pure 16 rfl (by kernel_rfl) rfl rfl (pv8_and rfl rfl) ?_; refine wh_pure 17 rfl (by kernel_rfl) rfl rfl (pv_indexAddr1 FaReFlash3.sl_22 rfl rfl (by omega) (by omega)) ?_; (refine wh_rel 18 (by kernel_rfl) rfl rfl rfl rfl (opw_storeArr (f := v8) (at' + i) 0 1 FaReFlash3.sz_5 rfl rfl rfl rfl rfl (by omega) (by omega) ?_)); (refine wz_done (by kernel_rfl) ?_)) | refine wr (id := 10) rfl ?_)
        refine ret_r (v := .int .i64 _) rfl ?_
        rw [hpr, show st.prog (at' + i) (xs.getD i 0 :: xs.drop (i + 1)) = _ from if_pos hst]
        refine ⟨{ t' with b := t'.b.set (at' + i) (st.stepS.b.getD (at' + i) 0 &&& (xs.getD i 0 ||| BitVec.ofInt 8 st.stepS.torn)) }, rfl, ?_, hrel'.set _ _⟩
        rw [← hrel'.torn]; rfl
      | false =>
        repeat' (first | ((with_reducible refine g_wl ?_); (first | refine kN ?_ | ((with_reducible refine g_mv ?_); (first | refine kp (pvm_move_p rfl) ?_ | refine kp (pvm_move_i rfl) ?_)) | ((with_reducible refine g_as ?_); (first | refine kp (pvm_assign_8 rfl) ?_ | refine kp (pvm_assign_i rfl) ?_)) | ((with_reducible refine g_bo ?_); refine kp (pv_lss rfl rfl) ?_) | ((with_reducible refine g_ld ?_); (refine kd (opw_load Fb.h rfl (hhas _ _ _ hx) ?_))) | ((with_reducible refine g_cf 55 ?_); (refine kd (opw_call Fb.h rfl [0] (stepR_c p q st tt hrel hdn _) RoOk.self (fun v own h => ?_)); obtain ⟨t', rfl, rfl, hrel', hbt⟩ := h; rw [hst])) | refine kp (pv_indexAddr1 FaReFlash3.sl_22 rfl rfl (by omega) (by omega)) ?_ | refine kp (pv_not_t rfl) ?_)) | with_reducible refine w_seq ?_ | with_reducible refine thenP_n ?_ | with_reducible refine w_skip ?_ | with_reducible refine w_block ?_ | refine w_cond_false rfl ?_ | (refine w_cond_dec rfl (fun _ => ?_) (fun _ => ?_) <;> try (exfalso; omega)) | refine wr (id := 6) rfl ?_ | refine wr (id := 7) rfl ?_ | refine wr (id := 8) rfl ?_)
        have hc := hrel'.cell (k := at' + i) (by omega)
        have htl := hrel'.tlen
        repeat' (first | ((with_reducible refine g_wl ?_); (first | refine kN ?_ | ((with_reducible refine g_mv ?_); (first | refine kp (pvm_move_p rfl) ?_ | refine kp (pvm_move_8 rfl) ?_ | refine kp (pvm_move_i rfl) ?_)) | ((with_reducible refine g_bo ?_); (first | refine kp (pv_iadd rfl rfl (by omega)) ?_ | refine kp (pv8_and rfl rfl) ?_)) | ((with_reducible refine g_ld ?_); (first | refine kd (opw_load Fb.h rfl (Has.own 0 1 rfl (cellAt_arr hc)) ?_) | refine kd (opw_load Fb.h rfl (Has.own 0 0 rfl rfl) ?_))) | ((with_reducible refine g_st ?_); (refine kn (opw_storeArr (f := v8) (at' + i) 0 1 Ft.h rfl rfl rfl rfl rfl (by omega) (by omega) ?_))) | refine kp (pv_nilCheck rfl) ?_ | refine kp (pv_fieldAddr Ft.h rfl) ?_ | refine kp (pv_indexAddr1 FaReFlash3.sl_22 rfl rfl (by omega) (by omega)) ?_)) | with_reducible refine thenP_n ?_ | with_reducible refine blockP_n ?_ | refine wr (id := 11) rfl ?_ | refine wr (id := 12) rfl ?_)
        refine ⟨(i + 1, { st.stepS with b := st.stepS.b.set (at' + i) (st.stepS.b.getD (at' + i) 0 &&& xs.getD i 0) }, { t' with b := t'.b.set (at' + i) (st.stepS.b.getD (at' + i) 0 &&& xs.getD i 0) }), _, Sub.refl, ⟨hlt, ⟨rfl, rfl, rfl, rfl, rfl, trivial⟩, rfl, rfl, hrel'.set _ _, hst, ?_⟩, by dsimp only; omega⟩
        rw [hpr, show st.prog (at' + i) (xs.getD i 0 :: xs.drop (i + 1)) = _ from if_neg (by rw [hst]; simp), Nat.add_assoc]
    · have hi' : i = xs.length := by omega
      repeat' (first | ((with_reducible refine g_wl ?_); (first | refine kN ?_ | ((with_reducible refine g_as ?_); (refine kp (pvm_assign_i rfl) ?_)) | ((with_reducible refine g_bo ?_); refine kp (pv_lss rfl rfl) ?_))) | with_reducible refine w_seq ?_ | with_reducible refine thenP_n ?_ | with_reducible refine thenP_x ?_ | with_reducible refine blockP_eq ?_ | with_reducible refine w_ret ?_ | with_reducible refine w_exit ?_ | (refine w_cond_dec rfl (fun _ => ?_) (fun _ => ?_) <;> try (exfalso; omega)) | refine wr (id := 6) rfl ?_ | refine wr (id := 13) rfl ?_)
      rw [hpr, List.drop_of_length_le (by omega)]
      exact ret_r (v := .int .i64 _) rfl ⟨tt, rfl, rfl, hrel⟩
  · have hp : s.program at_ xs = (s, s.ready at_ xs.length) := if_neg hr
    rw [hp]
    refine c_of_w2 (n := 59) Try.func24 rfl rfl rfl (by rfl) fun E => ?_
    repeat' (first | ((with_reducible refine g_wl ?_); (first | refine kN ?_ | ((with_reducible refine g_mv ?_); (first | refine kp (pvm_move_p rfl) ?_ | refine kp (pvm_move_s rfl) ?_ | refine kp (pvm_move_i rfl) ?_)) | ((with_reducible refine g_as ?_); (refine kp (pvm_assign_i rfl) ?_)) | ((with_reducible refine g_ld ?_); (refine kd (opw_load Fb.h rfl (Has.own 0 0 rfl rfl) ?_))) | ((with_reducible refine g_cb .len ?_); refine kp (pv_len_slice Ft.h rfl) ?_) | ((with_reducible refine g_cf 54 ?_); (refine kd (opw_call Fb.h rfl [] (there_c _ _ _) RoOk.self (fun v own h => ?_)); obtain ⟨rfl, rfl⟩ := h)) | refine kp (pv_nilCheck rfl) ?_ | refine kp (pv_fieldAddr Ft.h rfl) ?_ | refine kp (pv_not rfl) ?_)) | with_reducible refine w_seq ?_ | with_reducible refine thenP_n ?_ | with_reducible refine thenP_r ?_ | with_reducible refine w_skip ?_ | with_reducible refine w_ret ?_ | (refine w_cond_ndec rfl (fun _ => ?_) (fun _ => ?_) <;> try (exfalso; omega)) | refine w_cond rfl (fun _ => ?_) (fun _ => ?_) | refine wr (id := 0) rfl ?_ | refine wr (id := 1) rfl ?_ | refine wr (id := 2) rfl ?_ | refine wr (id := 3) rfl ?_ | refine wr (id := 4) rfl ?_)
    · have hx : t.down = true := ‹_›
      rw [hd] at hx
      refine ret_r (v := .int .i64 _) rfl ⟨t, ?_, rfl, h⟩
      unfold Fs.ready; rw [if_pos hx]
    · have hx : t.down = false := ‹_›
      rw [hd] at hx
      refine ret_r (v := .int .i64 _) rfl ⟨t, ?_, rfl, h⟩
      unfold Fs.ready at hr ⊢
      rw [if_neg (by simp [hx])] at hr ⊢
      split at hr
      · rename_i hc; rw [if_pos hc]
      · omega
    · exfalso
      have hx : t.down = false := ‹_›
      rw [hd] at hx
      apply hr
      unfold Fs.ready
      rw [if_neg (by simp [hx]), if_neg (by omega)]
end Go.Proofs.Ytnohdfhhdppflaa
