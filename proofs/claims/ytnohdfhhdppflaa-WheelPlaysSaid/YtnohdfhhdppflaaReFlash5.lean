/- The reference's flash, walked: Erase, clear. -/
import Derived.Test.YtnohdfhhdppflaaReFlash4
import Derived.Test.YtnohdfhhdppflaaPlain
namespace Go.Proofs.Ytnohdfhhdppflaa
open Go Go.Vc Go.Fl
set_option linter.unusedVariables false
set_option linter.unusedSimpArgs false
set_option maxRecDepth 100000
set_option maxHeartbeats 4000000
namespace FaReFlash5
theorem ar_51 : arrOf Try.prog 51 = some (14, 1) := by kernel_rfl
theorem ca_55 : callable Try.prog 55 = true := by kernel_rfl
theorem fo_53_0 : fieldOff Try.prog 53 0 = some 0 := by kernel_rfl
theorem fo_53_1 : fieldOff Try.prog 53 1 = some 1 := by kernel_rfl
theorem fo_53_2 : fieldOff Try.prog 53 2 = some 2 := by kernel_rfl
theorem fo_53_3 : fieldOff Try.prog 53 3 = some 16 := by kernel_rfl
theorem fo_53_7 : fieldOff Try.prog 53 7 = some 20 := by kernel_rfl
theorem one_22 : isOne Try.prog 22 = true := by kernel_rfl
theorem one_3 : isOne Try.prog 3 = true := by kernel_rfl
theorem one_4 : isOne Try.prog 4 = true := by kernel_rfl
theorem sl_22 : sliceOf Try.prog 22 = some (5, 1) := by kernel_rfl
theorem sz_3 : sz Try.prog 3 = some 1 := by kernel_rfl
theorem sz_5 : sz Try.prog 5 = some 1 := by kernel_rfl
instance : Ft (arrOf Try.prog 51) (14, 1) := ⟨ar_51⟩
instance : Fb (callable Try.prog 55) := ⟨ca_55⟩
instance : Ft (fieldOff Try.prog 53 0) (0) := ⟨fo_53_0⟩
instance : Ft (fieldOff Try.prog 53 1) (1) := ⟨fo_53_1⟩
instance : Ft (fieldOff Try.prog 53 2) (2) := ⟨fo_53_2⟩
instance : Ft (fieldOff Try.prog 53 3) (16) := ⟨fo_53_3⟩
instance : Ft (fieldOff Try.prog 53 7) (20) := ⟨fo_53_7⟩
instance : Fb (isOne Try.prog 22) := ⟨one_22⟩
instance : Fb (isOne Try.prog 3) := ⟨one_3⟩
instance : Fb (isOne Try.prog 4) := ⟨one_4⟩
instance : Ft (sliceOf Try.prog 22) (5, 1) := ⟨sl_22⟩
instance : Ft (sz Try.prog 3) (1) := ⟨sz_3⟩
instance : Ft (sz Try.prog 5) (1) := ⟨sz_5⟩
end FaReFlash5
attribute [local irreducible] PV OpW WL WM WH WZ W C Has RoOk

theorem ref_er (q : Nat) (s : Fs) (k : Nat) (h : k < 14) : cellAt (refObj q s) (0 + 2 + k) = some (.int .i64 (s.er k)) := by
  have : k = 0 ∨ k = 1 ∨ k = 2 ∨ k = 3 ∨ k = 4 ∨ k = 5 ∨ k = 6 ∨ k = 7 ∨ k = 8 ∨ k = 9 ∨ k = 10 ∨ k = 11 ∨ k = 12 ∨ k = 13 := by omega
  rcases this with rfl | rfl | rfl | rfl | rfl | rfl | rfl | rfl | rfl | rfl | rfl | rfl | rfl | rfl <;> rfl
def refCs (q : Nat) (s : Fs) : Array Value := match refObj q s with | .cells c _ _ => c | _ => #[]
theorem ref_setEr (q : Nat) (s : Fs) (k : Nat) (n : Int) (h : k < 14) : Obj.cells ((refCs q s).setIfInBounds (0 + 2 + k) (.int .i64 n)) 53 (0, 0) = refObj q (Fs.setEr s k n) := by
  have : k = 0 ∨ k = 1 ∨ k = 2 ∨ k = 3 ∨ k = 4 ∨ k = 5 ∨ k = 6 ∨ k = 7 ∨ k = 8 ∨ k = 9 ∨ k = 10 ∨ k = 11 ∨ k = 12 ∨ k = 13 := by omega
  rcases this with rfl | rfl | rfl | rfl | rfl | rfl | rfl | rfl | rfl | rfl | rfl | rfl | rfl | rfl <;> rfl
theorem Rel.setEr {s t : Fs} (h : Rel s t) (k : Nat) (n : Int) : Rel (Fs.setEr s k n) (Fs.setEr t k n) :=
  ⟨h.len, h.b, by show (fun j => if j = k then n else t.er j) = fun j => if j = k then n else s.er j; rw [h.er], h.wear, h.down, h.fused, h.torn, h.left⟩
theorem setEr_step (s : Fs) (k : Nat) (n : Int) : (Fs.setEr s k n).stepS = Fs.setEr s.stepS k n := by
  unfold Fs.stepS; split <;> split <;> first | rfl | (rename_i h1 h2; exact absurd h1 h2) | (rename_i h1 h2; exact absurd h2 h1)
theorem fill255_take (l : List (BitVec 8)) (k n : Nat) (h : k + n ≤ 3584) (hl : 3584 ≤ l.length) : fill255 (l.take 3584) k n = (fill255 l k n).take 3584 := by
  unfold fill255
  have h1 : (l.take k).length = k := by rw [List.length_take]; omega
  rw [List.append_assoc, List.append_assoc, List.take_append, h1, List.take_append, List.length_replicate, List.take_of_length_le (l := l.take k) (by omega), List.take_of_length_le (l := List.replicate n 255#8) (by rw [List.length_replicate]; omega), List.take_take, Nat.min_eq_left (by omega), List.drop_take]
  rw [show 3584 - (k + n) = 3584 - k - n by omega]
theorem Rel.erased {s t' : Fs} {k : Nat} (hk : k < 14) (h : Rel (Fs.setEr s k (w64 (s.er k + 1))).stepS t') : Rel (s.erased k) { t' with b := fill255 t'.b (k * 256) s.eraseN } := by
  have e : (Fs.setEr s k (w64 (s.er k + 1))).stepS = Fs.setEr s.stepS k (w64 (s.stepS.er k + 1)) := by
    rw [setEr_step]; congr 2; unfold Fs.stepS; split <;> rfl
  rw [e] at h
  have hn := s.eraseN_le
  have hlen : 3584 ≤ s.stepS.b.length := h.len
  refine ⟨?_, ?_, h.er, h.wear, h.down, h.fused, h.torn, h.left⟩
  · show 3584 ≤ (fill255 s.stepS.b (k * 256) s.eraseN).length
    rw [fill255_len _ _ _ (by omega)]; exact hlen
  · show fill255 t'.b (k * 256) s.eraseN = (fill255 s.stepS.b (k * 256) s.eraseN).take 3584
    have hb : t'.b = s.stepS.b.take 3584 := h.b
    rw [hb, fill255_take _ _ _ (by omega) hlen]
theorem eraseR_c (p q : Nat) (s t : Fs) (h : Rel s t) (k : Int) (ro : RO) : C Try.prog 78 #[.pointer (some ⟨p, 0, none⟩), .int .i64 k] ro [refG p q t] fun v own => ∃ t', v = .int .i64 (s.erase k).2 ∧ own = [refG p q t'] ∧ Rel (s.erase k).1 t' := by
  have hd := h.down
  by_cases hk : 0 ≤ k ∧ k < 14
  · obtain ⟨hk0, hk1⟩ := hk
    obtain ⟨k', rfl⟩ := Int.eq_ofNat_of_zero_le hk0
    have her := ref_er q t k' (by omega)
    refine c_of_w2 (n := 63) Try.func78 rfl rfl rfl (by rfl) fun E => ?_
    repeat' (first | ((with_reducible refine g_wl ?_); (first | refine kN ?_ | ((with_reducible refine g_gd ?_); (refine kg rfl ?_)) | ((with_reducible refine g_mv ?_); (first | refine kp (pvm_move_p rfl) ?_ | refine kp (pvm_move_b rfl) ?_ | refine kp (pvm_move_i rfl) ?_)) | ((with_reducible refine g_as ?_); (refine kp (pvm_assign_i rfl) ?_)) | ((with_reducible refine g_pk ?_); (refine kp (pvk_f_b rfl rfl) ?_)) | ((with_reducible refine g_bo ?_); (first | refine kp (pv_lss rfl rfl) ?_ | refine kp (pv_geq rfl rfl) ?_)) | ((with_reducible refine g_ld ?_); (refine kd (opw_load Fb.h rfl (Has.own 0 0 rfl rfl) ?_))) | refine kp (pv_nilCheck rfl) ?_ | refine kp (pv_fieldAddr Ft.h rfl) ?_)) | with_reducible refine w_seq ?_ | with_reducible refine thenP_n ?_ | with_reducible refine thenP_r ?_ | with_reducible refine w_skip ?_ | with_reducible refine w_ret ?_ | (refine w_cond_dec rfl (fun _ => ?_) (fun _ => ?_) <;> try (exfalso; omega)) | refine w_cond rfl (fun _ => ?_) (fun _ => ?_) | (refine w_draw (id := 5) [] (hold (refG p q t)) Fa.mixed (hold_ok (by intro y hy; exact List.mem_append_left _ hy)) ?_; (refine wh_pure 0 rfl (by kernel_rfl) rfl rfl (pvm_move_p rfl) ?_); (refine wh_pure 1 rfl (by kernel_rfl) rfl rfl (pvm_move_i rfl) ?_); refine wh_pure 2 rfl (by kernel_rfl) rfl rfl (pv_nilCheck rfl) ?_; refine wh_pure 3 rfl (by kernel_rfl) rfl rfl (pv_fieldAddr FaReFlash5.fo_53_2 rfl) ?_; refine wh_pure 4 rfl (by kernel_rfl) rfl rfl (pv_indexAddr_arr1 FaReFlash5.ar_51 rfl rfl (by omega) (by omega)) ?_; (refine wh_load 5 rfl (by kernel_rfl) rfl rfl FaReFlash5.one_3 rfl (Has.hold 0 rfl her) ?_); (refine wh_pure 6 rfl (by kernel_rfl) rfl rfl (pvm_move_p rfl) ?_); refine wh_pure 7 rfl (by kernel_rfl) rfl rfl (pv_nilCheck rfl) ?_; refine wh_pure 8 rfl (by kernel_rfl) rfl rfl (pv_fieldAddr FaReFlash5.fo_53_1 rfl) ?_; (refine wh_load 9 rfl (by kernel_rfl) rfl rfl FaReFlash5.one_3 rfl (Has.hold 0 rfl rfl) ?_); refine wh_pure 10 rfl (by kernel_rfl) rfl rfl (pv_geq rfl rfl) ?_; (refine wh_done (by kernel_rfl) ?_)) | refine wr (id := 0) rfl ?_ | refine wr (id := 1) rfl ?_ | refine wr (id := 2) rfl ?_ | refine wr (id := 3) rfl ?_ | refine wr (id := 6) rfl ?_)
    · have hx : t.down = true := ‹_›
      rw [hd] at hx
      have e : s.erase (k' : Int) = (s, 11) := by unfold Fs.erase; rw [if_pos hx]
      rw [e]
      exact ret_r (v := .int .i64 _) rfl ⟨t, rfl, rfl, h⟩
    · have hx : t.down = false := ‹_›
      rw [hd] at hx
      have hw : t.wear ≤ t.er k' := ‹_›
      rw [h.wear, h.er] at hw
      have e : s.erase (k' : Int) = (s, 10) := by unfold Fs.erase; rw [if_neg (by simp [hx]), if_neg (by omega), Int.toNat_natCast, if_pos hw]
      rw [e]
      exact ret_r (v := .int .i64 _) rfl ⟨t, rfl, rfl, h⟩
    · have hx : t.down = false := ‹_›
      rw [hd] at hx
      have hw : ¬ t.wear ≤ t.er k' := ‹_›
      rw [h.wear, h.er] at hw
      have hset := h.setEr k' (w64 (t.er k' + 1))
      have hle := s.eraseN_le
      repeat' (first | ((with_reducible refine g_wl ?_); (first | refine kN ?_ | ((with_reducible refine g_as ?_); (refine kp (pvm_assign_i rfl) ?_)))) | with_reducible refine w_seq ?_ | with_reducible refine thenP_n ?_ | (refine w_draw (id := 7) [10] (hold (refG p q t)) Fa.mixed (hold_ok (by intro y hy; exact List.mem_append_left _ hy)) ?_; (refine wh_pure 0 rfl (by kernel_rfl) rfl rfl (pvm_move_p rfl) ?_); (refine wh_pure 1 rfl (by kernel_rfl) rfl rfl (pvm_move_i rfl) ?_); refine wh_pure 2 rfl (by kernel_rfl) rfl rfl (pv_nilCheck rfl) ?_; refine wh_pure 3 rfl (by kernel_rfl) rfl rfl (pv_fieldAddr FaReFlash5.fo_53_2 rfl) ?_; refine wh_pure 4 rfl (by kernel_rfl) rfl rfl (pv_indexAddr_arr1 FaReFlash5.ar_51 rfl rfl (by omega) (by omega)) ?_; (refine wh_load 5 rfl (by kernel_rfl) rfl rfl FaReFlash5.one_3 rfl (Has.hold 0 rfl her) ?_); (refine wh_pure 6 rfl (by kernel_rfl) rfl rfl (pv_add rfl rfl) ?_); refine wh_pure 7 rfl (by kernel_rfl) rfl rfl (pv_nilCheck rfl) ?_; refine wh_pure 8 rfl (by kernel_rfl) rfl rfl (pv_fieldAddr FaReFlash5.fo_53_2 rfl) ?_; refine wh_pure 9 rfl (by kernel_rfl) rfl rfl (pv_indexAddr_arr1 FaReFlash5.ar_51 rfl rfl (by omega) (by omega)) ?_; (refine wh_rel 10 (by kernel_rfl) rfl rfl rfl rfl (opw_storeO _ 0 0 FaReFlash5.sz_3 rfl rfl rfl rfl rfl (by show 0 + 2 + k' < 21; omega) (noFr_zero _ _) (ref_setEr q t k' _ (by omega)) ?_)); (refine wz_done (by kernel_rfl) ?_)) | refine wr (id := 8) rfl ?_)
      have hsd : (Fs.setEr s k' (w64 (t.er k' + 1))).stepS.down = s.stepS.down := by rw [setEr_step]; rfl
      have e : s.erase (k' : Int) = (s.erased k', if s.stepS.down then 11 else 0) := by unfold Fs.erase; rw [if_neg (by simp [hx]), if_neg (by omega), Int.toNat_natCast, if_neg hw]
      rw [e]
      cases hst : s.stepS.down with
      | true =>
        repeat' (first | ((with_reducible refine g_wl ?_); (first | refine kN ?_ | ((with_reducible refine g_mv ?_); (first | refine kp (pvm_move_p rfl) ?_ | refine kp (pvm_move_i rfl) ?_)) | ((with_reducible refine g_as ?_); (refine kp (pvm_assign_i rfl) ?_)) | ((with_reducible refine g_bo ?_); (refine kp (pv_irem rfl rfl (by omega)) ?_)) | ((with_reducible refine g_ld ?_); (refine kd (opw_load Fb.h rfl (Has.own 0 0 rfl rfl) ?_))) | ((with_reducible refine g_cb .max ?_); refine kp (pv_max rfl rfl) ?_) | ((with_reducible refine g_cf 55 ?_); (refine kd (opw_call Fb.h rfl [0] (stepR_c p q _ _ hset hx _) RoOk.self (fun v own h => ?_)); obtain ⟨t', rfl, rfl, hrel', hbt⟩ := h; rw [hsd, hst])) | refine kp (pv_not_f rfl) ?_ | refine kp (pv_nilCheck rfl) ?_ | refine kp (pv_fieldAddr Ft.h rfl) ?_)) | with_reducible refine w_seq ?_ | with_reducible refine thenP_n ?_ | with_reducible refine w_block ?_ | refine w_cond_true rfl ?_ | refine wr (id := 9) rfl ?_ | refine wr (id := 10) rfl ?_ | refine wr (id := 11) rfl ?_)
        have htl := hrel'.tlen
        rw [h.er] at hrel'
        have hN : max 0 t'.torn % 257 = (s.eraseN : Int) := by rw [Fs.eraseN_t hst, hrel'.torn, setEr_step]; rfl
        refine w_loop2 (ι := Nat) (fun i ρ ro' own => i ≤ s.eraseN ∧ Kn [(0, .pointer (some ⟨p, 0, none⟩)), (1, .int .i64 k'), (6, .int .i64 11), (48, .int .i64 s.eraseN), (49, .int .i64 i)] ρ ∧ ro' = ro ∧ own = [refG p q { t' with b := fill255 t'.b (k' * 256) i }]) (fun i => s.eraseN - i) 0 ⟨Nat.zero_le _, ⟨rfl, rfl, rfl, congrArg (Value.int .i64) hN, rfl, trivial⟩, rfl, by rw [fill255_zero]; rfl⟩ ?_
        rintro i ρ ro' own ⟨hi, hkn, rfl, rfl⟩
        obtain ⟨ρ', rfl⟩ := hkn.ex
        have hbl : (fill255 t'.b (k' * 256) i).length = 3584 := by rw [fill255_len _ _ _ (by omega)]; exact htl
        by_cases hlt : i < s.eraseN
        · repeat' (first | ((with_reducible refine g_wl ?_); (first | refine kN ?_ | ((with_reducible refine g_mv ?_); (first | refine kp (pvm_move_p rfl) ?_ | refine kp (pvm_move_i rfl) ?_)) | ((with_reducible refine g_as ?_); (refine kp (pvm_assign_i rfl) ?_)) | ((with_reducible refine g_bo ?_); (first | refine kp (pv_imul rfl rfl (by omega)) ?_ | refine kp (pv_iadd rfl rfl (by omega)) ?_ | refine kp (pv_lss rfl rfl) ?_)) | ((with_reducible refine g_ld ?_); (refine kd (opw_load Fb.h rfl (Has.own 0 0 rfl rfl) ?_))) | ((with_reducible refine g_st ?_); (refine kn (opw_storeArr (f := v8) (k' * 256 + i) 0 1 Ft.h rfl (v8_lit 255 rfl (by omega)) rfl rfl rfl (by omega) (by show _ < (fill255 t'.b (k' * 256) i).length; omega) ?_))) | refine kp (pv_nilCheck rfl) ?_ | refine kp (pv_fieldAddr Ft.h rfl) ?_ | refine kp (pv_indexAddr1 FaReFlash5.sl_22 rfl rfl (by omega) (by omega)) ?_)) | with_reducible refine w_seq ?_ | with_reducible refine thenP_n ?_ | with_reducible refine blockP_n ?_ | with_reducible refine w_skip ?_ | with_reducible refine w_block ?_ | (refine w_cond_dec rfl (fun _ => ?_) (fun _ => ?_) <;> try (exfalso; omega)) | refine wr (id := 12) rfl ?_ | refine wr (id := 13) rfl ?_ | refine wr (id := 14) rfl ?_ | refine wr (id := 15) rfl ?_)
          refine ⟨i + 1, _, Sub.refl, ⟨hlt, ⟨rfl, rfl, rfl, rfl, rfl, trivial⟩, rfl, ?_⟩, by omega⟩
          have := fill255_succ t'.b (k' * 256) i (by omega)
          show [refG p q { t' with b := (fill255 t'.b (k' * 256) i).set (k' * 256 + i) 255#8 }] = _
          rw [this]
        · obtain rfl : i = s.eraseN := by omega
          repeat' (first | ((with_reducible refine g_wl ?_); (first | refine kN ?_ | ((with_reducible refine g_mv ?_); (refine kp (pvm_move_i rfl) ?_)) | ((with_reducible refine g_as ?_); (refine kp (pvm_assign_i rfl) ?_)) | ((with_reducible refine g_bo ?_); refine kp (pv_lss rfl rfl) ?_))) | with_reducible refine w_seq ?_ | with_reducible refine thenP_n ?_ | with_reducible refine thenP_x ?_ | with_reducible refine blockP_eq ?_ | with_reducible refine w_ret ?_ | with_reducible refine w_exit ?_ | (refine w_cond_dec rfl (fun _ => ?_) (fun _ => ?_) <;> try (exfalso; omega)) | refine wr (id := 12) rfl ?_ | refine wr (id := 16) rfl ?_)
          exact ret_r (v := .int .i64 _) rfl ⟨_, rfl, rfl, hrel'.erased (by omega)⟩
      | false =>
        repeat' (first | ((with_reducible refine g_wl ?_); (first | refine kN ?_ | ((with_reducible refine g_mv ?_); (first | refine kp (pvm_move_p rfl) ?_ | refine kp (pvm_move_i rfl) ?_)) | ((with_reducible refine g_cf 55 ?_); (refine kd (opw_call Fb.h rfl [0] (stepR_c p q _ _ hset hx _) RoOk.self (fun v own h => ?_)); obtain ⟨t', rfl, rfl, hrel', hbt⟩ := h; rw [hsd, hst])) | refine kp (pv_not_t rfl) ?_)) | with_reducible refine w_seq ?_ | with_reducible refine thenP_n ?_ | with_reducible refine w_skip ?_ | with_reducible refine w_block ?_ | refine w_cond_false rfl ?_ | refine wr (id := 9) rfl ?_ | refine wr (id := 11) rfl ?_)
        have htl := hrel'.tlen
        rw [h.er] at hrel'
        have hN : (256 : Int) = (s.eraseN : Int) := by rw [Fs.eraseN_f hst]; rfl
        refine w_loop2 (ι := Nat) (fun i ρ ro' own => i ≤ s.eraseN ∧ Kn [(0, .pointer (some ⟨p, 0, none⟩)), (1, .int .i64 k'), (6, .int .i64 0), (48, .int .i64 s.eraseN), (49, .int .i64 i)] ρ ∧ ro' = ro ∧ own = [refG p q { t' with b := fill255 t'.b (k' * 256) i }]) (fun i => s.eraseN - i) 0 ⟨Nat.zero_le _, ⟨rfl, rfl, rfl, congrArg (Value.int .i64) hN, rfl, trivial⟩, rfl, by rw [fill255_zero]; rfl⟩ ?_
        rintro i ρ ro' own ⟨hi, hkn, rfl, rfl⟩
        obtain ⟨ρ', rfl⟩ := hkn.ex
        have hbl : (fill255 t'.b (k' * 256) i).length = 3584 := by rw [fill255_len _ _ _ (by omega)]; exact htl
        by_cases hlt : i < s.eraseN
        · repeat' (first | ((with_reducible refine g_wl ?_); (first | refine kN ?_ | ((with_reducible refine g_mv ?_); (first | refine kp (pvm_move_p rfl) ?_ | refine kp (pvm_move_i rfl) ?_)) | ((with_reducible refine g_as ?_); (refine kp (pvm_assign_i rfl) ?_)) | ((with_reducible refine g_bo ?_); (first | refine kp (pv_imul rfl rfl (by omega)) ?_ | refine kp (pv_iadd rfl rfl (by omega)) ?_ | refine kp (pv_lss rfl rfl) ?_)) | ((with_reducible refine g_ld ?_); (refine kd (opw_load Fb.h rfl (Has.own 0 0 rfl rfl) ?_))) | ((with_reducible refine g_st ?_); (refine kn (opw_storeArr (f := v8) (k' * 256 + i) 0 1 Ft.h rfl (v8_lit 255 rfl (by omega)) rfl rfl rfl (by omega) (by show _ < (fill255 t'.b (k' * 256) i).length; omega) ?_))) | refine kp (pv_nilCheck rfl) ?_ | refine kp (pv_fieldAddr Ft.h rfl) ?_ | refine kp (pv_indexAddr1 FaReFlash5.sl_22 rfl rfl (by omega) (by omega)) ?_)) | with_reducible refine w_seq ?_ | with_reducible refine thenP_n ?_ | with_reducible refine blockP_n ?_ | with_reducible refine w_skip ?_ | with_reducible refine w_block ?_ | (refine w_cond_dec rfl (fun _ => ?_) (fun _ => ?_) <;> try (exfalso; omega)) | refine wr (id := 12) rfl ?_ | refine wr (id := 13) rfl ?_ | refine wr (id := 14) rfl ?_ | refine wr (id := 15) rfl ?_)
          refine ⟨i + 1, _, Sub.refl, ⟨hlt, ⟨rfl, rfl, rfl, rfl, rfl, trivial⟩, rfl, ?_⟩, by omega⟩
          have := fill255_succ t'.b (k' * 256) i (by omega)
          show [refG p q { t' with b := (fill255 t'.b (k' * 256) i).set (k' * 256 + i) 255#8 }] = _
          rw [this]
        · obtain rfl : i = s.eraseN := by omega
          repeat' (first | ((with_reducible refine g_wl ?_); (first | refine kN ?_ | ((with_reducible refine g_mv ?_); (refine kp (pvm_move_i rfl) ?_)) | ((with_reducible refine g_as ?_); (refine kp (pvm_assign_i rfl) ?_)) | ((with_reducible refine g_bo ?_); refine kp (pv_lss rfl rfl) ?_))) | with_reducible refine w_seq ?_ | with_reducible refine thenP_n ?_ | with_reducible refine thenP_x ?_ | with_reducible refine blockP_eq ?_ | with_reducible refine w_ret ?_ | with_reducible refine w_exit ?_ | (refine w_cond_dec rfl (fun _ => ?_) (fun _ => ?_) <;> try (exfalso; omega)) | refine wr (id := 12) rfl ?_ | refine wr (id := 16) rfl ?_)
          exact ret_r (v := .int .i64 _) rfl ⟨_, rfl, rfl, hrel'.erased (by omega)⟩
  · refine c_of_w2 (n := 63) Try.func78 rfl rfl rfl (by rfl) fun E => ?_
    repeat' (first | ((with_reducible refine g_wl ?_); (first | refine kN ?_ | ((with_reducible refine g_gd ?_); (first | refine kg rfl ?_ | refine ks rfl ?_ | refine kc rfl rfl rfl (fun _ => ?_) (fun _ => ?_))) | ((with_reducible refine g_mv ?_); (first | refine kp (pvm_move_p rfl) ?_ | refine kp (pvm_move_b rfl) ?_ | refine kp (pvm_move_i rfl) ?_)) | ((with_reducible refine g_as ?_); (refine kp (pvm_assign_i rfl) ?_)) | ((with_reducible refine g_pk ?_); (first | refine kp (pvk_t_b rfl rfl) ?_ | refine kp (pvk_f_b rfl rfl) ?_)) | ((with_reducible refine g_bo ?_); (first | refine kp (pv_lss rfl rfl) ?_ | refine kp (pv_geq rfl rfl) ?_)) | ((with_reducible refine g_ld ?_); (refine kd (opw_load Fb.h rfl (Has.own 0 0 rfl rfl) ?_))) | refine kp (pv_nilCheck rfl) ?_ | refine kp (pv_fieldAddr Ft.h rfl) ?_)) | with_reducible refine w_seq ?_ | with_reducible refine thenP_n ?_ | with_reducible refine thenP_r ?_ | with_reducible refine w_skip ?_ | with_reducible refine w_ret ?_ | refine w_cond_true rfl ?_ | (refine w_cond_dec rfl (fun _ => ?_) (fun _ => ?_) <;> try (exfalso; omega)) | refine w_cond rfl (fun _ => ?_) (fun _ => ?_) | refine wr (id := 0) rfl ?_ | refine wr (id := 1) rfl ?_ | refine wr (id := 2) rfl ?_ | refine wr (id := 3) rfl ?_ | refine wr (id := 4) rfl ?_)
    all_goals refine ret_r (v := .int .i64 _) rfl ?_
    · have hx : t.down = true := ‹_›
      rw [hd] at hx
      have e : s.erase k = (s, 11) := by unfold Fs.erase; rw [if_pos hx]
      rw [e]; exact ⟨t, rfl, rfl, h⟩
    all_goals
      have hx : t.down = false := ‹_›
      rw [hd] at hx
      have e : s.erase k = (s, 1) := by unfold Fs.erase; rw [if_neg (by simp [hx]), if_pos (by omega)]
      rw [e]; exact ⟨t, rfl, rfl, h⟩
end Go.Proofs.Ytnohdfhhdppflaa
