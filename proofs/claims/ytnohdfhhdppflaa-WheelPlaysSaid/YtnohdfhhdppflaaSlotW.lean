/- Slots, walked (without the hash). -/
import Derived.Test.YtnohdfhhdppflaaFlashW4
import Derived.Test.YtnohdfhhdppflaaPlain
namespace Go.Proofs.Ytnohdfhhdppflaa
open Go Go.Vc Go.Fl
set_option linter.unusedVariables false
set_option linter.unusedSimpArgs false
set_option maxRecDepth 100000
set_option maxHeartbeats 4000000
namespace FaSlotW
theorem ca_10 : callable Try.prog 10 = true := by kernel_rfl
theorem ca_11 : callable Try.prog 11 = true := by kernel_rfl
theorem ca_37 : callable Try.prog 37 = true := by kernel_rfl
theorem ca_38 : callable Try.prog 38 = true := by kernel_rfl
theorem ca_39 : callable Try.prog 39 = true := by kernel_rfl
theorem ca_40 : callable Try.prog 40 = true := by kernel_rfl
theorem ca_41 : callable Try.prog 41 = true := by kernel_rfl
theorem ca_44 : callable Try.prog 44 = true := by kernel_rfl
theorem ca_58 : callable Try.prog 58 = true := by kernel_rfl
theorem ca_73 : callable Try.prog 73 = true := by kernel_rfl
theorem sl_22 : sliceOf Try.prog 22 = some (5, 1) := by kernel_rfl
instance : Fb (callable Try.prog 10) := ⟨ca_10⟩
instance : Fb (callable Try.prog 11) := ⟨ca_11⟩
instance : Fb (callable Try.prog 37) := ⟨ca_37⟩
instance : Fb (callable Try.prog 38) := ⟨ca_38⟩
instance : Fb (callable Try.prog 39) := ⟨ca_39⟩
instance : Fb (callable Try.prog 40) := ⟨ca_40⟩
instance : Fb (callable Try.prog 41) := ⟨ca_41⟩
instance : Fb (callable Try.prog 44) := ⟨ca_44⟩
instance : Fb (callable Try.prog 58) := ⟨ca_58⟩
instance : Fb (callable Try.prog 73) := ⟨ca_73⟩
instance : Ft (sliceOf Try.prog 22) (5, 1) := ⟨sl_22⟩
instance : Ft (Try.prog.underlying 25) (.pointer 80) := ⟨Try.underlying25⟩
end FaSlotW
attribute [local irreducible] PV OpW WL WM WH WZ W C Has RoOk

theorem may_c (a : Option Addr) (n c : Nat) (hn : n ≤ 1000000) (ro : RO) : C Try.prog 37 #[.slice a n c] ro [] fun v own => v = .bool (may n) ∧ own = [] := by
  refine c_of_w2 (n := 11) Try.func37 rfl rfl rfl (by rfl) fun E => ?_
  repeat' (first | ((with_reducible refine g_wl ?_); (first | refine kN ?_ | ((with_reducible refine g_gd ?_); (first | refine kg rfl ?_ | refine ks rfl ?_ | refine kc rfl rfl rfl (fun _ => ?_) (fun _ => ?_))) | ((with_reducible refine g_mv ?_); (first | refine kp (pvm_move_s rfl) ?_ | refine kp (pvm_move_b rfl) ?_)) | ((with_reducible refine g_as ?_); (refine kp (pvm_assign_b rfl) ?_)) | ((with_reducible refine g_pk ?_); (first | refine kp (pvk_t_b rfl rfl) ?_ | refine kp (pvk_f_b rfl rfl) ?_)) | ((with_reducible refine g_bo ?_); (first | refine kp (pv_geq rfl rfl) ?_ | refine kp (pv_leq rfl rfl) ?_)) | ((with_reducible refine g_cb .len ?_); refine kp (pv_len_slice Ft.h rfl) ?_))) | with_reducible refine w_seq ?_ | with_reducible refine thenP_n ?_ | with_reducible refine w_ret ?_ | refine wr rfl ?_)
  all_goals refine ret_r (v := .bool _) rfl ⟨?_, rfl⟩
  · have h : 1 ≤ (n : Int) := ‹_›
    unfold may; congr 1; rw [decide_eq_decide]; omega
  · have h : ¬ 1 ≤ (n : Int) := ‹_›
    unfold may; rw [decide_eq_false (by omega)]
theorem first_c (slot : Int) (h : -1000 ≤ slot ∧ slot ≤ 1000) (ro : RO) : C Try.prog 40 #[.int .i64 slot] ro [] fun v own => v = .int .i64 (2 + slot * 2) ∧ own = [] := by
  refine c_of_w2 (n := 6) Try.func40 rfl rfl rfl (by rfl) fun E => ?_
  repeat' (first | ((with_reducible refine g_wl ?_); (first | refine kN ?_ | ((with_reducible refine g_mv ?_); (refine kp (pvm_move_i rfl) ?_)) | ((with_reducible refine g_as ?_); (refine kp (pvm_assign_i rfl) ?_)) | ((with_reducible refine g_bo ?_); (first | refine kp (pv_imul rfl rfl (by omega)) ?_ | refine kp (pv_iadd rfl rfl (by omega)) ?_)))) | with_reducible refine w_seq ?_ | with_reducible refine thenP_n ?_ | with_reducible refine w_ret ?_ | refine wr rfl ?_)
  exact ret_r (v := .int .i64 _) rfl ⟨rfl, rfl⟩
theorem sRead_c (p q : Nat) (s : Fs) (hb : 3584 ≤ s.b.length) (slot n : Int) (ro : RO) : C Try.prog 11 #[.pointer (some ⟨p, 0, none⟩), .int .i64 slot, .int .i64 n] ro [flashG p q s] fun v own => ∃ bv g, v = .tuple #[bv, .int .i64 (s.sRead slot n).2] ∧ own = [g, flashG p q s] ∧ Sl v8 5 bv (s.sRead slot n).1 g := by
  by_cases hr : slotNo slot n
  · rw [show s.sRead slot n = ([], 1) from if_pos hr]
    unfold slotNo at hr
    refine c_of_w2 (n := 30) Try.func11 rfl rfl rfl (by rfl) fun E => ?_
    repeat' (first | ((with_reducible refine g_wl ?_); (first | refine kN ?_ | ((with_reducible refine g_gd ?_); (first | refine kg rfl ?_ | refine ks rfl ?_ | refine kc rfl rfl rfl (fun _ => ?_) (fun _ => ?_))) | ((with_reducible refine g_mv ?_); (first | refine kp (pvm_move_b rfl) ?_ | refine kp (pvm_move_i rfl) ?_)) | ((with_reducible refine g_as ?_); (first | refine kp (pvm_assign_s rfl) ?_ | refine kp (pvm_assign_i rfl) ?_)) | ((with_reducible refine g_pk ?_); (first | refine kp (pvk_t_b rfl rfl) ?_ | refine kp (pvk_f_b rfl rfl) ?_)) | ((with_reducible refine g_bo ?_); (first | refine kp (pv_neq rfl rfl) ?_ | refine kp (pv_lss rfl rfl) ?_ | refine kp (pv_gtr rfl rfl) ?_)))) | with_reducible refine w_seq ?_ | with_reducible refine thenP_n ?_ | with_reducible refine thenP_r ?_ | with_reducible refine w_ret ?_ | refine w_cond_true rfl ?_ | (refine w_cond_dec rfl (fun _ => ?_) (fun _ => ?_) <;> try (exfalso; omega)) | refine wr rfl ?_)
    all_goals first | (exfalso; omega) | exact ret_s [[], flashG p q s] rfl (Sub.flat rfl) ⟨_, [], rfl, rfl, Sl.nil⟩
  · rw [show s.sRead slot n = s.read ((2 + slot * 2) * 256) n from if_neg hr]
    unfold slotNo at hr
    refine c_of_w2 (n := 30) Try.func11 rfl rfl rfl (by rfl) fun E => ?_
    repeat' (first | ((with_reducible refine g_wl ?_); (first | refine kN ?_ | ((with_reducible refine g_gd ?_); (first | refine kg rfl ?_ | refine ks rfl ?_ | refine kc rfl rfl rfl (fun _ => ?_) (fun _ => ?_))) | ((with_reducible refine g_mv ?_); (first | refine kp (pvm_move_b rfl) ?_ | refine kp (pvm_move_p rfl) ?_ | refine kp (pvm_move_i rfl) ?_)) | ((with_reducible refine g_as ?_); (first | refine kp (pvm_assign_s rfl) ?_ | refine kp (pvm_assign_i rfl) ?_ | refine kp pv_assign ?_)) | ((with_reducible refine g_pk ?_); (first | refine kp (pvk_t_b rfl rfl) ?_ | refine kp (pvk_f_b rfl rfl) ?_)) | ((with_reducible refine g_bo ?_); (first | refine kp (pv_imul rfl rfl (by omega)) ?_ | refine kp (pv_neq rfl rfl) ?_ | refine kp (pv_lss rfl rfl) ?_ | refine kp (pv_gtr rfl rfl) ?_)) | ((with_reducible refine g_cf 40 ?_); (refine kd (opw_call Fb.h rfl [] (first_c slot (by omega) _) RoOk.self (fun v own h => ?_)); obtain ⟨rfl, rfl⟩ := h)) | ((with_reducible refine g_cf 44 ?_); (refine kd (opw_call Fb.h rfl [0] (read_c p q s hb _ n (by omega) _) RoOk.self (fun v own h => ?_)); obtain ⟨bv, g, rfl, rfl, hg⟩ := h)) | refine kp (pv_extract rfl rfl) ?_)) | with_reducible refine w_seq ?_ | with_reducible refine thenP_n ?_ | with_reducible refine thenP_r ?_ | with_reducible refine w_skip ?_ | with_reducible refine w_ret ?_ | refine w_cond_true rfl ?_ | (refine w_cond_dec rfl (fun _ => ?_) (fun _ => ?_) <;> try (exfalso; omega)) | refine wr rfl ?_)
    all_goals first | (exfalso; omega) | exact ret_r rfl ⟨_, _, rfl, rfl, ‹_›⟩
theorem clear_c (p q : Nat) (s : Fs) (hb : 3584 ≤ s.b.length) (slot : Int) (hslot : -1000 ≤ slot ∧ slot ≤ 1000) (ro : RO) : C Try.prog 39 #[.pointer (some ⟨p, 0, none⟩), .int .i64 slot] ro [flashG p q s] fun v own => v = .int .i64 (s.clear slot).2 ∧ own = [flashG p q (s.clear slot).1] := by
  have hlen := s.clr_len hb (2 + slot * 2 + 0)
  refine c_of_w2 (n := 26) Try.func39 rfl rfl rfl (by rfl) fun E => ?_
  repeat' (first | ((with_reducible refine g_wl ?_); (first | refine kN ?_ | ((with_reducible refine g_mv ?_); (refine kp (pvm_move_i rfl) ?_)) | ((with_reducible refine g_as ?_); (refine kp (pvm_assign_i rfl) ?_)))) | with_reducible refine w_seq ?_ | with_reducible refine thenP_n ?_ | with_reducible refine w_block ?_ | refine wr rfl ?_)
  refine w_loop2 (ι := Nat × Fs) (fun x ρ ro' own => x.1 ≤ 2 ∧ Kn [(0, .pointer (some ⟨p, 0, none⟩)), (1, .int .i64 slot), (8, .int .i64 x.1)] ρ ∧ ro' = ro ∧ own = [flashG p q x.2] ∧ 3584 ≤ x.2.b.length ∧ clrInv s slot x.1 x.2) (fun x => 2 - x.1) (0, s) ⟨Nat.zero_le _, ⟨rfl, rfl, rfl, trivial⟩, rfl, rfl, hb, fun _ => rfl, (by intro h; cases h), (by intro h; cases h)⟩ ?_
  rintro ⟨i, st⟩ ρ ro' own ⟨hi, hk, rfl, rfl, hb', hci⟩
  obtain ⟨ρ', rfl⟩ := hk.ex
  dsimp only at *
  by_cases hlt : i < 2
  · repeat' (first | ((with_reducible refine g_wl ?_); (first | refine kN ?_ | ((with_reducible refine g_mv ?_); (first | refine kp (pvm_move_p rfl) ?_ | refine kp (pvm_move_i rfl) ?_)) | ((with_reducible refine g_as ?_); (refine kp (pvm_assign_i rfl) ?_)) | ((with_reducible refine g_bo ?_); (first | refine kp (pv_iadd rfl rfl (by omega)) ?_ | refine kp (pv_imul rfl rfl (by omega)) ?_ | refine kp (pv_lss rfl rfl) ?_ | refine kp (pv_neq rfl rfl) ?_)) | ((with_reducible refine g_cf 40 ?_); (refine kd (opw_call Fb.h rfl [] (first_c slot hslot _) RoOk.self (fun v own h => ?_)); obtain ⟨rfl, rfl⟩ := h)) | ((with_reducible refine g_cf 58 ?_); (refine kd (opw_call Fb.h rfl [0] (blank_c p q st hb' _ 256 (by omega) _) RoOk.self (fun v own h => ?_)); obtain ⟨rfl, rfl⟩ := h)) | ((with_reducible refine g_cf 73 ?_); (refine kd (opw_call Fb.h rfl [0] (erase_c p q st hb' _ _) RoOk.self (fun v own h => ?_)); obtain ⟨rfl, rfl⟩ := h)))) | with_reducible refine w_seq ?_ | with_reducible refine thenP_n ?_ | with_reducible refine thenP_x ?_ | with_reducible refine thenP_r ?_ | with_reducible refine blockP_n ?_ | with_reducible refine blockP_r ?_ | with_reducible refine blockP_eq ?_ | with_reducible refine w_skip ?_ | with_reducible refine w_ret ?_ | with_reducible refine w_exit ?_ | with_reducible refine w_block ?_ | (refine w_cond_dec rfl (fun _ => ?_) (fun _ => ?_) <;> try (exfalso; omega)) | refine w_cond rfl (fun _ => ?_) (fun _ => ?_) | refine wr rfl ?_)
    · have hbl : st.blank ((2 + slot * 2 + (i : Int)) * 256) 256 = true := ‹_›
      have e : st.clr (2 + slot * 2 + (i : Int)) = (st, 0) := if_pos hbl
      refine ⟨(i + 1, st), _, Sub.refl, ⟨hlt, ⟨rfl, rfl, rfl, trivial⟩, rfl, rfl, hb', ?_⟩, by dsimp only; omega⟩
      have := clrInv_succ hci hlt (by rw [e]); rwa [e] at this
    · have hbl : st.blank ((2 + slot * 2 + (i : Int)) * 256) 256 = false := ‹_›
      have e : st.clr (2 + slot * 2 + (i : Int)) = st.erase (2 + slot * 2 + (i : Int)) := if_neg (by simp [hbl])
      have hne : (st.erase (2 + slot * 2 + (i : Int))).2 ≠ 0 := ‹_›
      have := clrInv_stop hci hlt (by rw [e]; exact hne)
      rw [this, e]
      exact ret_s (v := .int .i64 _) [flashG p q (st.erase (2 + slot * 2 + (i : Int))).1] rfl (Sub.pk' [0] rfl) ⟨rfl, rfl⟩
    · have hbl : st.blank ((2 + slot * 2 + (i : Int)) * 256) 256 = false := ‹_›
      have e : st.clr (2 + slot * 2 + (i : Int)) = st.erase (2 + slot * 2 + (i : Int)) := if_neg (by simp [hbl])
      have hne : ¬ (st.erase (2 + slot * 2 + (i : Int))).2 ≠ 0 := ‹_›
      refine ⟨(i + 1, (st.erase (2 + slot * 2 + (i : Int))).1), _, Sub.refl, ⟨hlt, ⟨rfl, rfl, rfl, trivial⟩, rfl, rfl, by dsimp only; rw [Fs.erase_len _ hb']; exact hb', ?_⟩, by dsimp only; omega⟩
      have := clrInv_succ hci hlt (by rw [e]; simpa using hne); rwa [e] at this
  · repeat' (first | ((with_reducible refine g_wl ?_); (first | refine kN ?_ | ((with_reducible refine g_as ?_); (refine kp (pvm_assign_i rfl) ?_)) | ((with_reducible refine g_bo ?_); (refine kp (pv_lss rfl rfl) ?_)))) | with_reducible refine w_seq ?_ | with_reducible refine thenP_n ?_ | with_reducible refine thenP_x ?_ | with_reducible refine blockP_eq ?_ | with_reducible refine w_ret ?_ | with_reducible refine w_exit ?_ | (refine w_cond_dec rfl (fun _ => ?_) (fun _ => ?_) <;> try (exfalso; omega)) | refine wr rfl ?_)
    obtain rfl : i = 2 := by omega
    rw [hci.2.2 rfl]
    exact ret_r (v := .int .i64 _) rfl ⟨rfl, rfl⟩
theorem ret_x {P : Program} {rs : List ResultVar} {ρ : Fr} {ro : RO} {own : List Blks} {p q : Nat} {y x : Fs × Int} (own2 : List Blks) (hv : Res P rs ρ ro own (.int .i64 x.2)) (hs : Sub own2 own) (ho : own2 = [flashG p q x.1]) (e : y = x) :
    retP2 P rs (fun v own => v = .int .i64 y.2 ∧ own = [flashG p q y.1]) .ret ρ ro own := by subst e; subst ho; exact ret_s _ hv hs ⟨rfl, rfl⟩
theorem write_c (p q : Nat) (s : Fs) (hb : 3584 ≤ s.b.length) (slot : Int) (a : Option Addr) (c : Nat) (xs : List (BitVec 8)) (hl : xs.length ≤ 1000000) (ro : RO) (hs : SlR v8 (.slice a xs.length c) xs ro) :
    C Try.prog 9 #[.pointer (some ⟨p, 0, none⟩), .int .i64 slot, .slice a xs.length c] ro [flashG p q s] fun v own => v = .int .i64 (s.write slot xs).2 ∧ own = [flashG p q (s.write slot xs).1] := by
  refine c_of_w2 (n := 60) Try.func9 rfl rfl rfl (by rfl) fun E => ?_
  have hc := s.clear_len hb slot
  have hp := Fs.program_len (s.clear slot).1 ((2 + slot * 2) * 256) xs
  have hrl := Fs.sRead_len ((s.clear slot).1.program ((2 + slot * 2) * 256) xs).1 slot xs.length
  repeat' (first | ((with_reducible refine g_wl ?_); (first | refine kN ?_ | ((with_reducible refine g_gd ?_); (first | refine kg rfl ?_ | refine ks rfl ?_ | refine kc rfl rfl rfl (fun _ => ?_) (fun _ => ?_))) | ((with_reducible refine g_mv ?_); (first | refine kp (pvm_move_p rfl) ?_ | refine kp (pvm_move_b rfl) ?_ | refine kp (pvm_move_s rfl) ?_ | refine kp (pvm_move_t rfl) ?_ | refine kp (pvm_move_i rfl) ?_)) | ((with_reducible refine g_as ?_); (first | refine kp (pvm_assign_s rfl) ?_ | refine kp (pvm_assign_i rfl) ?_)) | ((with_reducible refine g_pk ?_); (first | refine kp (pvk_t_b rfl rfl) ?_ | refine kp (pvk_f_b rfl rfl) ?_)) | ((with_reducible refine g_bo ?_); (first | refine kp (pv_ptr_nil Ft.h rfl rfl) ?_ | refine kp (pv_imul rfl rfl (by omega)) ?_ | refine kp (pv_neq rfl rfl) ?_ | refine kp (pv_eql rfl rfl) ?_)) | ((with_reducible refine g_cb .len ?_); refine kp (pv_len_slice Ft.h rfl) ?_) | ((with_reducible refine g_cf 10 ?_); (refine kd (opw_call Fb.h rfl [0] (program_c p q _ (by omega) _ a c xs hl _ hs) RoOk.self (fun v own h => ?_)); obtain ⟨rfl, rfl⟩ := h)) | ((with_reducible refine g_cf 11 ?_); (refine kd (opw_call Fb.h rfl [0] (sRead_c p q _ (by omega) slot _ _) RoOk.self (fun v own h => ?_)); obtain ⟨bv, g, rfl, rfl, hg⟩ := h; obtain ⟨a2, c2, rfl, hle⟩ := hg.slice; obtain ⟨r2, hr2, hok2⟩ := hg.ro)) | ((with_reducible refine g_cf 37 ?_); (refine kd (opw_call Fb.h rfl [] (may_c _ _ _ hl _) RoOk.self (fun v own h => ?_)); obtain ⟨rfl, rfl⟩ := h)) | ((with_reducible refine g_cf 38 ?_); (refine kd (opw_call Fb.h rfl [0] (down_c p q s _) RoOk.self (fun v own h => ?_)); obtain ⟨rfl, rfl⟩ := h)) | ((with_reducible refine g_cf 39 ?_); (refine kd (opw_call Fb.h rfl [0] (clear_c p q s hb slot (by omega) _) RoOk.self (fun v own h => ?_)); obtain ⟨rfl, rfl⟩ := h)) | ((with_reducible refine g_cf 40 ?_); (refine kd (opw_call Fb.h rfl [] (first_c slot (by omega) _) RoOk.self (fun v own h => ?_)); obtain ⟨rfl, rfl⟩ := h)) | ((with_reducible refine g_cf 41 ?_); (refine kd (opw_call Fb.h rfl [] (equal8_c a2 a c2 c _ xs (by omega) hl (r2 ++ ro) (hr2.mono (fun _ h => List.mem_append_left _ h)) (hs.mono (fun _ h => List.mem_append_right _ h))) (RoOk.append (hok2 _ _ (List.mem_append_left _ (List.mem_cons_self ..))) RoOk.self) (fun v own h => ?_)); obtain ⟨rfl, rfl⟩ := h)) | refine kp (pv_extract rfl rfl) ?_ | refine kp (pv_not rfl) ?_)) | with_reducible refine w_seq ?_ | with_reducible refine thenP_n ?_ | with_reducible refine thenP_r ?_ | with_reducible refine w_skip ?_ | with_reducible refine w_ret ?_ | refine w_cond_true rfl ?_ | refine w_cond_false rfl ?_ | (refine w_cond_dec rfl (fun _ => ?_) (fun _ => ?_) <;> try (exfalso; omega)) | (refine w_cond_ndec rfl (fun _ => ?_) (fun _ => ?_) <;> try (exfalso; omega)) | refine w_cond rfl (fun _ => ?_) (fun _ => ?_) | refine wr rfl ?_)
  all_goals first
    | (refine ret_x (x := (s, 1)) [flashG p q s] rfl (Sub.flat rfl) rfl ?_)
    | (refine ret_x (x := (s, 11)) [flashG p q s] rfl (Sub.flat rfl) rfl ?_)
    | (refine ret_x (x := s.clear slot) [flashG p q (s.clear slot).1] rfl (Sub.flat rfl) rfl ?_)
    | (refine ret_x (x := (s.clear slot).1.program ((2 + slot * 2) * 256) xs) [flashG p q _] rfl (Sub.flat rfl) rfl ?_)
    | (refine ret_x (x := (((s.clear slot).1.program ((2 + slot * 2) * 256) xs).1, 13)) [flashG p q _] rfl (Sub.pk' [1] rfl) rfl ?_)
    | (refine ret_x (x := (((s.clear slot).1.program ((2 + slot * 2) * 256) xs).1, (((s.clear slot).1.program ((2 + slot * 2) * 256) xs).1.sRead slot xs.length).2)) [flashG p q _] rfl (Sub.pk' [1] rfl) rfl ?_)
    | skip
  all_goals clear hb hs hc hp hrl E
  all_goals try clear hg
  all_goals try clear hr2 hok2 hle
  all_goals try (simp_all [Fs.write, Fs.write2, may]; done)
end Go.Proofs.Ytnohdfhhdppflaa
