/- The reference's slots, walked: WriteSlot, RightSlot; slots of a flash that there isn't. -/
import Derived.Test.YtnohdfhhdppflaaReFlash6
namespace Go.Proofs.Ytnohdfhhdppflaa
open Go Go.Vc Go.Fl
set_option linter.unusedVariables false
set_option linter.unusedSimpArgs false
set_option maxRecDepth 100000
set_option maxHeartbeats 4000000
namespace FaReFlash7
theorem ca_17 : callable Try.prog 17 = true := by kernel_rfl
theorem ca_21 : callable Try.prog 21 = true := by kernel_rfl
theorem ca_24 : callable Try.prog 24 = true := by kernel_rfl
theorem ca_40 : callable Try.prog 40 = true := by kernel_rfl
theorem ca_42 : callable Try.prog 42 = true := by kernel_rfl
theorem ca_44 : callable Try.prog 44 = true := by kernel_rfl
theorem ca_51 : callable Try.prog 51 = true := by kernel_rfl
theorem ca_52 : callable Try.prog 52 = true := by kernel_rfl
theorem fo_37_1 : fieldOff Try.prog 37 1 = some 1 := by kernel_rfl
theorem fo_37_2 : fieldOff Try.prog 37 2 = some 2 := by kernel_rfl
theorem fo_53_3 : fieldOff Try.prog 53 3 = some 16 := by kernel_rfl
theorem fo_80_0 : fieldOff Try.prog 80 0 = some 0 := by kernel_rfl
theorem fo_80_3 : fieldOff Try.prog 80 3 = some 16 := by kernel_rfl
theorem one_22 : isOne Try.prog 22 = true := by kernel_rfl
theorem one_3 : isOne Try.prog 3 = true := by kernel_rfl
theorem one_4 : isOne Try.prog 4 = true := by kernel_rfl
theorem sl_22 : sliceOf Try.prog 22 = some (5, 1) := by kernel_rfl
instance : Fb (callable Try.prog 17) := ⟨ca_17⟩
instance : Fb (callable Try.prog 21) := ⟨ca_21⟩
instance : Fb (callable Try.prog 24) := ⟨ca_24⟩
instance : Fb (callable Try.prog 40) := ⟨ca_40⟩
instance : Fb (callable Try.prog 42) := ⟨ca_42⟩
instance : Fb (callable Try.prog 44) := ⟨ca_44⟩
instance : Fb (callable Try.prog 51) := ⟨ca_51⟩
instance : Fb (callable Try.prog 52) := ⟨ca_52⟩
instance : Ft (fieldOff Try.prog 37 1) (1) := ⟨fo_37_1⟩
instance : Ft (fieldOff Try.prog 37 2) (2) := ⟨fo_37_2⟩
instance : Ft (fieldOff Try.prog 53 3) (16) := ⟨fo_53_3⟩
instance : Ft (fieldOff Try.prog 80 0) (0) := ⟨fo_80_0⟩
instance : Ft (fieldOff Try.prog 80 3) (16) := ⟨fo_80_3⟩
instance : Fb (isOne Try.prog 22) := ⟨one_22⟩
instance : Fb (isOne Try.prog 3) := ⟨one_3⟩
instance : Fb (isOne Try.prog 4) := ⟨one_4⟩
instance : Ft (sliceOf Try.prog 22) (5, 1) := ⟨sl_22⟩
instance : Ft (Try.prog.underlying 5) (.int .u8) := ⟨Try.underlying5⟩
instance : Ft (Try.prog.underlying 9) (.string) := ⟨Try.underlying9⟩
instance : Ft (Try.prog.underlying 22) (.slice 5) := ⟨Try.underlying22⟩
instance : Ft (Try.prog.underlying 25) (.pointer 80) := ⟨Try.underlying25⟩
end FaReFlash7
attribute [local irreducible] PV OpW WL WM WH WZ W C Has RoOk

theorem Rel.bsl {s t : Fs} (h : Rel s t) : 3584 ≤ s.b.length := h.len
theorem ret_xr {P : Program} {rs : List ResultVar} {ρ : Fr} {ro : RO} {own : List Blks} {p q : Nat} {y x : Fs × Int} {t : Fs} (own2 : List Blks) (hv : Res P rs ρ ro own (.int .i64 x.2)) (hs : Sub own2 own) (ho : own2 = [refG p q t]) (hr : Rel x.1 t) (e : y = x) :
    retP2 P rs (fun v own => ∃ t', v = .int .i64 y.2 ∧ own = [refG p q t'] ∧ Rel y.1 t') .ret ρ ro own := by subst e; subst ho; exact ret_s _ hv hs ⟨t, rfl, rfl, hr⟩
theorem writeR_c (p q : Nat) (s t : Fs) (h : Rel s t) (slot : Int) (a : Option Addr) (c : Nat) (xs : List (BitVec 8)) (hl : xs.length ≤ 1000000) (ro : RO) (hs : SlR v8 (.slice a xs.length c) xs ro) :
    C Try.prog 20 #[.pointer (some ⟨p, 0, none⟩), .int .i64 slot, .slice a xs.length c] ro [refG p q t] fun v own => ∃ t', v = .int .i64 (s.write slot xs).2 ∧ own = [refG p q t'] ∧ Rel (s.write slot xs).1 t' := by
  have hb := h.len
  have hd := h.down
  have hc := s.clear_len hb slot
  have hp := Fs.program_len (s.clear slot).1 ((2 + slot * 2) * 256) xs
  have hrl := Fs.sRead_len ((s.clear slot).1.program ((2 + slot * 2) * 256) xs).1 slot xs.length
  by_cases hok : (slot = 0 ∨ slot = 1) ∧ 1 ≤ xs.length ∧ xs.length ≤ 512
  · obtain ⟨h01, hx1, hx2⟩ := hok
    have hmay : may xs.length = true := by unfold may; rw [decide_eq_true ⟨hx1, hx2⟩]
    refine c_of_w2 (n := 70) Try.func20 rfl rfl rfl (by rfl) fun E => ?_
    repeat' (first | ((with_reducible refine g_wl ?_); (first | refine kN ?_ | ((with_reducible refine g_gd ?_); (first | refine kg rfl ?_ | refine ks rfl ?_ | refine kc rfl rfl rfl (fun _ => ?_) (fun _ => ?_))) | ((with_reducible refine g_mv ?_); (first | refine kp (pvm_move_b rfl) ?_ | refine kp (pvm_move_s rfl) ?_ | refine kp (pvm_move_p rfl) ?_ | refine kp (pvm_move_i rfl) ?_)) | ((with_reducible refine g_as ?_); (refine kp (pvm_assign_i rfl) ?_)) | ((with_reducible refine g_pk ?_); (first | refine kp (pvk_t_b rfl rfl) ?_ | refine kp (pvk_f_b rfl rfl) ?_)) | ((with_reducible refine g_bo ?_); (first | refine kp (pv_lss rfl rfl) ?_ | refine kp (pv_gtr rfl rfl) ?_)) | ((with_reducible refine g_ld ?_); (refine kd (opw_load Fb.h rfl (Has.own 0 0 rfl rfl) ?_))) | ((with_reducible refine g_cb .len ?_); refine kp (pv_len_slice Ft.h rfl) ?_) | refine kp (pv_nilCheck rfl) ?_ | refine kp (pv_fieldAddr Ft.h rfl) ?_)) | with_reducible refine w_seq ?_ | with_reducible refine thenP_n ?_ | with_reducible refine thenP_r ?_ | with_reducible refine w_skip ?_ | with_reducible refine w_ret ?_ | with_reducible refine w_block ?_ | refine w_cond_true rfl ?_ | (refine w_cond_dec rfl (fun _ => ?_) (fun _ => ?_) <;> try (exfalso; omega)) | refine w_cond rfl (fun _ => ?_) (fun _ => ?_) | refine wr (id := 0) rfl ?_ | refine wr (id := 1) rfl ?_ | refine wr (id := 2) rfl ?_ | refine wr (id := 3) rfl ?_ | refine wr (id := 4) rfl ?_ | refine wr (id := 5) rfl ?_)
    all_goals try (exfalso; omega)
    · have hx : t.down = true := ‹_›
      rw [hd] at hx
      refine ret_xr (x := (s, 11)) [refG p q t] rfl (Sub.flat rfl) rfl h ?_
      unfold Fs.write; rw [if_neg (by rw [hmay]; simp; omega), if_pos hx]
    all_goals
      have hx : t.down = false := ‹_›
      rw [hd] at hx
      have hw : s.write slot xs = if (s.clear slot).2 ≠ 0 then s.clear slot else (s.clear slot).1.write2 slot xs := by
        unfold Fs.write; rw [if_neg (by rw [hmay]; simp; omega), if_neg (by simp [hx])]
      refine w_loop2 (ι := Nat × Fs × Fs) (fun x ρ ro' own => x.1 ≤ 2 ∧ Kn [(0, .pointer (some ⟨p, 0, none⟩)), (1, .int .i64 slot), (2, .slice a xs.length c), (32, .int .i64 x.1)] ρ ∧ ro' = ro ∧ own = [refG p q x.2.2] ∧ Rel x.2.1 x.2.2 ∧ clrInv s slot x.1 x.2.1) (fun x => 2 - x.1) (0, s, t) ⟨Nat.zero_le _, ⟨rfl, rfl, rfl, rfl, trivial⟩, rfl, rfl, h, fun _ => rfl, (by intro h; cases h), (by intro h; cases h)⟩ ?_
      rintro ⟨i, st, tt⟩ ρ ro' own ⟨hi, hk, rfl, rfl, hrel, hci⟩
      obtain ⟨ρ', rfl⟩ := hk.ex
      dsimp only at *
      by_cases hlt : i < 2
      · repeat' (first | ((with_reducible refine g_wl ?_); (first | refine kN ?_ | ((with_reducible refine g_mv ?_); (first | refine kp (pvm_move_p rfl) ?_ | refine kp (pvm_move_i rfl) ?_)) | ((with_reducible refine g_as ?_); (refine kp (pvm_assign_i rfl) ?_)) | ((with_reducible refine g_bo ?_); (first | refine kp (pv_imul rfl rfl (by omega)) ?_ | refine kp (pv_iadd rfl rfl (by omega)) ?_ | refine kp (pv_lss rfl rfl) ?_ | refine kp (pv_neq rfl rfl) ?_)) | ((with_reducible refine g_cf 51 ?_); (refine kd (opw_call Fb.h rfl [0] (clearR_c p q st tt hrel _ (by omega) _) RoOk.self (fun v own h => ?_)); obtain ⟨t', rfl, rfl, hrel'⟩ := h; rw [show 2 + 2 * slot + (i : Int) = 2 + slot * 2 + (i : Int) by omega] at hrel' ⊢)))) | with_reducible refine w_seq ?_ | with_reducible refine thenP_n ?_ | with_reducible refine thenP_r ?_ | with_reducible refine blockP_n ?_ | with_reducible refine blockP_r ?_ | with_reducible refine w_skip ?_ | with_reducible refine w_ret ?_ | with_reducible refine w_block ?_ | (refine w_cond_dec rfl (fun _ => ?_) (fun _ => ?_) <;> try (exfalso; omega)) | refine wr (id := 6) rfl ?_ | refine wr (id := 7) rfl ?_ | refine wr (id := 8) rfl ?_ | refine wr (id := 9) rfl ?_ | refine wr (id := 10) rfl ?_ | refine wr (id := 11) rfl ?_)
        · have hne : (st.clr (2 + slot * 2 + (i : Int))).2 ≠ 0 := ‹_›
          have e := clrInv_stop hci hlt hne
          rw [e, if_pos hne] at hw
          exact ret_xr (x := st.clr (2 + slot * 2 + (i : Int))) [refG p q t'] rfl (Sub.flat rfl) rfl hrel' hw
        · have hne : ¬ (st.clr (2 + slot * 2 + (i : Int))).2 ≠ 0 := ‹_›
          exact ⟨(i + 1, (st.clr (2 + slot * 2 + (i : Int))).1, t'), _, Sub.refl, ⟨hlt, ⟨rfl, rfl, rfl, rfl, trivial⟩, rfl, rfl, hrel', clrInv_succ hci hlt (by simpa using hne)⟩, by dsimp only; omega⟩
      · obtain rfl : i = 2 := by omega
        have hcl := hci.2.2 rfl
        rw [hcl] at hw hp hrl
        rw [if_neg (by simp)] at hw
        unfold Fs.write2 at hw
        repeat' (first | ((with_reducible refine g_wl ?_); (first | refine kN ?_ | ((with_reducible refine g_mv ?_); (first | refine kp (pvm_move_p rfl) ?_ | refine kp (pvm_move_s rfl) ?_ | refine kp (pvm_move_t rfl) ?_ | refine kp (pvm_move_i rfl) ?_)) | ((with_reducible refine g_as ?_); (first | refine kp (pvm_assign_s rfl) ?_ | refine kp (pvm_assign_i rfl) ?_)) | ((with_reducible refine g_bo ?_); (first | refine kp (pv_vstr_neq rfl rfl) ?_ | refine kp (pv_lss rfl rfl) ?_ | refine kp (pv_neq rfl rfl) ?_)) | ((with_reducible refine g_cv ?_); (first | refine kd (opw_str Ft.h Ft.h Ft.h rfl rfl (Sl.rd hg (i := 0) rfl) ?_) | refine kd (opw_str Ft.h Ft.h Ft.h rfl rfl (hs.rd _) ?_))) | ((with_reducible refine g_cb .len ?_); refine kp (pv_len_slice Ft.h rfl) ?_) | ((with_reducible refine g_cf 21 ?_); (refine kd (opw_call Fb.h rfl [0] (readSlotR_c p q _ t2 hrel2 slot _ _) RoOk.self (fun v own h => ?_)); obtain ⟨bv, g, rfl, rfl, hg⟩ := h; obtain ⟨a2, c2, rfl, hle⟩ := hg.slice)) | ((with_reducible refine g_cf 24 ?_); (refine kd (opw_call Fb.h rfl [0] (programR_c p q st tt hrel _ a c xs hl _ hs) RoOk.self (fun v own h => ?_)); obtain ⟨t2, rfl, rfl, hrel2⟩ := h)) | ((with_reducible refine g_cf 52 ?_); (refine kd (opw_call Fb.h rfl [] (placeR_c slot (by omega) _) RoOk.self (fun v own h => ?_)); obtain ⟨rfl, rfl⟩ := h)) | refine kp (pv_extract rfl rfl) ?_)) | with_reducible refine w_seq ?_ | with_reducible refine thenP_n ?_ | with_reducible refine thenP_x ?_ | with_reducible refine thenP_r ?_ | with_reducible refine blockP_eq ?_ | with_reducible refine w_skip ?_ | with_reducible refine w_ret ?_ | with_reducible refine w_exit ?_ | refine w_cond_false rfl ?_ | (refine w_cond_dec rfl (fun _ => ?_) (fun _ => ?_) <;> try (exfalso; omega)) | refine wr (id := 6) rfl ?_ | refine wr (id := 12) rfl ?_ | refine wr (id := 13) rfl ?_ | refine wr (id := 14) rfl ?_ | refine wr (id := 15) rfl ?_ | refine wr (id := 16) rfl ?_ | refine wr (id := 17) rfl ?_ | refine wr (id := 18) rfl ?_ | refine wr (id := 19) rfl ?_ | refine wr (id := 20) rfl ?_)
        · have h1 : (st.program ((2 + slot * 2) * 256) xs).2 ≠ 0 := ‹_›
          rw [if_pos h1] at hw
          exact ret_xr (x := st.program ((2 + slot * 2) * 256) xs) [refG p q t2] rfl (Sub.flat rfl) rfl hrel2 hw
        · have h1 : ¬ (st.program ((2 + slot * 2) * 256) xs).2 ≠ 0 := ‹_›
          have h2 : ((st.program ((2 + slot * 2) * 256) xs).1.sRead slot xs.length).2 ≠ 0 := ‹_›
          rw [if_neg h1, if_neg (fun hh => h2 hh.1)] at hw
          exact ret_xr (x := ((st.program ((2 + slot * 2) * 256) xs).1, ((st.program ((2 + slot * 2) * 256) xs).1.sRead slot xs.length).2)) [refG p q t2] rfl (Sub.pk' [1] rfl) rfl hrel2 hw
        · have h1 : ¬ (st.program ((2 + slot * 2) * 256) xs).2 ≠ 0 := ‹_›
          have h2 : ¬ ((st.program ((2 + slot * 2) * 256) xs).1.sRead slot xs.length).2 ≠ 0 := ‹_›
          have h3 : ((st.program ((2 + slot * 2) * 256) xs).1.sRead slot xs.length).1 ≠ xs := ‹_›
          rw [if_neg h1, if_pos ⟨by simpa using h2, h3⟩] at hw
          exact ret_xr (x := ((st.program ((2 + slot * 2) * 256) xs).1, 13)) [refG p q t2] rfl (Sub.pk' [1] rfl) rfl hrel2 hw
        · have h1 : ¬ (st.program ((2 + slot * 2) * 256) xs).2 ≠ 0 := ‹_›
          have h2 : ¬ ((st.program ((2 + slot * 2) * 256) xs).1.sRead slot xs.length).2 ≠ 0 := ‹_›
          have h3 : ¬ ((st.program ((2 + slot * 2) * 256) xs).1.sRead slot xs.length).1 ≠ xs := ‹_›
          have h2' : ((st.program ((2 + slot * 2) * 256) xs).1.sRead slot xs.length).2 = 0 := by simpa using h2
          rw [if_neg h1, if_neg (fun hh => h3 hh.2), h2'] at hw
          exact ret_xr (x := ((st.program ((2 + slot * 2) * 256) xs).1, 0)) [refG p q t2] rfl (Sub.pk' [1] rfl) rfl hrel2 hw
  · have e : s.write slot xs = (s, 1) := by
      unfold Fs.write; rw [if_pos]
      by_cases h01 : slot = 0 ∨ slot = 1
      · right; unfold may; rw [decide_eq_false (fun hh => hok ⟨h01, hh⟩)]
      · left; omega
    rw [e]
    refine c_of_w2 (n := 70) Try.func20 rfl rfl rfl (by rfl) fun E => ?_
    repeat' (first | ((with_reducible refine g_wl ?_); (first | refine kN ?_ | ((with_reducible refine g_gd ?_); (first | refine kg rfl ?_ | refine ks rfl ?_ | refine kc rfl rfl rfl (fun _ => ?_) (fun _ => ?_))) | ((with_reducible refine g_mv ?_); (first | refine kp (pvm_move_b rfl) ?_ | refine kp (pvm_move_s rfl) ?_ | refine kp (pvm_move_i rfl) ?_)) | ((with_reducible refine g_as ?_); (refine kp (pvm_assign_i rfl) ?_)) | ((with_reducible refine g_pk ?_); (first | refine kp (pvk_t_b rfl rfl) ?_ | refine kp (pvk_f_b rfl rfl) ?_)) | ((with_reducible refine g_bo ?_); (first | refine kp (pv_lss rfl rfl) ?_ | refine kp (pv_gtr rfl rfl) ?_)) | ((with_reducible refine g_cb .len ?_); refine kp (pv_len_slice Ft.h rfl) ?_))) | with_reducible refine w_seq ?_ | with_reducible refine thenP_n ?_ | with_reducible refine thenP_r ?_ | with_reducible refine w_ret ?_ | refine w_cond_true rfl ?_ | (refine w_cond_dec rfl (fun _ => ?_) (fun _ => ?_) <;> try (exfalso; omega)) | refine wr (id := 0) rfl ?_ | refine wr (id := 1) rfl ?_ | refine wr (id := 2) rfl ?_)
    all_goals first | (exfalso; omega) | exact ret_r (v := .int .i64 _) rfl ⟨t, rfl, rfl, h⟩
theorem rightR_c (p q : Nat) (s t : Fs) (h : Rel s t) (slot : Int) (r : SlotR) (a : Option Addr) (c : Nat) (ro : RO) (hs : SlR v8 (.slice a r.hash.length c) r.hash ro) : C Try.prog 22 #[.pointer (some ⟨p, 0, none⟩), .int .i64 slot, r.V (.slice a r.hash.length c)] ro [refG p q t] fun v own => v = .bool (s.right slot r) ∧ own = [refG p q t] := by
  have hrl := s.sRead_len slot r.len
  refine c_of_w2 (n := 33) Try.func22 rfl rfl rfl (by rfl) fun E => ?_
  repeat' (first | ((with_reducible refine g_wl ?_); (first | refine kN ?_ | ((with_reducible refine g_mv ?_); (first | refine kp (pvm_move_p rfl) ?_ | refine kp (pvm_move_t rfl) ?_ | refine kp (pvm_move_i rfl) ?_)) | ((with_reducible refine g_as ?_); (first | refine kp (pvm_assign_b rfl) ?_ | refine kp (pvm_assign_s rfl) ?_ | refine kp (pvm_assign_i rfl) ?_)) | ((with_reducible refine g_ld ?_); (refine kd (opw_load Fb.h rfl (Has.own 1 0 rfl rfl) ?_))) | ((with_reducible refine g_cf 21 ?_); (refine kd (opw_call Fb.h rfl [0] (readSlotR_c p q s t h slot _ _) RoOk.self (fun v own h => ?_)); obtain ⟨bv, g, rfl, rfl, hg⟩ := h; obtain ⟨a2, c2, rfl, hle⟩ := hg.slice; obtain ⟨r2, hr2, hok2⟩ := hg.ro)) | refine kp (pv_fieldAddr Ft.h rfl) ?_ | refine kp (pv_extract rfl rfl) ?_ | refine kd (d := 5) (opw_box fun b5 => ?_))) | with_reducible refine w_seq ?_ | with_reducible refine thenP_n ?_ | with_reducible refine w_ret ?_ | (refine w_draw (id := 2) [] ((ro ++ hold [(b5, .cells #[.int .u32 r.ver, .int .i64 r.len, .slice a r.hash.length c] 37 (0, 0))])) Fa.mixed (RoOk.append RoOk.self (hold_one 2 0 rfl)) ?_; all_goals (refine wh_pure 0 rfl (by kernel_rfl) rfl rfl (pv_fieldAddr FaReFlash7.fo_37_1 rfl) ?_); all_goals (refine wh_load 1 rfl (by kernel_rfl) rfl rfl FaReFlash7.one_3 rfl (Has.appR (Has.hold 0 rfl rfl)) ?_); all_goals (refine wh_pure 2 rfl (by kernel_rfl) rfl rfl (pv_geq rfl rfl) ?_); all_goals (refine wh_pure 3 rfl (by kernel_rfl) rfl rfl (pvm_move_b rfl) ?_); all_goals ((refine wh_split 4 rfl rfl rfl rfl (fun _ => ?_) (fun _ => ?_)) <;> (first | (refine wh_skip 4 rfl (by kernel_rfl) rfl rfl ?_) | (refine wh_pure 4 rfl (by kernel_rfl) rfl rfl (pvm_move_i rfl) ?_))); all_goals (first | (refine wh_skip 5 rfl (by kernel_rfl) rfl rfl ?_) | (refine wh_pure 5 rfl (by kernel_rfl) rfl rfl (pv_eql rfl rfl) ?_)); all_goals (first | (refine wh_pure 6 rfl (by kernel_rfl) rfl rfl (pvk_t_b rfl rfl) ?_) | (refine wh_pure 6 rfl (by kernel_rfl) rfl rfl (pvk_f_b rfl rfl) ?_)); all_goals (refine wh_pure 7 rfl (by kernel_rfl) rfl rfl (pvm_move_b rfl) ?_); all_goals (first | (refine wh_skip 8 rfl (by kernel_rfl) rfl rfl ?_) | ((refine wh_split 8 rfl rfl rfl rfl (fun _ => ?_) (fun _ => ?_)) <;> (first | (refine wh_skip 8 rfl (by kernel_rfl) rfl rfl ?_) | (refine wh_pure 8 rfl (by kernel_rfl) rfl rfl (pvm_move_s rfl) ?_)))); all_goals (first | (refine wh_skip 11 rfl (by kernel_rfl) rfl rfl ?_) | (refine wh_pure 11 rfl (by kernel_rfl) rfl rfl (pv_fieldAddr FaReFlash7.fo_37_2 rfl) ?_)); all_goals (first | (refine wh_skip 12 rfl (by kernel_rfl) rfl rfl ?_) | (refine wh_load 12 rfl (by kernel_rfl) rfl rfl FaReFlash7.one_22 rfl (Has.appR (Has.hold 0 rfl rfl)) ?_)); all_goals (first | (refine wh_skip 13 rfl (by kernel_rfl) rfl rfl ?_) | (refine wh_str 13 rfl (by kernel_rfl) rfl rfl Try.underlying22 Try.underlying5 Try.underlying9 rfl rfl (Rd.appL hs) ?_)); all_goals (first | (refine wh_skip 9 rfl (by kernel_rfl) rfl rfl ?_) | (refine wh_do 9 (by kernel_rfl) rfl rfl rfl rfl (opw_call FaReFlash7.ca_17 rfl [] (digest_c a2 c2 _ (by omega) _ hr2) (hok2 _ _ (by simp [dr])) (fun v own h => ?_)); obtain ⟨g3, rfl, hg3⟩ := h; obtain ⟨a3, c3, rfl, hle3⟩ := hg3.slice; refine ⟨(RoOk.append RoOk.self (hold_one 3 0 rfl)), ?_⟩)); all_goals (first | (refine wh_skip 10 rfl (by kernel_rfl) rfl rfl ?_) | (refine wh_do 10 (by kernel_rfl) rfl rfl rfl rfl (opw_str Try.underlying22 Try.underlying5 Try.underlying9 rfl rfl (Sl.rd hg3 (i := 0) rfl) ⟨(RoOk.append RoOk.self (hold_one 3 0 rfl)), ?_⟩))); all_goals (first | (refine wh_skip 14 rfl (by kernel_rfl) rfl rfl ?_) | (refine wh_pure 14 rfl (by kernel_rfl) rfl rfl (pv_vstr_eql rfl rfl) ?_)); all_goals (first | (refine wh_pure 15 rfl (by kernel_rfl) rfl rfl (pvk_t_b rfl rfl) ?_) | (refine wh_pure 15 rfl (by kernel_rfl) rfl rfl (pvk_f_b rfl rfl) ?_)); all_goals (refine wh_pure 16 rfl (by kernel_rfl) rfl rfl (pvm_assign_b rfl) ?_); all_goals (refine wh_done (by kernel_rfl) ?_)) | refine wr rfl ?_)
  · have h1 : decide (1 ≤ r.len) = true := ‹_›
    have h2 : decide ((s.sRead slot r.len).2 = 0) = true := ‹_›
    refine ret_s (v := .bool (decide (Sha.sha (s.sRead slot r.len).1 = r.hash))) [refG p q t] rfl (by first | exact Sub.pk' [2] rfl | exact Sub.pk' [1] rfl) ⟨?_, rfl⟩
    unfold Fs.right; rw [h1, h2]; rfl
  · have h2 : decide ((s.sRead slot r.len).2 = 0) = false := ‹_›
    refine ret_s (v := .bool false) [refG p q t] rfl (Sub.pk' [1] rfl) ⟨?_, rfl⟩
    unfold Fs.right; rw [h2]; simp
  · have h1 : decide (1 ≤ r.len) = false := ‹_›
    refine ret_s (v := .bool false) [refG p q t] rfl (Sub.pk' [1] rfl) ⟨?_, rfl⟩
    unfold Fs.right; rw [h1]; rfl
theorem ready_nil (at_ n : Int) (ro : RO) : C Try.prog 42 #[.pointer none, .int .i64 at_, .int .i64 n] ro [] fun v own => v = .int .i64 1 ∧ own = [] := by
  refine c_of_w2 (n := 32) Try.func42 rfl rfl rfl (by rfl) fun E => ?_
  repeat' (first | ((with_reducible refine g_wl ?_); (first | refine kN ?_ | ((with_reducible refine g_mv ?_); (refine kp (pvm_move_p rfl) ?_)) | ((with_reducible refine g_as ?_); (first | refine kp (pvm_assign_b rfl) ?_ | refine kp (pvm_assign_i rfl) ?_)) | ((with_reducible refine g_bo ?_); refine kp (pv_ptr_nil Ft.h rfl rfl) ?_))) | with_reducible refine w_seq ?_ | with_reducible refine thenP_n ?_ | with_reducible refine thenP_r ?_ | with_reducible refine blockP_r ?_ | with_reducible refine w_ret ?_ | with_reducible refine w_block ?_ | refine w_cond_true rfl ?_ | refine wr (id := 0) rfl ?_ | refine wr (id := 1) rfl ?_ | refine wr (id := 2) rfl ?_)
  exact ret_r (v := .int .i64 1) rfl ⟨rfl, rfl⟩
theorem read_nil (at_ n : Int) (ro : RO) : C Try.prog 44 #[.pointer none, .int .i64 at_, .int .i64 n] ro [] fun v own => v = .tuple #[.slice none 0 0, .int .i64 1] ∧ own = [] := by
  refine c_of_w2 (n := 26) Try.func44 rfl rfl rfl (by rfl) fun E => ?_
  repeat' (first | ((with_reducible refine g_wl ?_); (first | refine kN ?_ | ((with_reducible refine g_mv ?_); (first | refine kp (pvm_move_p rfl) ?_ | refine kp (pvm_move_i rfl) ?_)) | ((with_reducible refine g_as ?_); (first | refine kp (pvm_assign_s rfl) ?_ | refine kp (pvm_assign_i rfl) ?_)) | ((with_reducible refine g_bo ?_); (refine kp (pv_neq rfl rfl) ?_)) | ((with_reducible refine g_cf 42 ?_); (refine kd (opw_call Fb.h rfl [] (ready_nil _ _ _) RoOk.self (fun v own h => ?_)); obtain ⟨rfl, rfl⟩ := h)))) | with_reducible refine w_seq ?_ | with_reducible refine thenP_n ?_ | with_reducible refine thenP_r ?_ | with_reducible refine w_ret ?_ | refine w_cond_true rfl ?_ | refine wr rfl ?_)
  exact ret_s (v := .tuple #[.slice none 0 0, .int .i64 1]) [] rfl (Sub.pk' [] rfl) ⟨rfl, rfl⟩
theorem sRead_nil (ro : RO) : C Try.prog 11 #[.pointer none, .int .i64 0, .int .i64 0] ro [] fun v own => v = .tuple #[.slice none 0 0, .int .i64 1] ∧ own = [] := by
  refine c_of_w2 (n := 30) Try.func11 rfl rfl rfl (by rfl) fun E => ?_
  repeat' (first | ((with_reducible refine g_wl ?_); (first | refine kN ?_ | ((with_reducible refine g_gd ?_); (first | refine kg rfl ?_ | refine ks rfl ?_)) | ((with_reducible refine g_mv ?_); (first | refine kp (pvm_move_b rfl) ?_ | refine kp (pvm_move_p rfl) ?_ | refine kp (pvm_move_i rfl) ?_)) | ((with_reducible refine g_as ?_); (first | refine kp (pvm_assign_s rfl) ?_ | refine kp (pvm_assign_i rfl) ?_)) | ((with_reducible refine g_pk ?_); (refine kp (pvk_f_b rfl rfl) ?_)) | ((with_reducible refine g_bo ?_); (first | refine kp (pv_imul rfl rfl (by omega)) ?_ | refine kp (pv_neq rfl rfl) ?_ | refine kp (pv_lss rfl rfl) ?_ | refine kp (pv_gtr rfl rfl) ?_)) | ((with_reducible refine g_cf 40 ?_); (refine kd (opw_call Fb.h rfl [] (first_c 0 (by omega) _) RoOk.self (fun v own h => ?_)); obtain ⟨rfl, rfl⟩ := h)) | ((with_reducible refine g_cf 44 ?_); (refine kd (opw_call Fb.h rfl [] (read_nil _ _ _) RoOk.self (fun v own h => ?_)); obtain ⟨rfl, rfl⟩ := h)) | refine kp (pv_extract rfl rfl) ?_)) | with_reducible refine w_seq ?_ | with_reducible refine thenP_n ?_ | with_reducible refine w_skip ?_ | with_reducible refine w_ret ?_ | refine w_cond_false rfl ?_ | refine wr rfl ?_)
  all_goals first | (exfalso; omega) | exact ret_s (v := .tuple #[.slice none 0 0, .int .i64 1]) [] rfl (Sub.pk' [] rfl) ⟨rfl, rfl⟩
theorem write_nil (a : Option Addr) (n c : Nat) (ro : RO) : C Try.prog 9 #[.pointer none, .int .i64 0, .slice a n c] ro [] fun v own => v = .int .i64 1 ∧ own = [] := by
  refine c_of_w2 (n := 60) Try.func9 rfl rfl rfl (by rfl) fun E => ?_
  repeat' (first | ((with_reducible refine g_wl ?_); (first | refine kN ?_ | ((with_reducible refine g_gd ?_); (refine ks rfl ?_)) | ((with_reducible refine g_mv ?_); (first | refine kp (pvm_move_p rfl) ?_ | refine kp (pvm_move_b rfl) ?_)) | ((with_reducible refine g_as ?_); (refine kp (pvm_assign_i rfl) ?_)) | ((with_reducible refine g_pk ?_); (refine kp (pvk_t_b rfl rfl) ?_)) | ((with_reducible refine g_bo ?_); (refine kp (pv_ptr_nil Ft.h rfl rfl) ?_)))) | with_reducible refine w_seq ?_ | with_reducible refine thenP_n ?_ | with_reducible refine thenP_r ?_ | with_reducible refine w_ret ?_ | refine w_cond_true rfl ?_ | refine wr (id := 0) rfl ?_ | refine wr (id := 1) rfl ?_ | refine wr (id := 2) rfl ?_)
  all_goals first | (exfalso; omega) | exact ret_s (v := .int .i64 1) [] rfl (Sub.pk' [] rfl) ⟨rfl, rfl⟩
theorem right_nil (ro : RO) : C Try.prog 16 #[.pointer none, .int .i64 0, .agg #[.int .u32 0, .int .i64 0, .slice none 0 0]] ro [] fun v own => v = .bool false ∧ own = [] := by
  refine c_of_w2 (n := 29) Try.func16 rfl rfl rfl (by rfl) fun E => ?_
  repeat' (first | ((with_reducible refine g_wl ?_); (first | refine kN ?_ | ((with_reducible refine g_as ?_); (refine kp (pvm_assign_b rfl) ?_)) | ((with_reducible refine g_bo ?_); refine kp (pv_lss rfl rfl) ?_) | ((with_reducible refine g_ld ?_); (refine kd (opw_load Fb.h rfl (Has.own 0 0 rfl rfl) ?_))) | refine kp (pv_fieldAddr Ft.h rfl) ?_ | refine kd (d := 5) (opw_box fun b5 => ?_))) | with_reducible refine w_seq ?_ | with_reducible refine thenP_n ?_ | with_reducible refine thenP_r ?_ | with_reducible refine w_ret ?_ | refine w_cond_true rfl ?_ | refine wr (id := 0) rfl ?_ | refine wr (id := 1) rfl ?_ | refine wr (id := 2) rfl ?_)
  all_goals first | (exfalso; omega) | exact ret_s (v := .bool false) [] rfl (Sub.pk' [] rfl) ⟨rfl, rfl⟩
end Go.Proofs.Ytnohdfhhdppflaa
