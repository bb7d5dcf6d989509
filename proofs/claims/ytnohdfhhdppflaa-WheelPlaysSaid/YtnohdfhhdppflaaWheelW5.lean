/- Wheels, walked: Room, Records, enters. -/
import Derived.Test.YtnohdfhhdppflaaWheelW4
namespace Go.Proofs.Ytnohdfhhdppflaa
open Go Go.Vc Go.Fl Go.Sha
set_option linter.unusedVariables false
set_option linter.unusedSimpArgs false
set_option maxRecDepth 100000
set_option maxHeartbeats 4000000
namespace FaWheelW5
theorem ca_45 : callable Try.prog 45 = true := by kernel_rfl
theorem ca_57 : callable Try.prog 57 = true := by kernel_rfl
theorem ca_58 : callable Try.prog 58 = true := by kernel_rfl
theorem ca_73 : callable Try.prog 73 = true := by kernel_rfl
theorem ei_104 : elemInfo Try.prog 104 = some (2, 32, (.agg #[(.int .u32 0), (.slice none 0 0)])) := by kernel_rfl
theorem fo_104_0 : fieldOff Try.prog 104 0 = some 0 := by kernel_rfl
theorem fo_104_1 : fieldOff Try.prog 104 1 = some 1 := by kernel_rfl
theorem fo_97_0 : fieldOff Try.prog 97 0 = some 0 := by kernel_rfl
theorem fo_97_3 : fieldOff Try.prog 97 3 = some 3 := by kernel_rfl
theorem fo_97_4 : fieldOff Try.prog 97 4 = some 4 := by kernel_rfl
theorem fo_97_5 : fieldOff Try.prog 97 5 = some 5 := by kernel_rfl
theorem many_104 : isMany Try.prog 104 = true := by kernel_rfl
theorem one_22 : isOne Try.prog 22 = true := by kernel_rfl
theorem one_25 : isOne Try.prog 25 = true := by kernel_rfl
theorem one_3 : isOne Try.prog 3 = true := by kernel_rfl
theorem one_35 : isOne Try.prog 35 = true := by kernel_rfl
theorem one_67 : isOne Try.prog 67 = true := by kernel_rfl
theorem pl_104 : ∀ w, ((structF Try.prog 104).mapM fun f => do pure (f.offset, ← sizeOf f.type) : Sem (Array (Nat × Nat))).run Try.prog w = .ok #[(0, 1), (1, 1)] w := fun w => by kernel_rfl
theorem sf_104 : Try.prog.underlying 104 = some (.struct (structF Try.prog 104)) := by kernel_rfl
theorem sl_67 : sliceOf Try.prog 67 = some (104, 2) := by kernel_rfl
theorem sz_104 : sz Try.prog 104 = some 2 := by kernel_rfl
theorem sz_5 : sz Try.prog 5 = some 1 := by kernel_rfl
theorem zero_104 : zeroOf Try.prog 104 = some (.agg #[(.int .u32 0), (.slice none 0 0)]) := by kernel_rfl
theorem zero_5 : zeroOf Try.prog 5 = some (.int .u8 0) := by kernel_rfl
instance : Fb (callable Try.prog 45) := ⟨ca_45⟩
instance : Fb (callable Try.prog 57) := ⟨ca_57⟩
instance : Fb (callable Try.prog 58) := ⟨ca_58⟩
instance : Fb (callable Try.prog 73) := ⟨ca_73⟩
instance : Ft (elemInfo Try.prog 104) (2, 32, (.agg #[(.int .u32 0), (.slice none 0 0)])) := ⟨ei_104⟩
instance : Ft (fieldOff Try.prog 104 0) (0) := ⟨fo_104_0⟩
instance : Ft (fieldOff Try.prog 104 1) (1) := ⟨fo_104_1⟩
instance : Ft (fieldOff Try.prog 97 0) (0) := ⟨fo_97_0⟩
instance : Ft (fieldOff Try.prog 97 3) (3) := ⟨fo_97_3⟩
instance : Ft (fieldOff Try.prog 97 4) (4) := ⟨fo_97_4⟩
instance : Ft (fieldOff Try.prog 97 5) (5) := ⟨fo_97_5⟩
instance : Fb (isMany Try.prog 104) := ⟨many_104⟩
instance : Fb (isOne Try.prog 22) := ⟨one_22⟩
instance : Fb (isOne Try.prog 25) := ⟨one_25⟩
instance : Fb (isOne Try.prog 3) := ⟨one_3⟩
instance : Fb (isOne Try.prog 35) := ⟨one_35⟩
instance : Fb (isOne Try.prog 67) := ⟨one_67⟩
instance : Ft (Try.prog.underlying 104) (.struct (structF Try.prog 104)) := ⟨sf_104⟩
instance : Ft (sliceOf Try.prog 67) (104, 2) := ⟨sl_67⟩
instance : Ft (sz Try.prog 104) (2) := ⟨sz_104⟩
instance : Ft (sz Try.prog 5) (1) := ⟨sz_5⟩
instance : Ft (zeroOf Try.prog 104) (.agg #[(.int .u32 0), (.slice none 0 0)]) := ⟨zero_104⟩
instance : Ft (zeroOf Try.prog 5) (.int .u8 0) := ⟨zero_5⟩
instance : Ft (Try.prog.underlying 5) (.int .u8) := ⟨Try.underlying5⟩
instance : Ft (Try.prog.underlying 22) (.slice 5) := ⟨Try.underlying22⟩
instance : Ft (Try.prog.underlying 35) (.int .u32) := ⟨Try.underlying35⟩
instance : Ft (Try.prog.underlying 57) (.pointer 97) := ⟨Try.underlying57⟩
instance : Ft (Try.prog.underlying 67) (.slice 104) := ⟨Try.underlying67⟩
end FaWheelW5
attribute [local irreducible] PV OpW WL WM WH WZ W C Has RoOk

theorem room_c (pw fp : Nat) (w : Wh) (lv : Value) (ho : w.Ok) (ro : RO) : C Try.prog 34 #[.pointer (some ⟨pw, 0, none⟩)] ro [[(pw, wheelObj fp w lv)]] fun v own => v = .int .i64 w.room ∧ own = [[(pw, wheelObj fp w lv)]] := by
  obtain ⟨h3, h4⟩ := places_le ho.s2
  have hn := ho.next
  refine c_of_w2 (n := 13) Try.func34 rfl rfl rfl (by rfl) fun E => ?_
  repeat' (first | ((with_reducible refine g_wl ?_); (first | refine kN ?_ | ((with_reducible refine g_mv ?_); (refine kp (pvm_move_p rfl) ?_)) | ((with_reducible refine g_as ?_); (refine kp (pvm_assign_i rfl) ?_)) | ((with_reducible refine g_bo ?_); refine kp (pv_ptr_nil Ft.h rfl rfl) ?_))) | with_reducible refine w_seq ?_ | with_reducible refine thenP_n ?_ | with_reducible refine w_skip ?_ | with_reducible refine w_ret ?_ | refine w_cond_false rfl ?_ | (refine w_draw (id := 3) [] (hold [(pw, wheelObj fp w lv)]) Fa.mixed (hold_one 0 0 rfl) ?_; (refine wh_pure 0 rfl (by kernel_rfl) rfl rfl (pvm_move_p rfl) ?_); (refine wh_pure 3 rfl (by kernel_rfl) rfl rfl (pvm_move_p rfl) ?_); refine wh_pure 4 rfl (by kernel_rfl) rfl rfl (pv_nilCheck rfl) ?_; refine wh_pure 5 rfl (by kernel_rfl) rfl rfl (pv_fieldAddr FaWheelW5.fo_97_5 rfl) ?_; (refine wh_load 6 rfl (by kernel_rfl) rfl rfl FaWheelW5.one_3 rfl (Has.hold 0 rfl rfl) ?_); refine wh_do 1 (by kernel_rfl) rfl rfl rfl rfl (opw_call FaWheelW5.ca_57 rfl [0] (places_c pw fp w _ ho _) RoOk.self (fun v own h => ?_)); obtain ⟨rfl, rfl⟩ := h; refine ⟨(hold_one 0 0 rfl), ?_⟩; (refine wh_pure 2 rfl (by kernel_rfl) rfl rfl (pv_imul rfl rfl (by omega)) ?_); (refine wh_pure 7 rfl (by kernel_rfl) rfl rfl (pv_isub rfl rfl (by omega)) ?_); (refine wh_pure 8 rfl (by kernel_rfl) rfl rfl (pvm_assign_i rfl) ?_); (refine wh_done (by kernel_rfl) ?_)) | refine wr rfl ?_)
  exact ret_r (v := .int .i64 _) rfl ⟨rfl, rfl⟩
theorem enters_c (pw fp q : Nat) (s : Fs) (hb : 3584 ≤ s.b.length) (w : Wh) (lv : Value) (ho : w.Ok) (sec : Nat) (hs : sec < 8) (ro : RO) : C Try.prog 65 #[.pointer (some ⟨pw, 0, none⟩), .int .i64 sec] ro [[(pw, wheelObj fp w lv)], flashG fp q s] fun v own => v = .int .i64 (s.enters w sec).2 ∧ own = [[(pw, wheelObj fp w lv)], flashG fp q (s.enters w sec).1] := by
  refine c_of_w2 (n := 28) Try.func65 rfl rfl rfl (by rfl) fun E => ?_
  by_cases h1 : (sec : Int) = w.ready
  · rw [show s.enters w sec = (s, 0) from if_pos (.inl h1)]
    repeat' (first | ((with_reducible refine g_wl ?_); (first | refine kN ?_ | ((with_reducible refine g_as ?_); (refine kp (pvm_assign_i rfl) ?_)))) | with_reducible refine w_seq ?_ | with_reducible refine thenP_n ?_ | with_reducible refine thenP_r ?_ | with_reducible refine w_ret ?_ | refine w_cond_true rfl ?_ | ((with_reducible refine w_region (id := 1) ?_); all_goals (refine wl_pure rfl rfl (pvm_move_i rfl) ?_); all_goals (refine wl_pure rfl rfl (pvm_move_p rfl) ?_); all_goals (refine wl_pure rfl rfl (pv_nilCheck rfl) ?_); all_goals (refine wl_pure rfl rfl (pv_fieldAddr FaWheelW5.fo_97_4 rfl) ?_); all_goals (refine wl_do rfl rfl (opw_load FaWheelW5.one_3 rfl (Has.own 0 0 rfl rfl) ?_)); all_goals (refine wl_pure rfl rfl (pv_eql_e rfl rfl h1) ?_); all_goals (refine wl_pure rfl rfl (pvm_move_b rfl) ?_); all_goals (refine wl_skipd rfl rfl ?_); all_goals (refine wl_skipd rfl rfl ?_); all_goals (refine wl_skipd rfl rfl ?_); all_goals (refine wl_skipd rfl rfl ?_); all_goals (refine wl_skipd rfl rfl ?_); all_goals (refine wl_skipd rfl rfl ?_); all_goals (refine wl_skipd rfl rfl ?_); all_goals (refine wl_skipd rfl rfl ?_); all_goals (refine wl_pure rfl rfl (pvk_t_b rfl rfl) ?_); all_goals (refine wl_nil ?_)) | refine wr (id := 0) rfl ?_ | refine wr (id := 2) rfl ?_)
    exact ret_r (v := .int .i64 0) rfl ⟨rfl, rfl⟩
  · cases hbl : s.blank ((6 + (sec : Int)) * 256) 256 with
    | true =>
      rw [show s.enters w sec = (s, 0) from if_pos (.inr hbl)]
      repeat' (first | ((with_reducible refine g_wl ?_); (first | refine kN ?_ | ((with_reducible refine g_as ?_); (refine kp (pvm_assign_i rfl) ?_)))) | with_reducible refine w_seq ?_ | with_reducible refine thenP_n ?_ | with_reducible refine thenP_r ?_ | with_reducible refine w_ret ?_ | refine w_cond_true rfl ?_ | ((with_reducible refine w_region (id := 1) ?_); all_goals (refine wl_pure rfl rfl (pvm_move_i rfl) ?_); all_goals (refine wl_pure rfl rfl (pvm_move_p rfl) ?_); all_goals (refine wl_pure rfl rfl (pv_nilCheck rfl) ?_); all_goals (refine wl_pure rfl rfl (pv_fieldAddr FaWheelW5.fo_97_4 rfl) ?_); all_goals (refine wl_do rfl rfl (opw_load FaWheelW5.one_3 rfl (Has.own 0 0 rfl rfl) ?_)); all_goals (refine wl_pure rfl rfl (pv_eql_f rfl rfl h1) ?_); all_goals (refine wl_pure rfl rfl (pvm_move_b rfl) ?_); all_goals (refine wl_pure rfl rfl (pvm_move_p rfl) ?_); all_goals (refine wl_pure rfl rfl (pv_nilCheck rfl) ?_); all_goals (refine wl_pure rfl rfl (pv_fieldAddr FaWheelW5.fo_97_0 rfl) ?_); all_goals (refine wl_do rfl rfl (opw_load FaWheelW5.one_25 rfl (Has.own 0 0 rfl rfl) ?_)); all_goals (refine wl_pure rfl rfl (pvm_move_i rfl) ?_); all_goals (refine wl_pure rfl rfl (pv_iadd rfl rfl (by omega)) ?_); all_goals (refine wl_pure rfl rfl (pv_imul rfl rfl (by omega)) ?_); all_goals (refine wl_do rfl rfl (opw_call FaWheelW5.ca_58 rfl [1] (blank_c fp q s hb _ 256 (by omega) _) RoOk.self (fun v own h => ?_)); obtain ⟨rfl, rfl⟩ := h; rw [hbl]); all_goals (refine wl_pure rfl rfl (pvk_f_b rfl rfl) ?_); all_goals (refine wl_nil ?_)) | refine wr (id := 0) rfl ?_ | refine wr (id := 2) rfl ?_)
      exact ret_s (v := .int .i64 0) [[(pw, wheelObj fp w lv)], flashG fp q s] rfl (Sub.pk' [1, 0] rfl) ⟨rfl, rfl⟩
    | false =>
      rw [show s.enters w sec = s.erase (6 + (sec : Int)) from if_neg (fun h => by rcases h with h | h; exact h1 h; rw [hbl] at h; cases h)]
      repeat' (first | ((with_reducible refine g_wl ?_); (first | refine kN ?_ | ((with_reducible refine g_mv ?_); (first | refine kp (pvm_move_p rfl) ?_ | refine kp (pvm_move_i rfl) ?_)) | ((with_reducible refine g_as ?_); (refine kp (pvm_assign_i rfl) ?_)) | ((with_reducible refine g_bo ?_); (refine kp (pv_iadd rfl rfl (by omega)) ?_)) | ((with_reducible refine g_ld ?_); (refine kd (opw_load Fb.h rfl (Has.own 1 0 rfl rfl) ?_))) | ((with_reducible refine g_cf 73 ?_); (refine kd (opw_call Fb.h rfl [0] (erase_c fp q s hb _ _) RoOk.self (fun v own h => ?_)); obtain ⟨rfl, rfl⟩ := h)) | refine kp (pv_nilCheck rfl) ?_ | refine kp (pv_fieldAddr Ft.h rfl) ?_)) | with_reducible refine w_seq ?_ | with_reducible refine thenP_n ?_ | with_reducible refine w_skip ?_ | with_reducible refine w_ret ?_ | refine w_cond_false rfl ?_ | ((with_reducible refine w_region (id := 1) ?_); all_goals (refine wl_pure rfl rfl (pvm_move_i rfl) ?_); all_goals (refine wl_pure rfl rfl (pvm_move_p rfl) ?_); all_goals (refine wl_pure rfl rfl (pv_nilCheck rfl) ?_); all_goals (refine wl_pure rfl rfl (pv_fieldAddr FaWheelW5.fo_97_4 rfl) ?_); all_goals (refine wl_do rfl rfl (opw_load FaWheelW5.one_3 rfl (Has.own 0 0 rfl rfl) ?_)); all_goals (refine wl_pure rfl rfl (pv_eql_f rfl rfl h1) ?_); all_goals (refine wl_pure rfl rfl (pvm_move_b rfl) ?_); all_goals (refine wl_pure rfl rfl (pvm_move_p rfl) ?_); all_goals (refine wl_pure rfl rfl (pv_nilCheck rfl) ?_); all_goals (refine wl_pure rfl rfl (pv_fieldAddr FaWheelW5.fo_97_0 rfl) ?_); all_goals (refine wl_do rfl rfl (opw_load FaWheelW5.one_25 rfl (Has.own 0 0 rfl rfl) ?_)); all_goals (refine wl_pure rfl rfl (pvm_move_i rfl) ?_); all_goals (refine wl_pure rfl rfl (pv_iadd rfl rfl (by omega)) ?_); all_goals (refine wl_pure rfl rfl (pv_imul rfl rfl (by omega)) ?_); all_goals (refine wl_do rfl rfl (opw_call FaWheelW5.ca_58 rfl [1] (blank_c fp q s hb _ 256 (by omega) _) RoOk.self (fun v own h => ?_)); obtain ⟨rfl, rfl⟩ := h; rw [hbl]); all_goals (refine wl_pure rfl rfl (pvk_f_b rfl rfl) ?_); all_goals (refine wl_nil ?_)) | refine wr (id := 0) rfl ?_ | refine wr (id := 3) rfl ?_)
      exact ret_s (v := .int .i64 _) [[(pw, wheelObj fp w lv)], flashG fp q _] rfl (Sub.pk' [1, 0] rfl) ⟨rfl, rfl⟩
theorem word_c (x : D) (ro : RO) : C Try.prog 68 #[v32 x] ro [] fun v own => ∃ g, own = [g] ∧ Sl v8 5 v (be4 x) g := by
  refine c_of_w2 (n := 15) Try.func68 rfl rfl rfl (by rfl) fun E => ?_
  repeat' (first | ((with_reducible refine g_wl ?_); (first | refine kN ?_ | ((with_reducible refine g_mv ?_); (refine kp (pvm_move_32 rfl) ?_)) | ((with_reducible refine g_as ?_); (refine kp (pvm_assign_s rfl) ?_)) | ((with_reducible refine g_bo ?_); refine kp (pv32_shr rfl rfl (by omega)) ?_) | ((with_reducible refine g_cv ?_); refine kp (pvc_32_8 Ft.h Ft.h rfl) ?_) | refine kd (opw_buildRow (f := v8) [_, _, _, _] Try.underlying22 FaWheelW5.sz_5 FaWheelW5.zero_5 rfl rfl (by omega) rfl (fun _ => rfl) fun nb => ?_))) | with_reducible refine w_seq ?_ | with_reducible refine thenP_n ?_ | with_reducible refine w_ret ?_ | refine wr rfl ?_)
  exact ret_r rfl ⟨_, rfl, Sl.full⟩
theorem dG_mem {rs : List RV} {r : RV} (h : r ∈ rs) : ∀ x ∈ r.g, x ∈ dG rs := fun x hx => List.mem_flatMap.2 ⟨r, h, hx⟩
theorem records_c (pw fp : Nat) (w : Wh) (lv : Value) (lG : Blks) (rs : List RV) (hw : WhG w lv lG rs) (hd : ∀ r ∈ rs, r.d.length ≤ 1000000) (ro : RO) : C Try.prog 33 #[.pointer (some ⟨pw, 0, none⟩)] ro [[(pw, wheelObj fp w lv)], lG, dG rs] fun v own => ∃ lG2 rs2, own = [lG2, dG rs2, [(pw, wheelObj fp w lv)], lG, dG rs] ∧ SlM RV.enc 104 v rs2 lG2 ∧ rs2.map RV.P = rs.map RV.P ∧ ∀ r ∈ rs2, r.d = [] ∨ r.Ok := by
  obtain ⟨al, cl, rfl⟩ := hw.slice
  have hl := hw.len
  refine c_of_w2 (n := 28) Try.func33 rfl rfl rfl (by rfl) fun E => ?_
  repeat' (first | ((with_reducible refine g_wl ?_); (first | refine kN ?_ | ((with_reducible refine g_mv ?_); (first | refine kp (pvm_move_p rfl) ?_ | refine kp (pvm_move_i rfl) ?_)) | ((with_reducible refine g_as ?_); (refine kp (pvm_assign_s rfl) ?_)) | ((with_reducible refine g_bo ?_); refine kp (pv_ptr_nil Ft.h rfl rfl) ?_) | ((with_reducible refine g_ld ?_); (refine kd (opw_load Fb.h rfl (Has.own 0 0 rfl rfl) ?_))) | ((with_reducible refine g_cb .len ?_); refine kp (pv_len_slice Ft.h rfl) ?_) | refine kp (pv_nilCheck rfl) ?_ | refine kp (pv_fieldAddr Ft.h rfl) ?_)) | with_reducible refine w_seq ?_ | with_reducible refine thenP_n ?_ | with_reducible refine w_skip ?_ | with_reducible refine w_block ?_ | refine w_cond_false rfl ?_ | refine wr (id := 0) rfl ?_ | refine wr (id := 1) rfl ?_ | refine wr (id := 3) rfl ?_ | refine wr (id := 4) rfl ?_)
  refine w_sub (own' := [[], dG [], [(pw, wheelObj fp w (.slice al rs.length cl))], lG, dG rs]) (Sub.flat rfl) ?_
  refine w_loop2 (ι := Nat × Value × Blks × List RV) (fun x ρ ro' own => x.1 ≤ rs.length ∧ Kn [(3, x.2.1), (11, .slice al rs.length cl), (12, .int .i64 rs.length), (13, .int .i64 x.1)] ρ ∧ ro' = ro ∧ own = [x.2.2.1, dG x.2.2.2, [(pw, wheelObj fp w (.slice al rs.length cl))], lG, dG rs] ∧ SlM RV.enc 104 x.2.1 x.2.2.2 x.2.2.1 ∧ x.2.2.2.map RV.P = (rs.take x.1).map RV.P ∧ (∀ r ∈ x.2.2.2, r.d = [] ∨ r.Ok) ∧ x.2.2.2.length = x.1) (fun x => rs.length - x.1) (0, _, [], []) ⟨Nat.zero_le _, ⟨rfl, rfl, rfl, rfl, trivial⟩, rfl, rfl, SlM.nil, rfl, (by intro r hr; cases hr), rfl⟩ ?_
  rintro ⟨i, v, g, rs'⟩ ρ ro' own ⟨hi, hk, rfl, rfl, hS, hmap, hok, hlen⟩
  obtain ⟨ρ', rfl⟩ := hk.ex
  dsimp only at *
  by_cases hlt : i < rs.length
  · obtain ⟨b, rfl, o, rfl, hcell⟩ := hw.list.has (m := 2) (fun _ => rfl) (by omega)
    have hx : rs[i]? = some (rs[i]'hlt) := List.getElem?_eq_getElem hlt
    obtain ⟨r, hr⟩ : ∃ r, r = rs[i]'hlt := ⟨_, rfl⟩
    have hmem : r ∈ rs := by rw [hr]; exact List.getElem_mem hlt
    rw [← hr] at hx
    have hrl := hd r hmem
    obtain ⟨ror, hsr, hro⟩ := (hw.ok r hmem).slr
    obtain ⟨a3, c3, hv3⟩ := hS.slice
    subst hv3
    repeat' (first | ((with_reducible refine g_wl ?_); (first | refine kN ?_ | ((with_reducible refine g_mv ?_); (refine kp (pvm_move_i rfl) ?_)) | ((with_reducible refine g_bo ?_); (first | refine kp (pv_iadd rfl rfl (by omega)) ?_ | refine kp (pv_lss rfl rfl) ?_)) | ((with_reducible refine g_ld ?_); (refine kd (opw_loadA (cs := r.enc) Fb.h Ft.h rfl rfl (fun j u hu => Has.own 3 0 rfl (by rw [Nat.zero_add]; exact hcell i r hx j u hu)) ?_))) | ((with_reducible refine g_st ?_); (refine kn (opw_storeS 5 0 FaWheelW5.sz_104 rfl rfl rfl rfl rfl rfl rfl (noFr_zero _ _) ?_))) | refine kp (pv_indexAddr FaWheelW5.sl_67 rfl rfl (by omega) (by omega)) ?_ | refine kd (d := 5) (opw_alloc FaWheelW5.zero_104 fun b5 => ?_))) | with_reducible refine w_seq ?_ | with_reducible refine thenP_n ?_ | with_reducible refine blockP_n ?_ | with_reducible refine w_skip ?_ | with_reducible refine w_block ?_ | (refine w_cond_dec rfl (fun _ => ?_) (fun _ => ?_) <;> try (exfalso; omega)) | (refine w_draw (id := 7) [] (hold [(b5, .cells r.enc.toArray 104 (0, 0))]) Fa.mixed (hold_ok (by simp [dr])) ?_; (refine wh_pure 0 rfl (by kernel_rfl) rfl rfl (pvm_move_s rfl) ?_); refine wh_pure 1 rfl (by kernel_rfl) rfl rfl (pv_fieldAddr FaWheelW5.fo_104_0 rfl) ?_; (refine wh_load 2 rfl (by kernel_rfl) rfl rfl FaWheelW5.one_35 rfl (Has.hold 0 rfl rfl) ?_); refine wh_pure 3 rfl (by kernel_rfl) rfl rfl (pv_fieldAddr FaWheelW5.fo_104_1 rfl) ?_; (refine wh_load 4 rfl (by kernel_rfl) rfl rfl FaWheelW5.one_22 rfl (Has.hold 0 rfl rfl) ?_); refine wh_do 5 (by kernel_rfl) rfl rfl rfl rfl (opw_call FaWheelW5.ca_45 rfl [] (clone8_c r.a r.c r.d hrl ror hsr) (hro _ _ (fun y hy => by have := dG_mem hmem y hy; simp [dr, this])) (fun v own h => ?_)); obtain ⟨g7, rfl, hg7⟩ := h; obtain ⟨a7, c7, rfl, hle7⟩ := hg7.slice; refine ⟨(hold_ok (by simp [dr])), ?_⟩; refine wh_pure 6 rfl (by kernel_rfl) rfl rfl (pv_build_structL (fs := structF Try.prog 104) FaWheelW5.sf_104 FaWheelW5.zero_104 FaWheelW5.pl_104 rfl) ?_; (refine wh_do 7 (by kernel_rfl) rfl rfl rfl rfl (opw_buildRec2 (enc := RV.enc) ⟨r.id, a7, c7, g7, r.d⟩ Try.underlying67 FaWheelW5.sz_104 FaWheelW5.zero_104 rfl rfl fun nb => ⟨(hold_ok (by simp [dr])), ?_⟩)); refine wh_do 8 (by kernel_rfl) rfl rfl rfl rfl (opw_appendM (enc := RV.enc) (xs := rs') (ys := [⟨r.id, a7, c7, g7, r.d⟩]) 1 FaWheelW5.sl_67 FaWheelW5.ei_104 (by omega) (fun _ => rfl) RV.one RV.zero rfl rfl hS rfl rfl (rd_rec2 7 0 rfl) (by show (_ + 1) * 32 ≤ _; omega) (by omega) (fun v g h => ?_)); obtain ⟨a9, c9, rfl⟩ := h.slice; refine ⟨(hold_ok (by simp [dr])), ?_⟩; (refine wh_pure 9 rfl (by kernel_rfl) rfl rfl (pvm_assign_s rfl) ?_); (refine wh_done (by kernel_rfl) ?_)) | refine wr (id := 5) rfl ?_ | refine wr (id := 6) rfl ?_ | refine wr (id := 8) rfl ?_)
    have htk : rs.take (i + 1) = rs.take i ++ [r] := by rw [List.take_succ_eq_append_getElem hlt, ← hr]
    refine ⟨(i + 1, _, _, rs' ++ [⟨r.id, a7, c7, g7, r.d⟩]), [_, dG (rs' ++ [⟨r.id, a7, c7, g7, r.d⟩]), [(pw, wheelObj fp w (.slice (some ⟨b, 0, none⟩) rs.length cl))], [(b, o)], dG rs], Sub.pk' [1, 1, 0, 0, 0, 0] ?_, ⟨by dsimp only; omega, ⟨rfl, rfl, rfl, rfl, trivial⟩, rfl, rfl, h, ?_, ?_, ?_⟩, by dsimp only; omega⟩
    · rw [dG_snoc]; simp [pk, List.getD, List.eraseIdx, dr]
    · dsimp only; rw [htk, List.map_append, List.map_append, hmap]; rfl
    · intro y hy
      rcases List.mem_append.1 hy with hy | hy
      · exact hok y hy
      · rw [List.mem_singleton] at hy; rw [hy]
        by_cases hd0 : r.d = []
        · exact .inl hd0
        · obtain ⟨b', data', h1, h2, h3, h4⟩ := hg7.addr (List.length_pos_iff.2 hd0)
          refine .inr ⟨b', 0, data', h1, h3, hle7, fun i hi => ?_⟩
          rw [Nat.zero_add]; conv => rhs; rw [← h4]
          rw [List.getElem?_take, if_pos hi]
    · dsimp only; rw [List.length_append, List.length_singleton]; omega
  · repeat' (first | ((with_reducible refine g_wl ?_); (first | refine kN ?_ | ((with_reducible refine g_mv ?_); (refine kp pv_move ?_)) | ((with_reducible refine g_as ?_); (refine kp pv_assign ?_)) | ((with_reducible refine g_bo ?_); refine kp (pv_lss rfl rfl) ?_))) | with_reducible refine w_seq ?_ | with_reducible refine thenP_n ?_ | with_reducible refine thenP_x ?_ | with_reducible refine blockP_eq ?_ | with_reducible refine w_ret ?_ | with_reducible refine w_exit ?_ | (refine w_cond_dec rfl (fun _ => ?_) (fun _ => ?_) <;> try (exfalso; omega)) | refine wr (id := 5) rfl ?_ | refine wr (id := 9) rfl ?_)
    rw [List.take_of_length_le (by omega)] at hmap
    exact ret_r rfl ⟨_, rs', rfl, hS, hmap, hok⟩
end Go.Proofs.Ytnohdfhhdppflaa
