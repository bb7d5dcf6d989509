/- The hash, walked: filling, and the sum. -/
import Derived.Test.YtnohdfhhdppflaaShaW
namespace Go.Proofs.Ytnohdfhhdppflaa
open Go Go.Vc Go.Sha Go.Fl
set_option linter.unusedVariables false
set_option linter.unusedSimpArgs false
set_option maxRecDepth 100000
set_option maxHeartbeats 4000000
namespace FaShaW2
theorem ca_75 : callable Try.prog 75 = true := by kernel_rfl
theorem ca_76 : callable Try.prog 76 = true := by kernel_rfl
theorem ca_77 : callable Try.prog 77 = true := by kernel_rfl
theorem ei_5 : elemInfo Try.prog 5 = some (1, 1, (.int .u8 0)) := by kernel_rfl
theorem many_110 : isMany Try.prog 110 = true := by kernel_rfl
theorem one_35 : isOne Try.prog 35 = true := by kernel_rfl
theorem sl_22 : sliceOf Try.prog 22 = some (5, 1) := by kernel_rfl
theorem sz_110 : sz Try.prog 110 = some 8 := by kernel_rfl
theorem sz_35 : sz Try.prog 35 = some 1 := by kernel_rfl
theorem sz_5 : sz Try.prog 5 = some 1 := by kernel_rfl
theorem zero_110 : zeroOf Try.prog 110 = some (.agg #[(.int .u32 0), (.int .u32 0), (.int .u32 0), (.int .u32 0), (.int .u32 0), (.int .u32 0), (.int .u32 0), (.int .u32 0)]) := by kernel_rfl
theorem zero_5 : zeroOf Try.prog 5 = some (.int .u8 0) := by kernel_rfl
instance : Fb (callable Try.prog 75) := ⟨ca_75⟩
instance : Fb (callable Try.prog 76) := ⟨ca_76⟩
instance : Fb (callable Try.prog 77) := ⟨ca_77⟩
instance : Ft (elemInfo Try.prog 5) (1, 1, (.int .u8 0)) := ⟨ei_5⟩
instance : Fb (isMany Try.prog 110) := ⟨many_110⟩
instance : Fb (isOne Try.prog 35) := ⟨one_35⟩
instance : Ft (sliceOf Try.prog 22) (5, 1) := ⟨sl_22⟩
instance : Ft (sz Try.prog 110) (8) := ⟨sz_110⟩
instance : Ft (sz Try.prog 35) (1) := ⟨sz_35⟩
instance : Ft (sz Try.prog 5) (1) := ⟨sz_5⟩
instance : Ft (zeroOf Try.prog 110) (.agg #[(.int .u32 0), (.int .u32 0), (.int .u32 0), (.int .u32 0), (.int .u32 0), (.int .u32 0), (.int .u32 0), (.int .u32 0)]) := ⟨zero_110⟩
instance : Ft (zeroOf Try.prog 5) (.int .u8 0) := ⟨zero_5⟩
instance : Ft (Try.prog.underlying 3) (.int .i64) := ⟨Try.underlying3⟩
instance : Ft (Try.prog.underlying 5) (.int .u8) := ⟨Try.underlying5⟩
instance : Ft (Try.prog.underlying 22) (.slice 5) := ⟨Try.underlying22⟩
instance : Ft (Try.prog.underlying 24) (.int .u64) := ⟨Try.underlying24⟩
instance : Ft (Try.prog.underlying 35) (.int .u32) := ⟨Try.underlying35⟩
instance : Ft (Try.prog.underlying 110) (.array 8 35) := ⟨Try.underlying110⟩
end FaShaW2
attribute [local irreducible] PV OpW WL WM WH WZ W C Has RoOk

section
attribute [local semireducible] filled
set_option maxHeartbeats 1000000 in
theorem filled_c (a : Option Addr) (c : Nat) (xs : List B) (hl : xs.length ≤ 100000) (ro : RO) (hs : SlR v8 (.slice a xs.length c) xs ro) : C Try.prog 76 #[.slice a xs.length c] ro [] fun v own => ∃ g, own = [g] ∧ Sl v8 5 v (filled xs) g := by
  refine c_of_w2 (n := 33) Try.func76 rfl rfl rfl (by rfl) fun E => ?_
  refine w_sub (own' := [[]]) (Sub.flat rfl) ?_
  repeat' (first | ((with_reducible refine g_wl ?_); (first | refine kN ?_ | ((with_reducible refine g_mv ?_); (refine kp (pvm_move_s rfl) ?_)) | ((with_reducible refine g_as ?_); (first | refine kp (pvm_assign_s rfl) ?_ | refine kp pv_assign ?_)) | ((with_reducible refine g_cb .append ?_); (first | (refine kd (opw_append (f := v8) (xs := []) (ys := xs) 0 FaShaW2.sl_22 FaShaW2.ei_5 (fun _ => rfl) 0 rfl rfl Sl.nil rfl rfl (hs.rd _) (by simp; omega) (by omega) (fun v g h => ?_)); rw [List.nil_append] at h) | (refine kd (opw_append (f := v8) (xs := xs) (ys := [128#8]) 0 FaShaW2.sl_22 FaShaW2.ei_5 (fun _ => rfl) 0 rfl rfl h rfl rfl (Rd.arr 1 0 rfl (fun k hk => by rw [Nat.zero_add])) (by simp; omega) (by omega) (fun v g h => ?_))))) | refine kd (opw_buildRow (f := v8) [(BitVec.ofNat 8 128)] Try.underlying22 FaShaW2.sz_5 FaShaW2.zero_5 rfl rfl (by omega) rfl (fun _ => rfl) fun nb => ?_))) | with_reducible refine w_seq ?_ | with_reducible refine thenP_n ?_ | with_reducible refine w_block ?_ | refine wr rfl ?_)
  refine w_sub (own' := [g]) (Sub.pk' [0] rfl) ?_
  refine w_loop2 (ι := Nat × Value × Blks) (fun x ρ ro' own => x.1 ≤ padN xs.length ∧ Kn [(0, .slice a xs.length c), (3, x.2.1)] ρ ∧ ro' = ro ∧ own = [x.2.2] ∧ Sl v8 5 x.2.1 (xs ++ [128#8] ++ List.replicate x.1 0#8) x.2.2) (fun x => padN xs.length - x.1) (0, _, _) ⟨Nat.zero_le _, ⟨rfl, rfl, trivial⟩, rfl, rfl, by simpa using ‹_›⟩ ?_
  rintro ⟨j, v, g⟩ ρ ro' own ⟨hj, hk, rfl, rfl, hS⟩
  obtain ⟨ρ', rfl⟩ := hk.ex
  dsimp only at *
  obtain ⟨a1, c1, rfl, hle⟩ := hS.slice
  have hL : (xs ++ [128#8] ++ List.replicate j 0#8).length = xs.length + 1 + j := by simp; omega
  have hpm := padN_mod xs.length j hj
  have hpl := padN_le xs.length
  by_cases hlt : j < padN xs.length
  · repeat' (first | ((with_reducible refine g_wl ?_); (first | refine kN ?_ | ((with_reducible refine g_mv ?_); (refine kp (pvm_move_s rfl) ?_)) | ((with_reducible refine g_as ?_); (refine kp pv_assign ?_)) | ((with_reducible refine g_bo ?_); (first | refine kp (pv_irem rfl rfl (by omega)) ?_ | refine kp (pv_neq rfl rfl) ?_)) | ((with_reducible refine g_cb .append ?_); (refine kd (opw_append (f := v8) (xs := xs ++ [128#8] ++ List.replicate j 0#8) (ys := [0#8]) 0 FaShaW2.sl_22 FaShaW2.ei_5 (fun _ => rfl) 0 rfl rfl hS rfl rfl (Rd.arr 1 0 rfl (fun k hk => by rw [Nat.zero_add])) (by simp; omega) (by omega) (fun v g h => ?_)))) | ((with_reducible refine g_cb .len ?_); refine kp (pv_len_slice Ft.h rfl) ?_) | refine kd (opw_buildRow (f := v8) [(BitVec.ofNat 8 0)] Try.underlying22 FaShaW2.sz_5 FaShaW2.zero_5 rfl rfl (by omega) rfl (fun _ => rfl) fun nb => ?_))) | with_reducible refine w_seq ?_ | with_reducible refine thenP_n ?_ | with_reducible refine blockP_n ?_ | with_reducible refine w_skip ?_ | with_reducible refine w_block ?_ | (refine w_cond_dec rfl (fun _ => ?_) (fun _ => ?_) <;> try (exfalso; omega)) | refine wr rfl ?_)
    refine ⟨(j + 1, _, _), [g], Sub.pk' [0] rfl, ⟨hlt, ⟨rfl, rfl, trivial⟩, rfl, rfl, ?_⟩, by dsimp only; omega⟩
    dsimp only
    rw [List.replicate_succ', ← List.append_assoc]
    exact h
  · obtain rfl : j = padN xs.length := by omega
    repeat' (first | ((with_reducible refine g_wl ?_); (first | refine kN ?_ | ((with_reducible refine g_mv ?_); (refine kp (pvm_move_s rfl) ?_)) | ((with_reducible refine g_as ?_); (first | refine kp (pvm_assign_64 rfl) ?_ | refine kp (pvm_assign_i rfl) ?_)) | ((with_reducible refine g_bo ?_); (first | refine kp (pv_irem rfl rfl (by omega)) ?_ | refine kp (pv64_shl rfl rfl (by omega)) ?_ | refine kp (pv_neq rfl rfl) ?_)) | ((with_reducible refine g_cv ?_); (refine kp (pvc_i_64 Ft.h Ft.h rfl) ?_)) | ((with_reducible refine g_cb .len ?_); refine kp (pv_len_slice Ft.h rfl) ?_))) | with_reducible refine w_seq ?_ | with_reducible refine thenP_n ?_ | with_reducible refine thenP_x ?_ | with_reducible refine blockP_eq ?_ | with_reducible refine w_exit ?_ | with_reducible refine w_block ?_ | (refine w_cond_dec rfl (fun _ => ?_) (fun _ => ?_) <;> try (exfalso; omega)) | refine wr rfl ?_)
    refine w_loop2 (ι := Nat × Value × Blks) (fun x ρ ro'' own => x.1 ≤ 8 ∧ Kn [(3, x.2.1), (4, v64 (BitVec.ofInt 64 (xs.length : Nat) <<< 3)), (5, .int .i64 (56 - 8 * (x.1 : Int)))] ρ ∧ ro'' = ro' ∧ own = [x.2.2] ∧ Sl v8 5 x.2.1 (xs ++ [128#8] ++ List.replicate (padN xs.length) 0#8 ++ (lenB xs.length).take x.1) x.2.2) (fun x => 8 - x.1) (0, _, _) ⟨Nat.zero_le _, ⟨rfl, rfl, rfl, trivial⟩, rfl, rfl, by rw [List.take_zero, List.append_nil]; exact hS⟩ ?_
    rintro ⟨j, v, g⟩ ρ ro'' own ⟨hj, hk, rfl, rfl, hS⟩
    obtain ⟨ρ', rfl⟩ := hk.ex
    dsimp only at *
    by_cases hlt : j < 8
    · repeat' (first | ((with_reducible refine g_wl ?_); (first | refine kN ?_ | ((with_reducible refine g_mv ?_); (first | refine kp (pvm_move_64 rfl) ?_ | refine kp (pvm_move_i rfl) ?_ | refine kp pv_move ?_)) | ((with_reducible refine g_as ?_); (first | refine kp (pvm_assign_i rfl) ?_ | refine kp pv_assign ?_)) | ((with_reducible refine g_bo ?_); (first | refine kp (pv64_shr rfl rfl (by omega)) ?_ | refine kp (pv_isub rfl rfl (by omega)) ?_ | refine kp (pv_geq rfl rfl) ?_)) | ((with_reducible refine g_cv ?_); (refine kp (pvc_64_8 Ft.h Ft.h rfl) ?_)) | ((with_reducible refine g_cb .append ?_); (refine kd (opw_append (f := v8) (xs := xs ++ [128#8] ++ List.replicate (padN xs.length) 0#8 ++ (lenB xs.length).take j) (ys := [_]) 0 FaShaW2.sl_22 FaShaW2.ei_5 (fun _ => rfl) 0 rfl rfl hS rfl rfl (Rd.arr 1 0 rfl (fun k hk => by rw [Nat.zero_add])) (by simp; omega) (by omega) (fun v g h => ?_)))) | refine kd (opw_buildRow (f := v8) [_] Try.underlying22 FaShaW2.sz_5 FaShaW2.zero_5 rfl rfl (by omega) rfl (fun _ => rfl) fun nb => ?_))) | with_reducible refine w_seq ?_ | with_reducible refine thenP_n ?_ | with_reducible refine blockP_n ?_ | with_reducible refine w_skip ?_ | with_reducible refine w_block ?_ | (refine w_cond_dec rfl (fun _ => ?_) (fun _ => ?_) <;> try (exfalso; omega)) | refine wr rfl ?_)
      refine ⟨(j + 1, _, _), [g], Sub.pk' [0] rfl, ⟨hlt, ⟨rfl, rfl, congrArg (Value.int .i64) (by dsimp only; omega), trivial⟩, rfl, rfl, ?_⟩, by dsimp only; omega⟩
      dsimp only
      rw [lenB_get hlt, ← List.append_assoc]
      exact h
    · obtain rfl : j = 8 := by omega
      repeat' (first | ((with_reducible refine g_wl ?_); (first | refine kN ?_ | ((with_reducible refine g_mv ?_); (first | refine kp (pvm_move_i rfl) ?_ | refine kp pv_move ?_)) | ((with_reducible refine g_as ?_); (refine kp pv_assign ?_)) | ((with_reducible refine g_bo ?_); (refine kp (pv_geq rfl rfl) ?_)))) | with_reducible refine w_seq ?_ | with_reducible refine thenP_n ?_ | with_reducible refine thenP_x ?_ | with_reducible refine blockP_eq ?_ | with_reducible refine w_ret ?_ | with_reducible refine w_exit ?_ | refine w_cond_false rfl ?_ | refine wr rfl ?_)
      rw [List.take_of_length_le (by rw [lenB_len]; omega)] at hS
      exact ret_r rfl ⟨_, rfl, hS⟩
end
section
attribute [local semireducible] sha
set_option maxHeartbeats 1000000 in
theorem sum_c (a : Option Addr) (c : Nat) (xs : List B) (hl : xs.length ≤ 100000) (ro : RO) (hs : SlR v8 (.slice a xs.length c) xs ro) : C Try.prog 46 #[.slice a xs.length c] ro [] fun v own => ∃ g, own = [g] ∧ Sl v8 5 v (sha xs) g := by
  have hfm := filled_mod xs
  have hfl := filled_len xs
  have hpl := padN_le xs.length
  refine c_of_w2 (n := 40) Try.func46 rfl rfl rfl (by rfl) fun E => ?_
  repeat' (first | ((with_reducible refine g_wl ?_); (first | refine kN ?_ | ((with_reducible refine g_mv ?_); (refine kp (pvm_move_s rfl) ?_)) | ((with_reducible refine g_as ?_); (refine kp (pvm_assign_s rfl) ?_)) | ((with_reducible refine g_st ?_); (refine kn (opw_storeRow (f := v32) 0 0 FaShaW2.sz_110 (by first | exact H0_len | rfl) (fun _ => rfl) rfl rfl rfl rfl (by first | exact H0_len | rfl) ?_))) | ((with_reducible refine g_cf 75 ?_); (refine kd (opw_call Fb.h rfl [] (begin_c _) RoOk.self (fun v own h => ?_)); obtain ⟨rfl, rfl⟩ := h)) | ((with_reducible refine g_cf 76 ?_); (refine kd (opw_call Fb.h rfl [] (filled_c a c xs hl ro hs) RoOk.self (fun v own h => ?_)); obtain ⟨g, rfl, hg⟩ := h; obtain ⟨a1, c1, rfl, hle⟩ := hg.slice)) | refine kd (d := 3) (opw_allocRow (f := v32) (List.replicate 8 0) FaShaW2.zero_110 fun b3 => ?_))) | with_reducible refine w_seq ?_ | with_reducible refine thenP_n ?_ | with_reducible refine w_block ?_ | refine wr rfl ?_)
  obtain ⟨r, hr, hok⟩ := hg.ro
  refine w_loop2 (ι := Nat × List D × Option Addr × Nat × Nat) (fun x ρ ro' own => 64 * x.1 ≤ (filled xs).length ∧ x.2.1.length = 8 ∧ x.2.2.2.1 = (filled xs).length - 64 * x.1 ∧ x.2.2.2.1 ≤ x.2.2.2.2 ∧ Kn [(3, .pointer (some ⟨b3, 0, none⟩)), (4, .slice x.2.2.1 x.2.2.2.1 x.2.2.2.2)] ρ ∧ ro' = ro ∧ own = [g, [(b3, arr v32 110 x.2.1)]] ∧
    SlR v8 (.slice x.2.2.1 x.2.2.2.1 x.2.2.2.2) ((filled xs).drop (64 * x.1)) r ∧ sumsN x.2.1 ((filled xs).drop (64 * x.1)) ((filled xs).length / 64 - x.1) = sumsN H0 (filled xs) ((filled xs).length / 64)) (fun x => (filled xs).length - 64 * x.1) (0, H0, a1, (filled xs).length, c1) ⟨Nat.zero_le _, H0_len, rfl, hle, ⟨rfl, rfl, trivial⟩, rfl, rfl, hr, rfl⟩ ?_
  rintro ⟨i, st, a2, n2, c2⟩ ρ ro' own ⟨hi, h8, hn, hc2, hk, rfl, rfl, hsl, he⟩
  obtain ⟨ρ', rfl⟩ := hk.ex
  dsimp only at *
  by_cases hlt : 0 < n2
  · have hdl : 64 ≤ ((filled xs).drop (64 * i)).length := by rw [List.length_drop]; omega
    repeat' (first | ((with_reducible refine g_wl ?_); (first | refine kN ?_ | ((with_reducible refine g_mv ?_); (refine kp (pvm_move_s rfl) ?_)) | ((with_reducible refine g_as ?_); (refine kp (pvm_assign_s rfl) ?_)) | ((with_reducible refine g_bo ?_); (refine kp (pv_gtr rfl rfl) ?_)) | ((with_reducible refine g_cb .len ?_); refine kp (pv_len_slice Ft.h rfl) ?_) | refine kp (pv_slice_l FaShaW2.sl_22 rfl rfl (by omega) (by omega)) ?_)) | with_reducible refine w_seq ?_ | with_reducible refine thenP_n ?_ | with_reducible refine blockP_n ?_ | with_reducible refine w_skip ?_ | with_reducible refine w_block ?_ | (refine w_cond_dec rfl (fun _ => ?_) (fun _ => ?_) <;> try (exfalso; omega)) | (refine w_draw (id := 5) [4] (hold [(b3, arr v32 110 st)]) Fa.mixed (hold_ok (by simp)) ?_; refine wh_loadA (cs := st.map v32) 0 rfl (by kernel_rfl) rfl rfl FaShaW2.many_110 FaShaW2.sz_110 (by rw [List.length_map]; exact h8) rfl (holdRow 0 rfl) ?_; (refine wh_pure 1 rfl (by kernel_rfl) rfl rfl (pvm_move_s rfl) ?_); refine wh_pure 2 rfl (by kernel_rfl) rfl rfl (pv_slice_h FaShaW2.sl_22 rfl rfl (by omega) (by omega)) ?_; refine wh_do 3 (by kernel_rfl) rfl rfl rfl rfl (opw_call FaShaW2.ca_77 rfl [] (takes_c st h8 a2 c2 (((filled xs).drop (64 * i)).take 64) (by rw [List.length_take]; omega) r (hsl.take' hdl)) (hok _ _ (List.mem_cons_self ..)) (fun v own h => ?_)); obtain ⟨rfl, rfl⟩ := h; refine ⟨(hold_ok (by simp [dr])), ?_⟩; (refine wh_rel 4 (by kernel_rfl) rfl rfl rfl rfl (opw_storeRow (f := v32) 1 0 FaShaW2.sz_110 (takes_len h8) (fun _ => rfl) rfl rfl rfl rfl h8 ?_)); (refine wz_done (by kernel_rfl) ?_)) | refine wr rfl ?_)
    refine ⟨(i + 1, _, _, _, _), _, Sub.refl, ⟨by dsimp only; omega, ?_, ?_, ?_, ⟨rfl, rfl, trivial⟩, rfl, rfl, ?_, ?_⟩, by dsimp only; omega⟩
    · exact takes_len h8
    · show n2 - 64 = (filled xs).length - 64 * (i + 1); omega
    · show n2 - 64 ≤ c2 - 64; omega
    · have := hsl.drop' (l := 64) hdl
      rw [List.drop_drop, show 64 * i + 64 = 64 * (i + 1) by omega] at this
      exact this
    · rw [sumsN_step (by omega), List.drop_drop, show 64 * i + 64 = 64 * (i + 1) by omega, show (filled xs).length / 64 - i - 1 = (filled xs).length / 64 - (i + 1) by omega] at he
      exact he
  · repeat' (first | ((with_reducible refine g_wl ?_); (first | refine kN ?_ | ((with_reducible refine g_mv ?_); (first | refine kp (pvm_move_s rfl) ?_ | refine kp (pvm_move_i rfl) ?_)) | ((with_reducible refine g_as ?_); (refine kp (pvm_assign_s rfl) ?_)) | ((with_reducible refine g_bo ?_); refine kp (pv_gtr rfl rfl) ?_) | ((with_reducible refine g_ld ?_); (refine kd (opw_loadRow (f := v32) 1 0 Fb.h FaShaW2.sz_110 h8 rfl rfl ?_))) | ((with_reducible refine g_cb .len ?_); refine kp (pv_len_slice Ft.h rfl) ?_))) | with_reducible refine w_seq ?_ | with_reducible refine thenP_n ?_ | with_reducible refine thenP_x ?_ | with_reducible refine blockP_eq ?_ | with_reducible refine w_exit ?_ | with_reducible refine w_block ?_ | (refine w_cond_dec rfl (fun _ => ?_) (fun _ => ?_) <;> try (exfalso; omega)) | refine wr (id := 3) rfl ?_ | refine wr (id := 6) rfl ?_ | refine wr (id := 7) rfl ?_)
    rw [sumsN_zero (by omega)] at he
    refine w_sub (own' := [[]]) (Sub.pk' [] rfl) ?_
    refine w_loop2 (ι := Nat × Value × Blks) (fun x ρ ro'' own => x.1 ≤ 8 ∧ Kn [(20, agv v32 st), (5, x.2.1), (21, .int .i64 x.1)] ρ ∧ ro'' = ro' ∧ own = [x.2.2] ∧ Sl v8 5 x.2.1 ((st.take x.1).flatMap be4) x.2.2) (fun x => 8 - x.1) (0, _, _) ⟨Nat.zero_le _, ⟨rfl, rfl, rfl, trivial⟩, rfl, rfl, Sl.nil⟩ ?_
    rintro ⟨j, v, g'⟩ ρ ro'' own ⟨hj, hk, rfl, rfl, hS⟩
    obtain ⟨ρ', rfl⟩ := hk.ex
    dsimp only at *
    by_cases hlt8 : j < 8
    · have hIx : st[j]? = some (st.getD j 0) := getD_ofD (by omega)
      have hLn : ((st.take j).flatMap be4).length ≤ 64 := by
        have : j = 0 ∨ j = 1 ∨ j = 2 ∨ j = 3 ∨ j = 4 ∨ j = 5 ∨ j = 6 ∨ j = 7 := by omega
        obtain ⟨a0, a1, a2, a3, a4, a5, a6, a7, rfl⟩ := len8 h8
        rcases this with rfl | rfl | rfl | rfl | rfl | rfl | rfl | rfl <;> exact Nat.le_of_ble_eq_true rfl
      repeat' (first | ((with_reducible refine g_wl ?_); (first | refine kN ?_ | ((with_reducible refine g_mv ?_); (first | refine kp (pvm_move_32 rfl) ?_ | refine kp (pvm_move_i rfl) ?_ | refine kp pv_move ?_)) | ((with_reducible refine g_as ?_); (first | refine kp (pvm_assign_32 rfl) ?_ | refine kp pv_assign ?_)) | ((with_reducible refine g_bo ?_); (first | refine kp (pv32_shr rfl rfl (by omega)) ?_ | refine kp (pv_iadd rfl rfl (by omega)) ?_ | refine kp (pv_lss rfl rfl) ?_)) | ((with_reducible refine g_cv ?_); refine kp (pvc_32_8 Ft.h Ft.h rfl) ?_) | ((with_reducible refine g_cb .append ?_); (refine kd (opw_append (f := v8) (xs := (st.take j).flatMap be4) (ys := [_, _, _, _]) 0 FaShaW2.sl_22 FaShaW2.ei_5 (fun _ => rfl) 0 rfl rfl hS rfl rfl (Rd.arr 1 0 rfl (fun k hk => by rw [Nat.zero_add])) (by show (_ + 4) * _ ≤ _; omega) (by omega) (fun v g h => ?_)))) | refine kp (pv_indexRow (f := v32) Try.underlying110 FaShaW2.sz_35 Fb.h rfl rfl (by omega) (by omega) hIx) ?_ | refine kd (opw_buildRow (f := v8) [_, _, _, _] Try.underlying22 FaShaW2.sz_5 FaShaW2.zero_5 rfl rfl (by omega) rfl (fun _ => rfl) fun nb => ?_))) | with_reducible refine w_seq ?_ | with_reducible refine thenP_n ?_ | with_reducible refine blockP_n ?_ | with_reducible refine w_skip ?_ | with_reducible refine w_block ?_ | (refine w_cond_dec rfl (fun _ => ?_) (fun _ => ?_) <;> try (exfalso; omega)) | refine wr (id := 8) rfl ?_ | refine wr (id := 9) rfl ?_ | refine wr (id := 10) rfl ?_ | refine wr (id := 11) rfl ?_)
      refine ⟨(j + 1, _, _), [_], Sub.pk' [0] rfl, ⟨hlt8, ⟨rfl, rfl, rfl, trivial⟩, rfl, rfl, ?_⟩, by dsimp only; omega⟩
      dsimp only
      rw [be4_take (by omega)]
      exact h
    · obtain rfl : j = 8 := by omega
      repeat' (first | ((with_reducible refine g_wl ?_); (first | refine kN ?_ | ((with_reducible refine g_mv ?_); (refine kp pv_move ?_)) | ((with_reducible refine g_as ?_); (refine kp pv_assign ?_)) | ((with_reducible refine g_bo ?_); refine kp (pv_lss rfl rfl) ?_))) | with_reducible refine w_seq ?_ | with_reducible refine thenP_n ?_ | with_reducible refine thenP_x ?_ | with_reducible refine blockP_eq ?_ | with_reducible refine w_ret ?_ | with_reducible refine w_exit ?_ | refine w_cond_false rfl ?_ | refine wr (id := 8) rfl ?_ | refine wr (id := 12) rfl ?_)
      rw [List.take_of_length_le (by omega), he] at hS
      exact ret_r rfl ⟨_, rfl, hS⟩
end
end Go.Proofs.Ytnohdfhhdppflaa
