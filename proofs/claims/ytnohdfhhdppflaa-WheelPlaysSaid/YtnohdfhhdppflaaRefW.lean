/- The reference's hash, walked: it is the same. -/
import Derived.Test.YtnohdfhhdppflaaShaW
import Derived.Test.YtnohdfhhdppflaaPlain
namespace Go.Proofs.Ytnohdfhhdppflaa
open Go Go.Vc Go.Sha Go.Fl
set_option linter.unusedVariables false
set_option linter.unusedSimpArgs false
set_option maxRecDepth 100000
set_option maxHeartbeats 4000000
namespace FaRefW
theorem many_88 : isMany Try.prog 88 = true := by kernel_rfl
theorem one_5 : isOne Try.prog 5 = true := by kernel_rfl
theorem sl_22 : sliceOf Try.prog 22 = some (5, 1) := by kernel_rfl
theorem sz_35 : sz Try.prog 35 = some 1 := by kernel_rfl
theorem sz_5 : sz Try.prog 5 = some 1 := by kernel_rfl
theorem sz_88 : sz Try.prog 88 = some 64 := by kernel_rfl
theorem zero_5 : zeroOf Try.prog 5 = some (.int .u8 0) := by kernel_rfl
theorem zero_88 : zeroOf Try.prog 88 = some (.agg #[(.int .u32 0), (.int .u32 0), (.int .u32 0), (.int .u32 0), (.int .u32 0), (.int .u32 0), (.int .u32 0), (.int .u32 0), (.int .u32 0), (.int .u32 0), (.int .u32 0), (.int .u32 0), (.int .u32 0), (.int .u32 0), (.int .u32 0), (.int .u32 0), (.int .u32 0), (.int .u32 0), (.int .u32 0), (.int .u32 0), (.int .u32 0), (.int .u32 0), (.int .u32 0), (.int .u32 0), (.int .u32 0), (.int .u32 0), (.int .u32 0), (.int .u32 0), (.int .u32 0), (.int .u32 0), (.int .u32 0), (.int .u32 0), (.int .u32 0), (.int .u32 0), (.int .u32 0), (.int .u32 0), (.int .u32 0), (.int .u32 0), (.int .u32 0), (.int .u32 0), (.int .u32 0), (.int .u32 0), (.int .u32 0), (.int .u32 0), (.int .u32 0), (.int .u32 0), (.int .u32 0), (.int .u32 0), (.int .u32 0), (.int .u32 0), (.int .u32 0), (.int .u32 0), (.int .u32 0), (.int .u32 0), (.int .u32 0), (.int .u32 0), (.int .u32 0), (.int .u32 0), (.int .u32 0), (.int .u32 0), (.int .u32 0), (.int .u32 0), (.int .u32 0), (.int .u32 0)]) := by kernel_rfl
instance : Fb (isMany Try.prog 88) := ⟨many_88⟩
instance : Fb (isOne Try.prog 5) := ⟨one_5⟩
instance : Ft (sliceOf Try.prog 22) (5, 1) := ⟨sl_22⟩
instance : Ft (sz Try.prog 35) (1) := ⟨sz_35⟩
instance : Ft (sz Try.prog 5) (1) := ⟨sz_5⟩
instance : Ft (sz Try.prog 88) (64) := ⟨sz_88⟩
instance : Ft (zeroOf Try.prog 5) (.int .u8 0) := ⟨zero_5⟩
instance : Ft (zeroOf Try.prog 88) (.agg #[(.int .u32 0), (.int .u32 0), (.int .u32 0), (.int .u32 0), (.int .u32 0), (.int .u32 0), (.int .u32 0), (.int .u32 0), (.int .u32 0), (.int .u32 0), (.int .u32 0), (.int .u32 0), (.int .u32 0), (.int .u32 0), (.int .u32 0), (.int .u32 0), (.int .u32 0), (.int .u32 0), (.int .u32 0), (.int .u32 0), (.int .u32 0), (.int .u32 0), (.int .u32 0), (.int .u32 0), (.int .u32 0), (.int .u32 0), (.int .u32 0), (.int .u32 0), (.int .u32 0), (.int .u32 0), (.int .u32 0), (.int .u32 0), (.int .u32 0), (.int .u32 0), (.int .u32 0), (.int .u32 0), (.int .u32 0), (.int .u32 0), (.int .u32 0), (.int .u32 0), (.int .u32 0), (.int .u32 0), (.int .u32 0), (.int .u32 0), (.int .u32 0), (.int .u32 0), (.int .u32 0), (.int .u32 0), (.int .u32 0), (.int .u32 0), (.int .u32 0), (.int .u32 0), (.int .u32 0), (.int .u32 0), (.int .u32 0), (.int .u32 0), (.int .u32 0), (.int .u32 0), (.int .u32 0), (.int .u32 0), (.int .u32 0), (.int .u32 0), (.int .u32 0), (.int .u32 0)]) := ⟨zero_88⟩
instance : Ft (Try.prog.underlying 5) (.int .u8) := ⟨Try.underlying5⟩
instance : Ft (Try.prog.underlying 22) (.slice 5) := ⟨Try.underlying22⟩
instance : Ft (Try.prog.underlying 35) (.int .u32) := ⟨Try.underlying35⟩
instance : Ft (Try.prog.underlying 88) (.array 64 35) := ⟨Try.underlying88⟩
end FaRefW
attribute [local irreducible] PV OpW WL WM WH WZ W C Has RoOk

theorem four_c (x : D) (ro : RO) : C Try.prog 48 #[v32 x] ro [] fun v own => ∃ g, own = [g] ∧ Sl v8 5 v (be4 x) g := by
  refine c_of_w2 (n := 15) Try.func48 rfl rfl rfl (by rfl) fun E => ?_
  repeat' (first | ((with_reducible refine g_wl ?_); (first | refine kN ?_ | ((with_reducible refine g_mv ?_); (refine kp (pvm_move_32 rfl) ?_)) | ((with_reducible refine g_as ?_); (refine kp (pvm_assign_s rfl) ?_)) | ((with_reducible refine g_bo ?_); refine kp (pv32_shr rfl rfl (by omega)) ?_) | ((with_reducible refine g_cv ?_); refine kp (pvc_32_8 Ft.h Ft.h rfl) ?_) | refine kd (opw_buildRow (f := v8) [_, _, _, _] Try.underlying22 FaRefW.sz_5 FaRefW.zero_5 rfl rfl (by omega) rfl (fun _ => rfl) fun nb => ?_))) | with_reducible refine w_seq ?_ | with_reducible refine thenP_n ?_ | with_reducible refine w_ret ?_ | refine wr rfl ?_)
  exact ret_r rfl ⟨_, rfl, Sl.full⟩
theorem number_c (a : Option Addr) (n c : Nat) (xs : List B) (hn : n = xs.length) (hl : xs.length ≤ 1000000) (ro : RO) (hs : SlR v8 (.slice a n c) xs ro) : C Try.prog 49 #[.slice a n c] ro [] fun v own => v = v32 (num 0 xs) ∧ own = [] := by
  subst hn
  refine c_of_w2 (n := 19) Try.func49 rfl rfl rfl (by rfl) fun E => ?_
  repeat' (first | ((with_reducible refine g_wl ?_); (first | refine kN ?_ | ((with_reducible refine g_mv ?_); (first | refine kp (pvm_move_s rfl) ?_ | refine kp (pvm_move_i rfl) ?_)) | ((with_reducible refine g_as ?_); (refine kp pv_assign ?_)) | ((with_reducible refine g_cb .len ?_); refine kp (pv_len_slice Ft.h rfl) ?_))) | with_reducible refine w_seq ?_ | with_reducible refine thenP_n ?_ | with_reducible refine w_block ?_ | refine wr rfl ?_)
  refine w_loop2 (ι := Nat) (fun i ρ ro' own => i ≤ xs.length ∧ Kn [(3, v32 (num 0 (xs.take i))), (6, .slice a xs.length c), (7, .int .i64 xs.length), (8, .int .i64 i)] ρ ∧ ro' = ro ∧ own = []) (fun i => xs.length - i) 0 ⟨Nat.zero_le _, ⟨rfl, rfl, rfl, rfl, trivial⟩, rfl, rfl⟩ ?_
  rintro i ρ ro' own ⟨hi, hk, rfl, rfl⟩
  obtain ⟨ρ', rfl⟩ := hk.ex
  by_cases hlt : i < xs.length
  · obtain ⟨b, off, rfl, hhas⟩ := hs.addr (by omega)
    have hx : xs[i]? = some (xs[i]'hlt) := List.getElem?_eq_getElem hlt
    repeat' (first | ((with_reducible refine g_wl ?_); (first | refine kN ?_ | ((with_reducible refine g_mv ?_); (first | refine kp (pvm_move_32 rfl) ?_ | refine kp (pvm_move_8 rfl) ?_ | refine kp (pvm_move_i rfl) ?_)) | ((with_reducible refine g_as ?_); (first | refine kp (pvm_assign_32 rfl) ?_ | refine kp (pvm_assign_8 rfl) ?_)) | ((with_reducible refine g_bo ?_); (first | refine kp (pv32_shl rfl rfl (by omega)) ?_ | refine kp (pv32_or rfl rfl) ?_ | refine kp (pv_iadd rfl rfl (by omega)) ?_ | refine kp (pv_lss rfl rfl) ?_)) | ((with_reducible refine g_cv ?_); refine kp (pvc_8_32 Ft.h Ft.h rfl) ?_) | ((with_reducible refine g_ld ?_); (refine kd (opw_load Fb.h rfl (hhas _ _ _ hx) ?_))) | refine kp (pv_indexAddr1 FaRefW.sl_22 rfl rfl (by omega) (by omega)) ?_)) | with_reducible refine w_seq ?_ | with_reducible refine thenP_n ?_ | with_reducible refine blockP_n ?_ | with_reducible refine w_skip ?_ | with_reducible refine w_block ?_ | (refine w_cond_dec rfl (fun _ => ?_) (fun _ => ?_) <;> try (exfalso; omega)) | refine wr rfl ?_)
    refine ⟨i + 1, _, Sub.refl, ⟨hlt, ⟨congrArg v32 ?_, rfl, rfl, rfl, trivial⟩, rfl, rfl⟩, by omega⟩
    rw [List.take_succ_eq_append_getElem hlt]
    unfold num
    rw [List.foldl_append]; rfl
  · repeat' (first | ((with_reducible refine g_wl ?_); (first | refine kN ?_ | ((with_reducible refine g_mv ?_); (refine kp (pvm_move_32 rfl) ?_)) | ((with_reducible refine g_as ?_); (refine kp (pvm_assign_32 rfl) ?_)) | ((with_reducible refine g_bo ?_); (refine kp (pv_lss rfl rfl) ?_)))) | with_reducible refine w_seq ?_ | with_reducible refine thenP_n ?_ | with_reducible refine thenP_x ?_ | with_reducible refine blockP_eq ?_ | with_reducible refine w_ret ?_ | with_reducible refine w_exit ?_ | (refine w_cond_dec rfl (fun _ => ?_) (fun _ => ?_) <;> try (exfalso; omega)) | refine wr rfl ?_)
    rw [List.take_of_length_le (by omega)]
    exact ret_r (v := v32 _) rfl ⟨rfl, rfl⟩
theorem turn_c (x : D) (n : Nat) (h2 : n < 32) (ro : RO) : C Try.prog 50 #[v32 x, v64 (BitVec.ofNat 64 n)] ro [] fun v own => v = v32 (tr x n) ∧ own = [] := by
  have e1 : (BitVec.ofNat 64 n).toNat = n := by rw [BitVec.toNat_ofNat]; omega
  have e2 : (BitVec.ofNat 64 32 - BitVec.ofNat 64 n).toNat = 32 - n := by rw [BitVec.toNat_sub, BitVec.toNat_ofNat, BitVec.toNat_ofNat]; omega
  refine c_of_w2 (n := 13) Try.func50 rfl rfl rfl (by rfl) fun E => ?_
  repeat' (first | ((with_reducible refine g_wl ?_); (first | refine kN ?_ | ((with_reducible refine g_mv ?_); (first | refine kp (pvm_move_32 rfl) ?_ | refine kp (pvm_move_64 rfl) ?_)) | ((with_reducible refine g_as ?_); (first | refine kp (pvm_assign_32 rfl) ?_ | refine kp pv_assign ?_)) | ((with_reducible refine g_bo ?_); (first | refine kp (pv32_shr rfl rfl (by omega)) ?_ | refine kp (pv64_sub (v64_lit 32 rfl (by omega)) rfl) ?_ | refine kp (pv32_shl rfl rfl (by omega)) ?_ | refine kp (pv32_or rfl rfl) ?_)))) | with_reducible refine w_seq ?_ | with_reducible refine thenP_n ?_ | with_reducible refine w_ret ?_ | refine wr rfl ?_)
  refine ret_r (v := v32 _) rfl ⟨?_, rfl⟩
  rw [Int.toNat_natCast, Int.toNat_natCast, e1, e2, tr_or]
section
attribute [local semireducible] K256
theorem table_c (ro : RO) : C Try.prog 47 #[] ro [] fun v own => v = agv v32 K256 ∧ own = [] := by
  refine c_of_w2 (n := 2) Try.func47 rfl rfl rfl (by rfl) fun E => ?_
  repeat' (first | ((with_reducible refine g_wl ?_); (first | refine kN ?_ | ((with_reducible refine g_st ?_); (refine kn (opw_storeRow (f := v32) 0 0 FaRefW.sz_88 rfl (fun _ => rfl) rfl rfl rfl rfl rfl ?_))) | refine kp (pv_build_row (f := v32) (z := List.replicate 64 0) [(BitVec.ofNat 32 1116352408), (BitVec.ofNat 32 1899447441), (BitVec.ofNat 32 3049323471), (BitVec.ofNat 32 3921009573), (BitVec.ofNat 32 961987163), (BitVec.ofNat 32 1508970993), (BitVec.ofNat 32 2453635748), (BitVec.ofNat 32 2870763221), (BitVec.ofNat 32 3624381080), (BitVec.ofNat 32 310598401), (BitVec.ofNat 32 607225278), (BitVec.ofNat 32 1426881987), (BitVec.ofNat 32 1925078388), (BitVec.ofNat 32 2162078206), (BitVec.ofNat 32 2614888103), (BitVec.ofNat 32 3248222580), (BitVec.ofNat 32 3835390401), (BitVec.ofNat 32 4022224774), (BitVec.ofNat 32 264347078), (BitVec.ofNat 32 604807628), (BitVec.ofNat 32 770255983), (BitVec.ofNat 32 1249150122), (BitVec.ofNat 32 1555081692), (BitVec.ofNat 32 1996064986), (BitVec.ofNat 32 2554220882), (BitVec.ofNat 32 2821834349), (BitVec.ofNat 32 2952996808), (BitVec.ofNat 32 3210313671), (BitVec.ofNat 32 3336571891), (BitVec.ofNat 32 3584528711), (BitVec.ofNat 32 113926993), (BitVec.ofNat 32 338241895), (BitVec.ofNat 32 666307205), (BitVec.ofNat 32 773529912), (BitVec.ofNat 32 1294757372), (BitVec.ofNat 32 1396182291), (BitVec.ofNat 32 1695183700), (BitVec.ofNat 32 1986661051), (BitVec.ofNat 32 2177026350), (BitVec.ofNat 32 2456956037), (BitVec.ofNat 32 2730485921), (BitVec.ofNat 32 2820302411), (BitVec.ofNat 32 3259730800), (BitVec.ofNat 32 3345764771), (BitVec.ofNat 32 3516065817), (BitVec.ofNat 32 3600352804), (BitVec.ofNat 32 4094571909), (BitVec.ofNat 32 275423344), (BitVec.ofNat 32 430227734), (BitVec.ofNat 32 506948616), (BitVec.ofNat 32 659060556), (BitVec.ofNat 32 883997877), (BitVec.ofNat 32 958139571), (BitVec.ofNat 32 1322822218), (BitVec.ofNat 32 1537002063), (BitVec.ofNat 32 1747873779), (BitVec.ofNat 32 1955562222), (BitVec.ofNat 32 2024104815), (BitVec.ofNat 32 2227730452), (BitVec.ofNat 32 2361852424), (BitVec.ofNat 32 2428436474), (BitVec.ofNat 32 2756734187), (BitVec.ofNat 32 3204031479), (BitVec.ofNat 32 3329325298)] Try.underlying88 FaRefW.sz_35 FaRefW.zero_88 rfl rfl (fun _ => rfl)) ?_ | refine kd (d := 0) (opw_allocRow (f := v32) (List.replicate 64 0) FaRefW.zero_88 fun b0 => ?_))) | with_reducible refine w_seq ?_ | with_reducible refine thenP_n ?_ | with_reducible refine w_ret ?_ | refine wr rfl ?_)
  exact ret_s (v := agv v32 K256) [] (res_row 0 0 rfl FaRefW.many_88 FaRefW.sz_88 rfl rfl) (Sub.pk' [] rfl) ⟨rfl, rfl⟩
end
/-- One block's words, as the reference makes them. -/
def WInv (blk : List B) (j : Nat) (w : List D) : Prop := w.length = 64 ∧ (j < 16 → sw1 w (4 * j) (blk.drop (4 * j)) = sw1 (List.replicate 64 0) 0 blk ∧ ∀ k, j ≤ k → k < 64 → w.getD k 0 = 0) ∧ (16 ≤ j → sw2 w j (64 - j) = words blk)
section
attribute [local semireducible] sw1 sw2 words mix
theorem WInv.start (blk : List B) : WInv blk 0 (List.replicate 64 0) := ⟨rfl, fun _ => ⟨rfl, fun k _ hk => by rw [List.getD_eq_getElem?_getD, List.getElem?_replicate, if_pos hk]; rfl⟩, fun h => by omega⟩
theorem WInv.low {blk : List B} {j : Nat} {w : List D} (h : WInv blk j w) (hb : blk.length = 64) (hj : j < 16) (xs : List B) (hx : xs = (blk.drop (4 * j)).take 4) : WInv blk (j + 1) (w.set j (num 0 xs)) := by
  obtain ⟨h1, h2, h3⟩ := h
  obtain ⟨h4, h5⟩ := h2 hj
  rw [sw1_take w j (by omega) _ (by rw [List.length_drop]; omega), h5 j (Nat.le_refl _) (by omega), ← hx, List.drop_drop, show 4 * j + 4 = 4 * (j + 1) by omega] at h4
  refine ⟨by rw [List.length_set]; exact h1, fun hj' => ⟨h4, fun k hk1 hk2 => ?_⟩, fun hj' => ?_⟩
  · rw [List.getD_eq_getElem?_getD, List.getElem?_set, if_neg (by omega), ← List.getD_eq_getElem?_getD]; exact h5 k (by omega) hk2
  · have : j + 1 = 16 := by omega
    rw [this] at h4 ⊢
    rw [List.drop_of_length_le (by omega)] at h4
    show sw2 _ 16 48 = sw2 (sw1 (List.replicate 64 0) 0 blk) 16 48
    rw [← h4]; rfl
theorem WInv.high {blk : List B} {j : Nat} {w : List D} (h : WInv blk j w) (hj : 16 ≤ j) (hj' : j < 64) {x : D} (hx : x = mix w j) : WInv blk (j + 1) (w.set j x) := by
  obtain ⟨h1, h2, h3⟩ := h
  have := h3 hj
  rw [show 64 - j = (64 - (j + 1)) + 1 by omega] at this
  exact ⟨by rw [List.length_set]; exact h1, fun _ => by omega, fun _ => by rw [hx]; exact this⟩
theorem WInv.all {blk : List B} {w : List D} (h : WInv blk 64 w) : w = words blk := h.2.2 (by omega)
end
end Go.Proofs.Ytnohdfhhdppflaa
