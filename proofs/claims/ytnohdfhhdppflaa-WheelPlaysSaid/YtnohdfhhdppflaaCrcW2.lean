/- Sums that tell slips, walked: what is right; the reference's; rows joined. -/
import Derived.Test.YtnohdfhhdppflaaCrcW
import Derived.Test.YtnohdfhhdppflaaReFlash2
namespace Go.Proofs.Ytnohdfhhdppflaa
open Go Go.Vc Go.Fl Go.Sha
set_option linter.unusedVariables false
set_option linter.unusedSimpArgs false
set_option maxRecDepth 100000
set_option maxHeartbeats 4000000
namespace FaCrcW2
theorem ca_66 : callable Try.prog 66 = true := by kernel_rfl
theorem ei_5 : elemInfo Try.prog 5 = some (1, 1, (.int .u8 0)) := by kernel_rfl
theorem one_5 : isOne Try.prog 5 = true := by kernel_rfl
theorem sl_22 : sliceOf Try.prog 22 = some (5, 1) := by kernel_rfl
instance : Fb (callable Try.prog 66) := ⟨ca_66⟩
instance : Ft (elemInfo Try.prog 5) (1, 1, (.int .u8 0)) := ⟨ei_5⟩
instance : Fb (isOne Try.prog 5) := ⟨one_5⟩
instance : Ft (sliceOf Try.prog 22) (5, 1) := ⟨sl_22⟩
instance : Ft (Try.prog.underlying 3) (.int .i64) := ⟨Try.underlying3⟩
instance : Ft (Try.prog.underlying 5) (.int .u8) := ⟨Try.underlying5⟩
instance : Ft (Try.prog.underlying 9) (.string) := ⟨Try.underlying9⟩
instance : Ft (Try.prog.underlying 22) (.slice 5) := ⟨Try.underlying22⟩
instance : Ft (Try.prog.underlying 35) (.int .u32) := ⟨Try.underlying35⟩
instance : Ft (Try.prog.underlying 91) (.int .u64) := ⟨Try.underlying91⟩
end FaCrcW2
attribute [local irreducible] PV OpW WL WM WH WZ W C Has RoOk

theorem crcRight_c (a : Option Addr) (n c : Nat) (xs : List B) (hn : n = xs.length) (hl : xs.length ≤ 100000) (ro : RO) (hs : SlR v8 (.slice a n c) xs ro) : C Try.prog 91 #[.slice a n c] ro [] fun v own => ∃ bv g, v = .tuple #[bv, .bool (Crc.right xs).isSome] ∧ own = [g] ∧ Sl v8 5 bv ((Crc.right xs).getD []) g := by
  subst hn
  have hle : xs.length ≤ c := by obtain ⟨a', c', h, hle⟩ := hs.slice; simp only [Value.slice.injEq] at h; omega
  by_cases h4 : xs.length < 4
  · have hr : Crc.right xs = none := if_pos h4
    rw [hr]
    refine c_of_w2 (n := 24) Try.func91 rfl rfl rfl (by rfl) fun E => ?_
    repeat' (first | ((with_reducible refine g_wl ?_); (first | refine kN ?_ | ((with_reducible refine g_mv ?_); (refine kp (pvm_move_s rfl) ?_)) | ((with_reducible refine g_as ?_); (first | refine kp (pvm_assign_s rfl) ?_ | refine kp (pvm_assign_b rfl) ?_ | refine kp (pvm_assign_i rfl) ?_)) | ((with_reducible refine g_bo ?_); (refine kp (pv_isub rfl rfl (by omega)) ?_)) | ((with_reducible refine g_cb .len ?_); refine kp (pv_len_slice Ft.h rfl) ?_))) | with_reducible refine w_seq ?_ | with_reducible refine thenP_n ?_ | with_reducible refine thenP_r ?_ | with_reducible refine w_ret ?_ | refine w_cond_true rfl ?_ | (refine w_draw (id := 2) [] (ro) Fa.mixed RoOk.self ?_; all_goals (refine wh_pure 0 rfl (by kernel_rfl) rfl rfl (pvm_move_i rfl) ?_); all_goals (refine wh_pure 1 rfl (by kernel_rfl) rfl rfl (pv_lss_t rfl rfl (by omega)) ?_); all_goals (refine wh_pure 2 rfl (by kernel_rfl) rfl rfl (pvm_move_b rfl) ?_); all_goals (refine wh_skip 3 rfl (by kernel_rfl) rfl rfl ?_); all_goals (refine wh_skip 4 rfl (by kernel_rfl) rfl rfl ?_); all_goals (refine wh_skip 5 rfl (by kernel_rfl) rfl rfl ?_); all_goals (refine wh_skip 8 rfl (by kernel_rfl) rfl rfl ?_); all_goals (refine wh_skip 9 rfl (by kernel_rfl) rfl rfl ?_); all_goals (refine wh_skip 6 rfl (by kernel_rfl) rfl rfl ?_); all_goals (refine wh_skip 7 rfl (by kernel_rfl) rfl rfl ?_); all_goals (refine wh_skip 10 rfl (by kernel_rfl) rfl rfl ?_); all_goals (refine wh_pure 11 rfl (by kernel_rfl) rfl rfl (pvk_t_b rfl rfl) ?_); all_goals (refine wh_done (by kernel_rfl) ?_)) | refine wr (id := 0) rfl ?_ | refine wr (id := 1) rfl ?_ | refine wr (id := 3) rfl ?_)
    all_goals first | (exfalso; omega) | exact ret_s (v := .tuple #[.slice none 0 0, .bool false]) [[]] rfl (Sub.pk' [] rfl) ⟨_, [], rfl, rfl, Sl.nil⟩
  · obtain ⟨m, hm⟩ : ∃ m, xs.length = m + 4 := ⟨xs.length - 4, by omega⟩
    have hmi : ((xs.length : Int) - 4).toNat = m := by omega
    have hst : SlR v8 (.slice a ((xs.length : Int) - 4).toNat c) (xs.take m) ro := by rw [hmi]; exact hs.take' (by omega)
    have htl : (xs.take m).length = ((xs.length : Int) - 4).toNat := by rw [List.length_take]; omega
    have hsu : SlR v8 (.slice a (xs.take m).length c) (xs.take m) ro := by rw [htl]; exact hst
    refine c_of_w2 (n := 24) Try.func91 rfl rfl rfl (by rfl) fun E => ?_
    refine w_sub (own' := [[]]) (Sub.flat rfl) ?_
    repeat' (first | ((with_reducible refine g_wl ?_); (first | refine kN ?_ | ((with_reducible refine g_mv ?_); (first | refine kp (pvm_move_s rfl) ?_ | refine kp (pvm_move_i rfl) ?_)) | ((with_reducible refine g_as ?_); (first | refine kp (pvm_assign_s rfl) ?_ | refine kp (pvm_assign_b rfl) ?_ | refine kp (pvm_assign_i rfl) ?_ | refine kp pv_assign ?_)) | ((with_reducible refine g_bo ?_); (refine kp (pv_isub rfl rfl (by omega)) ?_)) | ((with_reducible refine g_cb .append ?_); (refine kd (opw_append (f := v8) (xs := []) (ys := xs.take m) 1 FaCrcW2.sl_22 FaCrcW2.ei_5 (fun _ => rfl) 0 rfl rfl Sl.nil rfl (by rw [htl]; rfl) (SlR.rd hst _) (by show (_ + _) * 1 ≤ _; simp; omega) (by omega) (fun v g h => ?_)); rw [List.nil_append] at h)) | ((with_reducible refine g_cb .len ?_); refine kp (pv_len_slice Ft.h rfl) ?_) | refine kp (pv_slice_h FaCrcW2.sl_22 rfl rfl (by omega) (by omega)) ?_)) | with_reducible refine w_seq ?_ | with_reducible refine thenP_n ?_ | with_reducible refine thenP_r ?_ | with_reducible refine w_skip ?_ | with_reducible refine w_ret ?_ | (refine w_cond_dec rfl (fun _ => ?_) (fun _ => ?_) <;> try (exfalso; omega)) | (refine w_draw (id := 2) [] (ro) Fa.mixed RoOk.self ?_; all_goals (refine wh_pure 0 rfl (by kernel_rfl) rfl rfl (pvm_move_i rfl) ?_); all_goals (refine wh_pure 1 rfl (by kernel_rfl) rfl rfl (pv_lss_f rfl rfl (by omega)) ?_); all_goals (refine wh_pure 2 rfl (by kernel_rfl) rfl rfl (pvm_move_b rfl) ?_); all_goals (refine wh_pure 3 rfl (by kernel_rfl) rfl rfl (pvm_move_s rfl) ?_); all_goals (refine wh_pure 4 rfl (by kernel_rfl) rfl rfl (pvm_move_i rfl) ?_); all_goals (refine wh_pure 5 rfl (by kernel_rfl) rfl rfl (pv_slice_h FaCrcW2.sl_22 rfl rfl (by omega) (by omega)) ?_); all_goals (refine wh_pure 8 rfl (by kernel_rfl) rfl rfl (pvm_move_s rfl) ?_); all_goals (refine wh_str 9 rfl (by kernel_rfl) rfl rfl Try.underlying22 Try.underlying5 Try.underlying9 rfl rfl (hs.rd _) ?_); all_goals (refine wh_do 6 (by kernel_rfl) rfl rfl rfl rfl (opw_call FaCrcW2.ca_66 (by rw [htl]; rfl) [] (crcPut_c a c (xs.take m) (by omega) ro hsu) RoOk.self (fun v own h => ?_)); obtain ⟨g, rfl, hg⟩ := h; obtain ⟨a2, c2, rfl, hle2⟩ := hg.slice; refine ⟨RoOk.self, ?_⟩); all_goals (refine wh_do 7 (by kernel_rfl) rfl rfl rfl rfl (opw_str Try.underlying22 Try.underlying5 Try.underlying9 rfl rfl (Sl.rd hg (i := 0) rfl) ⟨RoOk.self, ?_⟩)); all_goals (refine wh_pure 10 rfl (by kernel_rfl) rfl rfl (pv_vstr_neq rfl rfl) ?_); all_goals (refine wh_pure 11 rfl (by kernel_rfl) rfl rfl (pvk_f_b rfl rfl) ?_); all_goals (refine wh_done (by kernel_rfl) ?_)) | refine wr rfl ?_)
    · have h : Crc.put (xs.take m) ≠ xs := ‹_›
      have hr : Crc.right xs = none := by unfold Crc.right; rw [if_neg h4, show xs.length - 4 = m by omega, if_neg h]
      rw [hr]
      exact ret_s (v := .tuple #[.slice none 0 0, .bool false]) [[]] rfl (Sub.pk' [] rfl) ⟨_, [], rfl, rfl, Sl.nil⟩
    · have h : ¬ Crc.put (xs.take m) ≠ xs := ‹_›
      have hr : Crc.right xs = some (xs.take m) := by unfold Crc.right; rw [if_neg h4, show xs.length - 4 = m by omega, if_pos (by simpa using h)]
      rw [hr]
      exact ret_s (v := .tuple #[_, .bool true]) [_] rfl (Sub.pk' [1] rfl) ⟨_, _, rfl, rfl, ‹_›⟩
theorem shift_amt (x : B) (i : Nat) : BitVec.ofNat 32 (x >>> (((BitVec.ofInt 64 ((i : Int) % 8)).toNat : Nat) : Int).toNat).toNat = (BitVec.ofNat 32 x.toNat) >>> (i % 8) := by
  have h : (BitVec.ofInt 64 ((i : Int) % 8)).toNat = i % 8 := by rw [BitVec.toNat_ofInt]; omega
  rw [h, Int.toNat_natCast]
  apply BitVec.eq_of_toNat_eq
  have hx := x.isLt
  rw [BitVec.toNat_ofNat, BitVec.toNat_ushiftRight, BitVec.toNat_ushiftRight, BitVec.toNat_ofNat, Nat.mod_eq_of_lt (a := x.toNat) (by omega), Nat.mod_eq_of_lt]
  exact Nat.lt_of_le_of_lt (Nat.shiftRight_le _ _) (by omega)
theorem refCrc_c (a : Option Addr) (n c : Nat) (xs : List B) (hn : n = xs.length) (hl : xs.length ≤ 100000) (ro : RO) (hs : SlR v8 (.slice a n c) xs ro) : C Try.prog 82 #[.slice a n c] ro [] fun v own => v = v32 (Crc.crc xs) ∧ own = [] := by
  subst hn
  refine c_of_w2 (n := 37) Try.func82 rfl rfl rfl (by rfl) fun E => ?_
  repeat' (first | ((with_reducible refine g_wl ?_); (first | refine kN ?_ | ((with_reducible refine g_mv ?_); (first | refine kp (pvm_move_s rfl) ?_ | refine kp (pvm_move_i rfl) ?_)) | ((with_reducible refine g_as ?_); (refine kp pv_assign ?_)) | ((with_reducible refine g_bo ?_); (refine kp (pv_imul rfl rfl (by omega)) ?_)) | ((with_reducible refine g_cb .len ?_); refine kp (pv_len_slice Ft.h rfl) ?_))) | with_reducible refine w_seq ?_ | with_reducible refine thenP_n ?_ | with_reducible refine w_block ?_ | refine wr (id := 0) rfl ?_ | refine wr (id := 1) rfl ?_ | refine wr (id := 2) rfl ?_)
  refine w_loop2 (ι := Nat) (fun i ρ ro' own => i ≤ 8 * xs.length ∧ Kn [(0, .slice a xs.length c), (3, v32 (Crc.rsum xs i)), (9, .int .i64 (8 * xs.length)), (10, .int .i64 i)] ρ ∧ ro' = ro ∧ own = []) (fun i => 8 * xs.length - i) 0 ⟨Nat.zero_le _, ⟨rfl, rfl, rfl, rfl, trivial⟩, rfl, rfl⟩ ?_
  rintro i ρ ro' own ⟨hi, hk, rfl, rfl⟩
  obtain ⟨ρ', rfl⟩ := hk.ex
  by_cases hlt : i < 8 * xs.length
  · obtain ⟨b, off, rfl, hhas⟩ := hs.addr (by omega)
    have hx : xs[i / 8]? = some (xs.getD (i / 8) 0) := getD_of (by omega)
    repeat' (first | ((with_reducible refine g_wl ?_); (first | refine kN ?_ | ((with_reducible refine g_mv ?_); (first | refine kp (pvm_move_s rfl) ?_ | refine kp (pvm_move_32 rfl) ?_ | refine kp (pvm_move_i rfl) ?_)) | ((with_reducible refine g_as ?_); (first | refine kp (pvm_assign_32 rfl) ?_ | refine kp (pvm_assign_i rfl) ?_)) | ((with_reducible refine g_bo ?_); (first | refine kp (pv_iquo rfl rfl (by omega)) ?_ | refine kp (pv_irem rfl rfl (by omega)) ?_ | refine kp (pv8_shr rfl rfl (by omega)) ?_ | refine kp (pv32_and rfl (v32_lit 1 rfl (by omega))) ?_ | refine kp (pv32_xor rfl rfl) ?_ | refine kp (pv32_shr rfl rfl (by omega)) ?_ | refine kp (pv32_eql rfl (v32_lit 1 rfl (by omega))) ?_ | refine kp (pv32_xor rfl (v32_lit 3988292384 rfl (by omega))) ?_ | refine kp (pv_iadd rfl rfl (by omega)) ?_ | refine kp (pv_lss rfl rfl) ?_)) | ((with_reducible refine g_cv ?_); (first | refine kp (pvc_i_64 Ft.h Ft.h rfl) ?_ | refine kp (pvc_8_32 Ft.h Ft.h rfl) ?_)) | ((with_reducible refine g_ld ?_); (refine kd (opw_load Fb.h rfl (hhas _ _ _ hx) ?_))) | refine kp (pv_indexAddr1 FaCrcW2.sl_22 rfl rfl (by omega) (by omega)) ?_)) | with_reducible refine w_seq ?_ | with_reducible refine thenP_n ?_ | with_reducible refine blockP_n ?_ | with_reducible refine w_skip ?_ | with_reducible refine w_block ?_ | (refine w_cond_dec rfl (fun _ => ?_) (fun _ => ?_) <;> try (exfalso; omega)) | refine wr (id := 3) rfl ?_ | refine wr (id := 4) rfl ?_ | refine wr (id := 5) rfl ?_ | refine wr (id := 6) rfl ?_ | refine wr (id := 7) rfl ?_ | refine wr (id := 8) rfl ?_ | refine wr (id := 9) rfl ?_ | refine wr (id := 10) rfl ?_)
    · have h := (show _ = 1#32 from ‹_›)
      rw [shift_amt] at h
      refine ⟨i + 1, _, Sub.refl, ⟨hlt, ⟨rfl, congrArg v32 ?_, rfl, rfl, trivial⟩, rfl, rfl⟩, by omega⟩
      rw [Crc.rsum_succ hlt]; unfold Crc.rbit; rw [if_pos h]; rfl
    · have h := (show ¬ _ = 1#32 from ‹_›)
      rw [shift_amt] at h
      refine ⟨i + 1, _, Sub.refl, ⟨hlt, ⟨rfl, congrArg v32 ?_, rfl, rfl, trivial⟩, rfl, rfl⟩, by omega⟩
      rw [Crc.rsum_succ hlt]; unfold Crc.rbit; rw [if_neg h]; rfl
  · repeat' (first | ((with_reducible refine g_wl ?_); (first | refine kN ?_ | ((with_reducible refine g_mv ?_); (refine kp (pvm_move_32 rfl) ?_)) | ((with_reducible refine g_as ?_); (refine kp (pvm_assign_32 rfl) ?_)) | ((with_reducible refine g_bo ?_); refine kp (pv_lss rfl rfl) ?_) | refine kp (pv32_not rfl) ?_)) | with_reducible refine w_seq ?_ | with_reducible refine thenP_n ?_ | with_reducible refine thenP_x ?_ | with_reducible refine blockP_eq ?_ | with_reducible refine w_ret ?_ | with_reducible refine w_exit ?_ | (refine w_cond_dec rfl (fun _ => ?_) (fun _ => ?_) <;> try (exfalso; omega)) | refine wr (id := 3) rfl ?_ | refine wr (id := 11) rfl ?_)
    rw [show i = 8 * xs.length by omega, Crc.rsum_all]
    exact ret_r (v := v32 _) rfl ⟨rfl, rfl⟩
end Go.Proofs.Ytnohdfhhdppflaa
