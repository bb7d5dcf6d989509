/- Sums that tell slips, walked: the program's and the reference's. -/
import Derived.Test.YtnohdfhhdppflaaPlain
import Derived.Test.YtnohdfhhdppflaaLibW
import Derived.Test.YtnohdfhhdppflaaRefW
import Derived.Test.YtnohdfhhdppflaaVcApp
namespace Go.Proofs.Ytnohdfhhdppflaa
open Go Go.Vc Go.Fl Go.Sha
set_option linter.unusedVariables false
set_option linter.unusedSimpArgs false
set_option maxRecDepth 100000
set_option maxHeartbeats 4000000
namespace FaCrcW
theorem ca_83 : callable Try.prog 83 = true := by kernel_rfl
theorem ca_94 : callable Try.prog 94 = true := by kernel_rfl
theorem ei_5 : elemInfo Try.prog 5 = some (1, 1, (.int .u8 0)) := by kernel_rfl
theorem one_5 : isOne Try.prog 5 = true := by kernel_rfl
theorem sl_22 : sliceOf Try.prog 22 = some (5, 1) := by kernel_rfl
theorem sz_5 : sz Try.prog 5 = some 1 := by kernel_rfl
theorem zero_5 : zeroOf Try.prog 5 = some (.int .u8 0) := by kernel_rfl
instance : Fb (callable Try.prog 83) := ⟨ca_83⟩
instance : Fb (callable Try.prog 94) := ⟨ca_94⟩
instance : Ft (elemInfo Try.prog 5) (1, 1, (.int .u8 0)) := ⟨ei_5⟩
instance : Fb (isOne Try.prog 5) := ⟨one_5⟩
instance : Ft (sliceOf Try.prog 22) (5, 1) := ⟨sl_22⟩
instance : Ft (sz Try.prog 5) (1) := ⟨sz_5⟩
instance : Ft (zeroOf Try.prog 5) (.int .u8 0) := ⟨zero_5⟩
instance : Ft (Try.prog.underlying 5) (.int .u8) := ⟨Try.underlying5⟩
instance : Ft (Try.prog.underlying 22) (.slice 5) := ⟨Try.underlying22⟩
instance : Ft (Try.prog.underlying 35) (.int .u32) := ⟨Try.underlying35⟩
end FaCrcW
attribute [local irreducible] PV OpW WL WM WH WZ W C Has RoOk

theorem crcAdd_c (a : Option Addr) (c : Nat) (xs : List B) (hl : xs.length ≤ 1000000) (ro : RO) (hs : SlR v8 (.slice a xs.length c) xs ro) : C Try.prog 94 #[v32 0#32, .slice a xs.length c] ro [] fun v own => v = v32 (Crc.crc xs) ∧ own = [] := by
  refine c_of_w2 (n := 34) Try.func94 rfl rfl rfl (by rfl) fun E => ?_
  repeat' (first | ((with_reducible refine g_wl ?_); (first | refine kN ?_ | ((with_reducible refine g_mv ?_); (first | refine kp (pvm_move_32 rfl) ?_ | refine kp (pvm_move_s rfl) ?_ | refine kp (pvm_move_i rfl) ?_)) | ((with_reducible refine g_as ?_); (first | refine kp (pvm_assign_32 rfl) ?_ | refine kp pv_assign ?_)) | ((with_reducible refine g_cb .len ?_); refine kp (pv_len_slice Ft.h rfl) ?_) | refine kp (pv32_not rfl) ?_)) | with_reducible refine w_seq ?_ | with_reducible refine thenP_n ?_ | with_reducible refine w_block ?_ | refine wr (id := 0) rfl ?_ | refine wr (id := 1) rfl ?_ | refine wr (id := 2) rfl ?_)
  refine w_loop2 (ι := Nat) (fun i ρ ro' own => i ≤ xs.length ∧ Kn [(5, v32 ((xs.take i).foldl Crc.byte (~~~ 0#32))), (11, .slice a xs.length c), (12, .int .i64 xs.length), (13, .int .i64 i)] ρ ∧ ro' = ro ∧ own = []) (fun i => xs.length - i) 0 ⟨Nat.zero_le _, ⟨rfl, rfl, rfl, rfl, trivial⟩, rfl, rfl⟩ ?_
  rintro i ρ ro' own ⟨hi, hk, rfl, rfl⟩
  obtain ⟨ρ', rfl⟩ := hk.ex
  by_cases hlt : i < xs.length
  · obtain ⟨b, off, rfl, hhas⟩ := hs.addr (by omega)
    have hx : xs[i]? = some (xs[i]'hlt) := List.getElem?_eq_getElem hlt
    obtain ⟨y, hy⟩ : ∃ y, y = (xs.take i).foldl Crc.byte (~~~ 0#32) := ⟨_, rfl⟩
    rw [← hy]
    repeat' (first | ((with_reducible refine g_wl ?_); (first | refine kN ?_ | ((with_reducible refine g_mv ?_); (first | refine kp (pvm_move_32 rfl) ?_ | refine kp (pvm_move_8 rfl) ?_ | refine kp (pvm_move_i rfl) ?_)) | ((with_reducible refine g_as ?_); (first | refine kp (pvm_assign_8 rfl) ?_ | refine kp (pvm_assign_32 rfl) ?_)) | ((with_reducible refine g_bo ?_); (first | refine kp (pv32_xor rfl rfl) ?_ | refine kp (pv_lss rfl rfl) ?_)) | ((with_reducible refine g_cv ?_); refine kp (pvc_8_32 Ft.h Ft.h rfl) ?_) | ((with_reducible refine g_ld ?_); (refine kd (opw_load Fb.h rfl (hhas _ _ _ hx) ?_))) | refine kp (pv_indexAddr1 FaCrcW.sl_22 rfl rfl (by omega) (by omega)) ?_)) | with_reducible refine w_seq ?_ | with_reducible refine thenP_n ?_ | with_reducible refine w_skip ?_ | with_reducible refine w_block ?_ | (refine w_cond_dec rfl (fun _ => ?_) (fun _ => ?_) <;> try (exfalso; omega)) | refine wr (id := 3) rfl ?_ | refine wr (id := 4) rfl ?_ | refine wr (id := 5) rfl ?_ | refine wr (id := 6) rfl ?_)
    refine w_loop2 (ι := Nat) (fun j ρ ro'' own => j ≤ 8 ∧ Kn [(5, v32 (Crc.bits j (y ^^^ BitVec.ofNat 32 (xs[i]'hlt).toNat))), (11, .slice (some ⟨b, off, none⟩) xs.length c), (12, .int .i64 xs.length), (13, .int .i64 i), (21, .int .i64 j)] ρ ∧ ro'' = ro' ∧ own = []) (fun j => 8 - j) 0 ⟨Nat.zero_le _, ⟨rfl, rfl, rfl, rfl, rfl, trivial⟩, rfl, rfl⟩ ?_
    rintro j ρ ro'' own ⟨hj, hk, rfl, rfl⟩
    obtain ⟨ρ', rfl⟩ := hk.ex
    by_cases hlt8 : j < 8
    · repeat' (first | ((with_reducible refine g_wl ?_); (first | refine kN ?_ | ((with_reducible refine g_mv ?_); (first | refine kp (pvm_move_32 rfl) ?_ | refine kp (pvm_move_i rfl) ?_)) | ((with_reducible refine g_as ?_); (refine kp (pvm_assign_32 rfl) ?_)) | ((with_reducible refine g_bo ?_); (first | refine kp (pv32_and rfl (v32_lit 1 rfl (by omega))) ?_ | refine kp (pv32_shr rfl rfl (by omega)) ?_ | refine kp (pv32_mul (v32_lit 3988292384 rfl (by omega)) rfl) ?_ | refine kp (pv32_xor rfl rfl) ?_ | refine kp (pv_iadd rfl rfl (by omega)) ?_ | refine kp (pv_lss rfl rfl) ?_)))) | with_reducible refine w_seq ?_ | with_reducible refine thenP_n ?_ | with_reducible refine blockP_n ?_ | with_reducible refine w_skip ?_ | with_reducible refine w_block ?_ | (refine w_cond_dec rfl (fun _ => ?_) (fun _ => ?_) <;> try (exfalso; omega)) | refine wr (id := 7) rfl ?_ | refine wr (id := 8) rfl ?_ | refine wr (id := 9) rfl ?_ | refine wr (id := 10) rfl ?_)
      exact ⟨j + 1, _, Sub.refl, ⟨hlt8, ⟨rfl, rfl, rfl, rfl, rfl, trivial⟩, rfl, rfl⟩, by omega⟩
    · obtain rfl : j = 8 := by omega
      repeat' (first | ((with_reducible refine g_wl ?_); (first | refine kN ?_ | ((with_reducible refine g_mv ?_); (refine kp (pvm_move_i rfl) ?_)) | ((with_reducible refine g_bo ?_); (first | refine kp (pv_iadd rfl rfl (by omega)) ?_ | refine kp (pv_lss rfl rfl) ?_)))) | with_reducible refine w_seq ?_ | with_reducible refine thenP_n ?_ | with_reducible refine thenP_x ?_ | with_reducible refine blockP_n ?_ | with_reducible refine blockP_eq ?_ | with_reducible refine w_exit ?_ | refine w_cond_false rfl ?_ | refine wr (id := 7) rfl ?_ | refine wr (id := 11) rfl ?_)
      refine ⟨i + 1, _, Sub.refl, ⟨hlt, ⟨congrArg v32 ?_, rfl, rfl, rfl, trivial⟩, rfl, rfl⟩, by omega⟩
      rw [List.take_succ_eq_append_getElem hlt, List.foldl_append, ← hy]; rfl
  · repeat' (first | ((with_reducible refine g_wl ?_); (first | refine kN ?_ | ((with_reducible refine g_mv ?_); (refine kp (pvm_move_32 rfl) ?_)) | ((with_reducible refine g_as ?_); (refine kp (pvm_assign_32 rfl) ?_)) | ((with_reducible refine g_bo ?_); refine kp (pv_lss rfl rfl) ?_) | refine kp (pv32_not rfl) ?_)) | with_reducible refine w_seq ?_ | with_reducible refine thenP_n ?_ | with_reducible refine thenP_x ?_ | with_reducible refine blockP_eq ?_ | with_reducible refine w_ret ?_ | with_reducible refine w_exit ?_ | (refine w_cond_dec rfl (fun _ => ?_) (fun _ => ?_) <;> try (exfalso; omega)) | refine wr (id := 3) rfl ?_ | refine wr (id := 12) rfl ?_)
    rw [List.take_of_length_le (by omega)]
    exact ret_r (v := v32 _) rfl ⟨rfl, rfl⟩
theorem crcSum_c (a : Option Addr) (c : Nat) (xs : List B) (hl : xs.length ≤ 1000000) (ro : RO) (hs : SlR v8 (.slice a xs.length c) xs ro) : C Try.prog 83 #[.slice a xs.length c] ro [] fun v own => v = v32 (Crc.crc xs) ∧ own = [] := by
  refine c_of_w2 (n := 5) Try.func83 rfl rfl rfl (by rfl) fun E => ?_
  repeat' (first | ((with_reducible refine g_wl ?_); (first | refine kN ?_ | ((with_reducible refine g_mv ?_); (refine kp (pvm_move_s rfl) ?_)) | ((with_reducible refine g_as ?_); (first | refine kp (pvm_assign_32 rfl) ?_ | refine kp pv_assign ?_)) | ((with_reducible refine g_cf 94 ?_); (refine kd (opw_call Fb.h rfl [] (crcAdd_c a c xs hl _ hs) RoOk.self (fun v own h => ?_)); obtain ⟨rfl, rfl⟩ := h)))) | with_reducible refine w_seq ?_ | with_reducible refine thenP_n ?_ | with_reducible refine w_ret ?_ | refine wr rfl ?_)
  exact ret_r (v := v32 _) rfl ⟨rfl, rfl⟩
theorem be4_take (x : D) (k : Nat) (h : k < 4) : (be4 x).take (k + 1) = (be4 x).take k ++ [BitVec.ofNat 8 (x >>> (24 - 8 * (k : Int)).toNat).toNat] := by
  have : k = 0 ∨ k = 1 ∨ k = 2 ∨ k = 3 := by omega
  rcases this with rfl | rfl | rfl | rfl
  · rfl
  · rfl
  · rfl
  · show be4 x = [BitVec.ofNat 8 (x >>> 24).toNat, BitVec.ofNat 8 (x >>> 16).toNat, BitVec.ofNat 8 (x >>> 8).toNat] ++ [BitVec.ofNat 8 (x >>> 0).toNat]
    rw [BitVec.ushiftRight_zero]; rfl
theorem crcPut_c (a : Option Addr) (c : Nat) (xs : List B) (hl : xs.length ≤ 100000) (ro : RO) (hs : SlR v8 (.slice a xs.length c) xs ro) : C Try.prog 66 #[.slice a xs.length c] ro [] fun v own => ∃ g, own = [g] ∧ Sl v8 5 v (Crc.put xs) g := by
  refine c_of_w2 (n := 22) Try.func66 rfl rfl rfl (by rfl) fun E => ?_
  refine w_sub (own' := [[]]) (Sub.flat rfl) ?_
  repeat' (first | ((with_reducible refine g_wl ?_); (first | refine kN ?_ | ((with_reducible refine g_mv ?_); (refine kp (pvm_move_s rfl) ?_)) | ((with_reducible refine g_as ?_); (first | refine kp (pvm_assign_s rfl) ?_ | refine kp (pvm_assign_32 rfl) ?_ | refine kp (pvm_assign_i rfl) ?_ | refine kp pv_assign ?_)) | ((with_reducible refine g_cb .append ?_); (refine kd (opw_append (f := v8) (xs := []) (ys := xs) 0 FaCrcW.sl_22 FaCrcW.ei_5 (fun _ => rfl) 0 rfl rfl Sl.nil rfl rfl (SlR.rd hs _) (by show (_ + _) * 1 ≤ _; simp; omega) (by omega) (fun v g h => ?_)); rw [List.nil_append] at h)) | ((with_reducible refine g_cf 83 ?_); (refine kd (opw_call Fb.h rfl [] (crcSum_c a c xs (by omega) _ hs) RoOk.self (fun v own h => ?_)); obtain ⟨rfl, rfl⟩ := h)))) | with_reducible refine w_seq ?_ | with_reducible refine thenP_n ?_ | with_reducible refine w_block ?_ | refine wr (id := 0) rfl ?_ | refine wr (id := 1) rfl ?_ | refine wr (id := 2) rfl ?_ | refine wr (id := 3) rfl ?_)
  refine w_loop2 (ι := Nat × Value × Blks) (fun x ρ ro' own => x.1 ≤ 4 ∧ Kn [(3, x.2.1), (4, v32 (Crc.crc xs)), (5, .int .i64 (24 - 8 * (x.1 : Int)))] ρ ∧ ro' = ro ∧ own = [x.2.2] ∧ Sl v8 5 x.2.1 (xs ++ (be4 (Crc.crc xs)).take x.1) x.2.2) (fun x => 4 - x.1) (0, _, _) ⟨Nat.zero_le _, ⟨rfl, rfl, rfl, trivial⟩, rfl, rfl, by rw [List.take_zero, List.append_nil]; assumption⟩ ?_
  rintro ⟨k, v, g⟩ ρ ro' own ⟨hk4, hk, rfl, rfl, hS⟩
  obtain ⟨ρ', rfl⟩ := hk.ex
  dsimp only at *
  by_cases hlt : k < 4
  · repeat' (first | ((with_reducible refine g_wl ?_); (first | refine kN ?_ | ((with_reducible refine g_mv ?_); (first | refine kp (pvm_move_32 rfl) ?_ | refine kp (pvm_move_i rfl) ?_ | refine kp pv_move ?_)) | ((with_reducible refine g_as ?_); (first | refine kp (pvm_assign_i rfl) ?_ | refine kp pv_assign ?_)) | ((with_reducible refine g_bo ?_); (first | refine kp (pv32_shr rfl rfl (by omega)) ?_ | refine kp (pv_isub rfl rfl (by omega)) ?_ | refine kp (pv_geq rfl rfl) ?_)) | ((with_reducible refine g_cv ?_); refine kp (pvc_32_8 Ft.h Ft.h rfl) ?_) | ((with_reducible refine g_cb .append ?_); (refine kd (opw_append (f := v8) (xs := xs ++ (be4 (Crc.crc xs)).take k) (ys := [BitVec.ofNat 8 (Crc.crc xs >>> (24 - 8 * (k : Int)).toNat).toNat]) 0 FaCrcW.sl_22 FaCrcW.ei_5 (fun _ => rfl) 0 rfl rfl hS rfl rfl (Rd.arr 1 0 rfl (fun k hk => by rw [Nat.zero_add])) (by show (_ + _) * 1 ≤ _; rw [List.length_append, List.length_take, Crc.be4_length, List.length_singleton]; omega) (by omega) (fun v g h => ?_)))) | refine kd (opw_buildRow (f := v8) [_] Try.underlying22 FaCrcW.sz_5 FaCrcW.zero_5 rfl rfl (by omega) rfl (fun _ => rfl) fun nb => ?_))) | with_reducible refine w_seq ?_ | with_reducible refine thenP_n ?_ | with_reducible refine blockP_n ?_ | with_reducible refine w_skip ?_ | with_reducible refine w_block ?_ | (refine w_cond_dec rfl (fun _ => ?_) (fun _ => ?_) <;> try (exfalso; omega)) | refine wr (id := 4) rfl ?_ | refine wr (id := 5) rfl ?_ | refine wr (id := 6) rfl ?_)
    refine ⟨(k + 1, _, _), [_], Sub.pk' [0] rfl, ⟨by dsimp only; omega, ⟨rfl, rfl, congrArg (Value.int .i64) (by dsimp only; omega), trivial⟩, rfl, rfl, ?_⟩, by dsimp only; omega⟩
    dsimp only
    rw [be4_take _ _ hlt, ← List.append_assoc]; assumption
  · obtain rfl : k = 4 := by omega
    repeat' (first | ((with_reducible refine g_wl ?_); (first | refine kN ?_ | ((with_reducible refine g_mv ?_); (first | refine kp (pvm_move_i rfl) ?_ | refine kp pv_move ?_)) | ((with_reducible refine g_as ?_); (refine kp pv_assign ?_)) | ((with_reducible refine g_bo ?_); refine kp (pv_geq rfl rfl) ?_))) | with_reducible refine w_seq ?_ | with_reducible refine thenP_n ?_ | with_reducible refine thenP_x ?_ | with_reducible refine blockP_eq ?_ | with_reducible refine w_ret ?_ | with_reducible refine w_exit ?_ | refine w_cond_false rfl ?_ | refine wr (id := 4) rfl ?_ | refine wr (id := 7) rfl ?_)
    exact ret_r rfl ⟨g, rfl, hS⟩
end Go.Proofs.Ytnohdfhhdppflaa
