/- Functions of package slices at []byte, walked. -/
import Derived.Test.YtnohdfhhdppflaaVcFacts
namespace Go.Proofs.Ytnohdfhhdppflaa
open Go Go.Vc
set_option linter.unusedVariables false
set_option linter.unusedSimpArgs false
set_option maxRecDepth 100000
set_option maxHeartbeats 4000000
namespace FaLibW
theorem ca_71 : callable Try.prog 71 = true := by kernel_rfl
theorem ca_86 : callable Try.prog 86 = true := by kernel_rfl
theorem ca_93 : callable Try.prog 93 = true := by kernel_rfl
theorem ei_5 : elemInfo Try.prog 5 = some (1, 1, (.int .u8 0)) := by kernel_rfl
theorem one_5 : isOne Try.prog 5 = true := by kernel_rfl
theorem sl_22 : sliceOf Try.prog 22 = some (5, 1) := by kernel_rfl
theorem sz_5 : sz Try.prog 5 = some 1 := by kernel_rfl
instance : Fb (callable Try.prog 71) := ⟨ca_71⟩
instance : Fb (callable Try.prog 86) := ⟨ca_86⟩
instance : Fb (callable Try.prog 93) := ⟨ca_93⟩
instance : Ft (elemInfo Try.prog 5) (1, 1, (.int .u8 0)) := ⟨ei_5⟩
instance : Fb (isOne Try.prog 5) := ⟨one_5⟩
instance : Ft (sliceOf Try.prog 22) (5, 1) := ⟨sl_22⟩
instance : Ft (sz Try.prog 5) (1) := ⟨sz_5⟩
instance : Ft (Try.prog.underlying 3) (.int .i64) := ⟨Try.underlying3⟩
instance : Ft (Try.prog.underlying 22) (.slice 5) := ⟨Try.underlying22⟩
instance : Ft (Try.prog.underlying 35) (.int .u32) := ⟨Try.underlying35⟩
instance : Ft (Try.prog.underlying 91) (.int .u64) := ⟨Try.underlying91⟩
end FaLibW
attribute [local irreducible] PV OpW WL WM WH WZ W C Has RoOk

theorem SlR_none {α : Type} {f : α → Value} {n c : Nat} {xs : List α} {ro : RO} (h : SlR f (.slice none n c) xs ro) : xs = [] := by
  rcases h with ⟨h, _⟩ | ⟨b, off, c, p, h, _⟩
  · exact h
  · simp at h

theorem clone8_c (a : Option Addr) (c : Nat) (xs : List (BitVec 8)) (hl : xs.length ≤ 1000000) (ro : RO) (hs : SlR v8 (.slice a xs.length c) xs ro) :
    C Try.prog 45 #[.slice a xs.length c] ro [] fun v own => ∃ g, own = [g] ∧ Sl v8 5 v xs g := by
  cases a with
  | none =>
    obtain rfl := SlR_none hs
    refine c_of_w2 (n := 8) Try.func45 rfl rfl rfl (by rfl) fun E => ?_
    repeat' (first | ((with_reducible refine g_wl ?_); (first | refine kN ?_ | ((with_reducible refine g_mv ?_); (refine kp (pvm_move_s rfl) ?_)) | ((with_reducible refine g_as ?_); (refine kp (pvm_assign_s rfl) ?_)) | ((with_reducible refine g_bo ?_); refine kp (pv_slice_nil Try.underlying22 rfl rfl) ?_))) | with_reducible refine w_seq ?_ | with_reducible refine thenP_n ?_ | with_reducible refine thenP_r ?_ | with_reducible refine w_ret ?_ | refine w_cond_true rfl ?_ | refine wr rfl ?_)
    exact ret_s [[]] rfl (Sub.flat rfl) ⟨[], rfl, Sl.nil⟩
  | some ad =>
    refine c_of_w2 (n := 8) Try.func45 rfl rfl rfl (by rfl) fun E => ?_
    repeat' (first | ((with_reducible refine g_wl ?_); (first | refine kN ?_ | ((with_reducible refine g_mv ?_); (refine kp (pvm_move_s rfl) ?_)) | ((with_reducible refine g_as ?_); (first | refine kp (pvm_assign_s rfl) ?_ | refine kp pv_assign ?_)) | ((with_reducible refine g_bo ?_); refine kp (pv_slice_nil Try.underlying22 rfl rfl) ?_) | ((with_reducible refine g_cb .append ?_); (refine kd (opw_append (f := v8) (xs := []) (ys := xs) 0 FaLibW.sl_22 FaLibW.ei_5 (fun _ => rfl) 0 rfl rfl (.inr ⟨_, [], rfl, rfl, rfl⟩) rfl rfl (hs.rd _) (by simp; omega) (by omega) (fun v g h => ?_)); rw [List.nil_append] at h)) | refine kd (opw_buildSlice0 Try.underlying22 FaLibW.sz_5 fun nb => ?_))) | with_reducible refine w_seq ?_ | with_reducible refine thenP_n ?_ | with_reducible refine w_skip ?_ | with_reducible refine w_ret ?_ | refine w_cond_false rfl ?_ | refine wr rfl ?_)
    exact ret_s [_] rfl Sub.refl ⟨_, rfl, ‹_›⟩

def anyB (p : BitVec 8 → Bool) (xs : List (BitVec 8)) : Bool := xs.any p
/-- IndexFunc with a function of one byte that only computes. -/
theorem indexFunc8_c (fn : Nat) (p : BitVec 8 → Bool) (hp : ∀ x ro, C Try.prog fn #[v8 x] ro [] fun v own => v = .bool (p x) ∧ own = []) (hca : callable Try.prog fn = true) (a : Option Addr) (c : Nat) (xs : List (BitVec 8)) (hl : xs.length ≤ 1000000) (ro : RO) (hs : SlR v8 (.slice a xs.length c) xs ro) :
    C Try.prog 93 #[.slice a xs.length c, .func (.func fn) #[] #[]] ro [] fun v own => (∃ k : Int, v = .int .i64 k ∧ (0 ≤ k ↔ xs.any p = true)) ∧ own = [] := by
  refine c_of_w2 (n := 19) Try.func93 rfl rfl rfl (by rfl) fun E => ?_
  repeat' (first | ((with_reducible refine g_wl ?_); (first | refine kN ?_ | ((with_reducible refine g_mv ?_); (first | refine kp (pvm_move_s rfl) ?_ | refine kp (pvm_move_i rfl) ?_)) | ((with_reducible refine g_as ?_); (refine kp (pvm_assign_i rfl) ?_)) | ((with_reducible refine g_cb .len ?_); refine kp (pv_len_slice Ft.h rfl) ?_))) | with_reducible refine w_seq ?_ | with_reducible refine thenP_n ?_ | with_reducible refine w_block ?_ | refine wr rfl ?_)
  refine w_loop2 (ι := Nat) (fun i ρ ro' own => i ≤ xs.length ∧ Kn [(0, .slice a xs.length c), (1, .func (.func fn) #[] #[]), (7, .int .i64 xs.length), (8, .int .i64 i)] ρ ∧ ro' = ro ∧ own = [] ∧ (xs.take i).any p = false) (fun i => xs.length - i) 0 ⟨Nat.zero_le _, ⟨rfl, rfl, rfl, rfl, trivial⟩, rfl, rfl, rfl⟩ ?_
  rintro i ρ ro' own ⟨hi, hk, rfl, rfl, hany⟩
  obtain ⟨ρ', rfl⟩ := hk.ex
  by_cases hlt : i < xs.length
  · obtain ⟨b, off, rfl, hhas⟩ := hs.addr (by omega)
    have hx : xs[i]? = some (xs[i]'hlt) := List.getElem?_eq_getElem hlt
    have htk : xs.take (i + 1) = xs.take i ++ [xs[i]'hlt] := by rw [List.take_succ_eq_append_getElem hlt]
    repeat' (first | ((with_reducible refine g_wl ?_); (first | refine kN ?_ | ((with_reducible refine g_mv ?_); (first | refine kp (pvm_move_s rfl) ?_ | refine kp (pvm_move_f rfl) ?_ | refine kp (pvm_move_i rfl) ?_)) | ((with_reducible refine g_as ?_); (refine kp (pvm_assign_i rfl) ?_)) | ((with_reducible refine g_bo ?_); (first | refine kp (pv_iadd rfl rfl (by omega)) ?_ | refine kp (pv_lss rfl rfl) ?_)) | ((with_reducible refine g_ld ?_); (refine kd (opw_load Fb.h rfl (hhas _ _ _ hx) ?_))) | ((with_reducible refine g_cx ?_); (refine kd (opw_callv rfl hca rfl [] (hp _ _) RoOk.self (fun v own h => ?_)); obtain ⟨rfl, rfl⟩ := h)) | refine kp (pv_indexAddr1 FaLibW.sl_22 rfl rfl (by omega) (by omega)) ?_)) | with_reducible refine w_seq ?_ | with_reducible refine thenP_n ?_ | with_reducible refine thenP_r ?_ | with_reducible refine blockP_n ?_ | with_reducible refine blockP_r ?_ | with_reducible refine w_skip ?_ | with_reducible refine w_ret ?_ | with_reducible refine w_block ?_ | (refine w_cond_dec rfl (fun _ => ?_) (fun _ => ?_) <;> try (exfalso; omega)) | refine w_cond rfl (fun _ => ?_) (fun _ => ?_) | refine wr rfl ?_)
    · refine ret_r (v := .int .i64 _) rfl ⟨⟨i, rfl, ?_⟩, rfl⟩
      refine ⟨fun _ => List.any_eq_true.2 ⟨xs[i]'hlt, List.getElem_mem hlt, ‹_›⟩, fun _ => by omega⟩
    · refine ⟨i + 1, [], Sub.refl, ⟨by omega, ⟨rfl, rfl, rfl, rfl, trivial⟩, rfl, rfl, ?_⟩, by omega⟩
      rw [htk, List.any_append, hany]; simp; assumption
  · repeat' (first | ((with_reducible refine g_wl ?_); (first | refine kN ?_ | ((with_reducible refine g_as ?_); (refine kp (pvm_assign_i rfl) ?_)) | ((with_reducible refine g_bo ?_); (refine kp (pv_lss rfl rfl) ?_)))) | with_reducible refine w_seq ?_ | with_reducible refine thenP_n ?_ | with_reducible refine thenP_x ?_ | with_reducible refine blockP_eq ?_ | with_reducible refine w_ret ?_ | with_reducible refine w_exit ?_ | (refine w_cond_dec rfl (fun _ => ?_) (fun _ => ?_) <;> try (exfalso; omega)) | refine wr rfl ?_)
    refine ret_r (v := .int .i64 _) rfl ⟨⟨-1, rfl, ?_⟩, rfl⟩
    rw [List.take_of_length_le (by omega)] at hany
    rw [hany]; simp
theorem containsFunc8_c (fn : Nat) (p : BitVec 8 → Bool) (hp : ∀ x ro, C Try.prog fn #[v8 x] ro [] fun v own => v = .bool (p x) ∧ own = []) (hca : callable Try.prog fn = true) (a : Option Addr) (c : Nat) (xs : List (BitVec 8)) (hl : xs.length ≤ 1000000) (ro : RO) (hs : SlR v8 (.slice a xs.length c) xs ro) :
    C Try.prog 80 #[.slice a xs.length c, .func (.func fn) #[] #[]] ro [] fun v own => v = .bool (xs.any p) ∧ own = [] := by
  refine c_of_w2 (n := 9) Try.func80 rfl rfl rfl (by rfl) fun E => ?_
  repeat' (first | ((with_reducible refine g_wl ?_); (first | refine kN ?_ | ((with_reducible refine g_mv ?_); (first | refine kp (pvm_move_s rfl) ?_ | refine kp (pvm_move_f rfl) ?_)) | ((with_reducible refine g_as ?_); (refine kp (pvm_assign_b rfl) ?_)) | ((with_reducible refine g_bo ?_); refine kp (pv_geq rfl rfl) ?_) | ((with_reducible refine g_cf 93 ?_); (refine kd (opw_call Fb.h rfl [] (indexFunc8_c fn p hp hca a c xs hl ro hs) RoOk.self (fun v own h => ?_)); obtain ⟨⟨k, rfl, hk⟩, rfl⟩ := h)))) | with_reducible refine w_seq ?_ | with_reducible refine thenP_n ?_ | with_reducible refine w_ret ?_ | refine wr rfl ?_)
  refine ret_r (v := .bool _) rfl ⟨?_, rfl⟩
  congr 1
  rw [Bool.eq_iff_iff, decide_eq_true_iff]
  exact hk
theorem equal8_c (a a' : Option Addr) (c c' : Nat) (xs ys : List (BitVec 8)) (hl : xs.length ≤ 1000000) (hl' : ys.length ≤ 1000000) (ro : RO) (hs : SlR v8 (.slice a xs.length c) xs ro) (hs' : SlR v8 (.slice a' ys.length c') ys ro) :
    C Try.prog 41 #[.slice a xs.length c, .slice a' ys.length c'] ro [] fun v own => v = .bool (decide (xs = ys)) ∧ own = [] := by
  by_cases hle : xs.length = ys.length
  · refine c_of_w2 (n := 26) Try.func41 rfl rfl rfl (by rfl) fun E => ?_
    repeat' (first | ((with_reducible refine g_wl ?_); (first | refine kN ?_ | ((with_reducible refine g_mv ?_); (first | refine kp (pvm_move_s rfl) ?_ | refine kp (pvm_move_i rfl) ?_)) | ((with_reducible refine g_as ?_); (refine kp (pvm_assign_b rfl) ?_)) | ((with_reducible refine g_bo ?_); (refine kp (pv_neq rfl rfl) ?_)) | ((with_reducible refine g_cb .len ?_); refine kp (pv_len_slice Ft.h rfl) ?_))) | with_reducible refine w_seq ?_ | with_reducible refine thenP_n ?_ | with_reducible refine w_skip ?_ | with_reducible refine w_block ?_ | (refine w_cond_dec rfl (fun _ => ?_) (fun _ => ?_) <;> try (exfalso; omega)) | refine wr rfl ?_)
    refine w_loop2 (ι := Nat) (fun i ρ ro' own => i ≤ xs.length ∧ Kn [(0, .slice a xs.length c), (1, .slice a' ys.length c'), (12, .int .i64 xs.length), (13, .int .i64 i)] ρ ∧ ro' = ro ∧ own = [] ∧ xs.take i = ys.take i) (fun i => xs.length - i) 0 ⟨Nat.zero_le _, ⟨rfl, rfl, rfl, rfl, trivial⟩, rfl, rfl, rfl⟩ ?_
    rintro i ρ ro' own ⟨hi, hk, rfl, rfl, heq⟩
    obtain ⟨ρ', rfl⟩ := hk.ex
    by_cases hlt : i < xs.length
    · obtain ⟨b, off, rfl, hhas⟩ := hs.addr (by omega)
      obtain ⟨b', off', rfl, hhas'⟩ := hs'.addr (by omega)
      have hx : xs[i]? = some (xs[i]'hlt) := List.getElem?_eq_getElem hlt
      have hx' : ys[i]? = some (ys[i]'(by omega)) := List.getElem?_eq_getElem _
      repeat' (first | ((with_reducible refine g_wl ?_); (first | refine kN ?_ | ((with_reducible refine g_mv ?_); (refine kp (pvm_move_i rfl) ?_)) | ((with_reducible refine g_as ?_); (first | refine kp (pvm_assign_b rfl) ?_ | refine kp (pvm_assign_i rfl) ?_)) | ((with_reducible refine g_bo ?_); (first | refine kp (pv_iadd rfl rfl (by omega)) ?_ | refine kp (pv_lss rfl rfl) ?_)))) | with_reducible refine w_seq ?_ | with_reducible refine thenP_n ?_ | with_reducible refine thenP_r ?_ | with_reducible refine blockP_n ?_ | with_reducible refine blockP_r ?_ | with_reducible refine w_skip ?_ | with_reducible refine w_ret ?_ | with_reducible refine w_block ?_ | (refine w_cond_dec rfl (fun _ => ?_) (fun _ => ?_) <;> try (exfalso; omega)) | (refine w_draw (id := 6) [] (ro') Fa.mixed RoOk.self ?_; (refine wh_pure 0 rfl (by kernel_rfl) rfl rfl (pvm_move_s rfl) ?_); (refine wh_pure 1 rfl (by kernel_rfl) rfl rfl (pvm_move_i rfl) ?_); refine wh_pure 2 rfl (by kernel_rfl) rfl rfl (pv_indexAddr1 FaLibW.sl_22 rfl rfl (by omega) (by omega)) ?_; (refine wh_load 3 rfl (by kernel_rfl) rfl rfl FaLibW.one_5 rfl (hhas _ _ _ hx) ?_); (refine wh_pure 4 rfl (by kernel_rfl) rfl rfl (pvm_move_s rfl) ?_); (refine wh_pure 5 rfl (by kernel_rfl) rfl rfl (pvm_move_i rfl) ?_); refine wh_pure 6 rfl (by kernel_rfl) rfl rfl (pv_indexAddr1 FaLibW.sl_22 rfl rfl (by omega) (by omega)) ?_; (refine wh_load 7 rfl (by kernel_rfl) rfl rfl FaLibW.one_5 rfl (hhas' _ _ _ hx') ?_); refine wh_pure 8 rfl (by kernel_rfl) rfl rfl (pv8_neq rfl rfl) ?_; (refine wh_done (by kernel_rfl) ?_)) | refine wr rfl ?_)
      · refine ret_r (v := .bool _) rfl ⟨?_, rfl⟩
        have hne : xs[i] ≠ ys[i] := ‹_›
        rw [decide_eq_false (fun h => hne (by subst h; rfl))]
      · have hne : ¬ xs[i] ≠ ys[i] := ‹_›
        refine ⟨i + 1, [], Sub.refl, ⟨by omega, ⟨rfl, rfl, rfl, rfl, trivial⟩, rfl, rfl, ?_⟩, by omega⟩
        rw [List.take_succ_eq_append_getElem hlt, List.take_succ_eq_append_getElem (by omega), heq, Decidable.not_not.1 hne]
    · repeat' (first | ((with_reducible refine g_wl ?_); (first | refine kN ?_ | ((with_reducible refine g_as ?_); (refine kp (pvm_assign_b rfl) ?_)) | ((with_reducible refine g_bo ?_); (refine kp (pv_lss rfl rfl) ?_)))) | with_reducible refine w_seq ?_ | with_reducible refine thenP_n ?_ | with_reducible refine thenP_x ?_ | with_reducible refine blockP_eq ?_ | with_reducible refine w_ret ?_ | with_reducible refine w_exit ?_ | (refine w_cond_dec rfl (fun _ => ?_) (fun _ => ?_) <;> try (exfalso; omega)) | refine wr rfl ?_)
      refine ret_r (v := .bool _) rfl ⟨?_, rfl⟩
      rw [List.take_of_length_le (by omega), List.take_of_length_le (by omega)] at heq
      simp [heq]
  · refine c_of_w2 (n := 26) Try.func41 rfl rfl rfl (by rfl) fun E => ?_
    repeat' (first | ((with_reducible refine g_wl ?_); (first | refine kN ?_ | ((with_reducible refine g_mv ?_); (refine kp (pvm_move_s rfl) ?_)) | ((with_reducible refine g_as ?_); (refine kp (pvm_assign_b rfl) ?_)) | ((with_reducible refine g_bo ?_); (refine kp (pv_neq rfl rfl) ?_)) | ((with_reducible refine g_cb .len ?_); refine kp (pv_len_slice Ft.h rfl) ?_))) | with_reducible refine w_seq ?_ | with_reducible refine thenP_n ?_ | with_reducible refine thenP_r ?_ | with_reducible refine w_ret ?_ | (refine w_cond_dec rfl (fun _ => ?_) (fun _ => ?_) <;> try (exfalso; omega)) | refine wr rfl ?_)
    refine ret_r (v := .bool _) rfl ⟨?_, rfl⟩
    rw [decide_eq_false (fun h => hle (by rw [h]))]

theorem mul64_1 (ro : RO) : C Try.prog 86 #[v64 1#64, v64 3584#64] ro [] fun v own => v = .tuple #[v64 0#64, v64 3584#64] ∧ own = [] := by
  refine c_of_w2 (n := 51) Try.func86 rfl rfl rfl (by rfl) fun E => ?_
  repeat' (first | ((with_reducible refine g_wl ?_); (first | refine kN ?_ | ((with_reducible refine g_mv ?_); (refine kp (pvm_move_64 rfl) ?_)) | ((with_reducible refine g_as ?_); (first | refine kp (pvm_assign_64 rfl) ?_ | refine kp pv_assign ?_)) | ((with_reducible refine g_bo ?_); (first | refine kp (pv64_and rfl (v64_lit 4294967295 rfl (by omega))) ?_ | refine kp (pv64_shr rfl rfl (by omega)) ?_ | refine kp (pv64_mul rfl rfl) ?_ | refine kp (pv64_add rfl rfl) ?_)))) | with_reducible refine w_seq ?_ | with_reducible refine thenP_n ?_ | with_reducible refine w_ret ?_ | refine wr rfl ?_)
  exact ret_r rfl ⟨rfl, rfl⟩
theorem mul_1 (ro : RO) : C Try.prog 71 #[v64 1#64, v64 3584#64] ro [] fun v own => v = .tuple #[v64 0#64, v64 3584#64] ∧ own = [] := by
  refine c_of_w2 (n := 30) Try.func71 rfl rfl rfl (by rfl) fun E => ?_
  repeat' (first | ((with_reducible refine g_wl ?_); (first | refine kN ?_ | ((with_reducible refine g_mv ?_); (first | refine kp (pvm_move_64 rfl) ?_ | refine kp (pvm_move_t rfl) ?_)) | ((with_reducible refine g_as ?_); (first | refine kp (pvm_assign_64 rfl) ?_ | refine kp pv_assign ?_)) | ((with_reducible refine g_cf 86 ?_); (refine kd (opw_call Fb.h rfl [] (mul64_1 ro) RoOk.self (fun v own h => ?_)); obtain ⟨rfl, rfl⟩ := h)) | refine kp (pv_extract rfl rfl) ?_)) | with_reducible refine w_seq ?_ | with_reducible refine thenP_n ?_ | with_reducible refine w_skip ?_ | with_reducible refine w_ret ?_ | refine w_cond_false rfl ?_ | refine wr rfl ?_)
  exact ret_n rfl ⟨rfl, rfl⟩
theorem mnz : IsExt Try.prog 72 (Extern.BytealgMakeNoZero.makeNoZero #[3] #[22]) := ⟨_, Try.func72, by kernel_rfl, by kernel_rfl, by kernel_rfl, by kernel_rfl⟩
/-- bytes.Repeat of one byte, as flash.New asks for it. -/
theorem repeat_c (x : BitVec 8) (ad : Addr) (c : Nat) (ro : RO) (hs : SlR v8 (.slice (some ad) 1 c) [x] ro) : C Try.prog 36 #[.slice (some ad) 1 c, .int .i64 3584] ro [] fun v own =>
    ∃ (nb : Nat) (l : List (BitVec 8)), v = .slice (some ⟨nb, 0, none⟩) 3584 3584 ∧ own = [[(nb, arr v8 5 l)]] ∧ 3584 ≤ l.length ∧ l.take 3584 = List.replicate 3584 x := by
  refine c_of_w2 (n := 77) Try.func36 rfl rfl rfl (by rfl) fun E => ?_
  repeat' (first | ((with_reducible refine g_wl ?_); (first | refine kN ?_ | ((with_reducible refine g_gd ?_); (refine kg rfl ?_)) | ((with_reducible refine g_mv ?_); (first | refine kp (pvm_move_s rfl) ?_ | refine kp (pvm_move_t rfl) ?_ | refine kp (pvm_move_64 rfl) ?_ | refine kp (pvm_move_b rfl) ?_ | refine kp (pvm_move_i rfl) ?_)) | ((with_reducible refine g_as ?_); (first | refine kp (pvm_assign_s rfl) ?_ | refine kp (pvm_assign_64 rfl) ?_ | refine kp (pvm_assign_i rfl) ?_)) | ((with_reducible refine g_pk ?_); (refine kp (pvk_f_b rfl rfl) ?_)) | ((with_reducible refine g_bo ?_); (first | refine kp (pv64_gtr rfl (v64_lit 0 rfl (by omega))) ?_ | refine kp (pv64_gtr rfl (v64_lit 9223372036854775807 rfl (by omega))) ?_ | refine kp (pv_eql rfl rfl) ?_ | refine kp (pv_lss rfl rfl) ?_ | refine kp (pv_gtr rfl rfl) ?_)) | ((with_reducible refine g_cv ?_); refine kp (pvc_i_64 Ft.h Ft.h rfl) ?_) | ((with_reducible refine g_cb .copy ?_); (refine kd (opw_copy (f := v8) (ys := [x]) 0 FaLibW.sl_22 (fun _ => rfl) rfl rfl rfl (hs.rd _) (by simp; omega) ?_))) | ((with_reducible refine g_cb .len ?_); refine kp (pv_len_slice Ft.h rfl) ?_) | ((with_reducible refine g_cf 71 ?_); (refine kd (opw_call Fb.h rfl [] (mul_1 ro) RoOk.self (fun v own h => ?_)); obtain ⟨rfl, rfl⟩ := h)) | ((with_reducible refine g_cf 72 ?_); (refine kd (opw_makeNoZero (m := 3584) mnz Try.underlying22 rfl (by omega) fun nb l hl => ?_); skip)) | refine kp (pv_extract rfl rfl) ?_ | refine kp (pv_slice_hm FaLibW.sl_22 rfl rfl rfl (by omega) (by omega) (by omega)) ?_)) | with_reducible refine w_seq ?_ | with_reducible refine thenP_n ?_ | with_reducible refine w_skip ?_ | with_reducible refine w_block ?_ | refine w_cond_false rfl ?_ | ((with_reducible refine w_region (id := 8) ?_); (refine wl_pure rfl rfl (pvm_move_64 rfl) ?_); (refine wl_pure rfl rfl (pvc_64_n 3584 Try.underlying91 Try.underlying3 rfl rfl (by omega)) ?_); (refine wl_pure rfl rfl (pvm_assign_i rfl) ?_); refine wl_nil ?_) | refine wr (id := 0) rfl ?_ | refine wr (id := 1) rfl ?_ | refine wr (id := 3) rfl ?_ | refine wr (id := 5) rfl ?_ | refine wr (id := 6) rfl ?_ | refine wr (id := 9) rfl ?_ | refine wr (id := 11) rfl ?_ | refine wr (id := 12) rfl ?_ | refine wr (id := 16) rfl ?_ | refine wr (id := 17) rfl ?_)
  refine w_loop2 (ι := Nat) (fun i ρ ro' own => 1 ≤ i ∧ i ≤ 3584 ∧ Kn [(7, .int .i64 3584), (8, .int .i64 3584), (9, .slice (some ⟨nb, 0, none⟩) 3584 3584), (10, .int .i64 i)] ρ ∧ ro' = ro ∧ own = [[(nb, arr v8 5 (List.replicate i x ++ l.drop i))]]) (fun i => 3584 - i) 1 ⟨by omega, by omega, ⟨rfl, rfl, rfl, rfl, trivial⟩, rfl, rfl⟩ ?_
  rintro i ρ ro' own ⟨hi1, hi, hk, rfl, rfl⟩
  obtain ⟨ρ', rfl⟩ := hk.ex
  by_cases hlt : i < 3584
  · have hcut : cutAddr (some ⟨nb, 0, none⟩) i 1 3584 = some ⟨nb, i, none⟩ := by rw [cutAddr_some, if_neg (by omega), Nat.zero_add, Nat.mul_one]
    repeat' (first | ((with_reducible refine g_wl ?_); (first | refine kN ?_ | ((with_reducible refine g_mv ?_); (refine kp (pvm_move_i rfl) ?_)) | ((with_reducible refine g_as ?_); (refine kp (pvm_assign_i rfl) ?_)) | ((with_reducible refine g_bo ?_); refine kp (pv_lss rfl rfl) ?_) | ((with_reducible refine g_cb .min ?_); refine kp (pv_min rfl rfl) ?_))) | with_reducible refine w_seq ?_ | with_reducible refine thenP_n ?_ | with_reducible refine blockP_n ?_ | with_reducible refine w_skip ?_ | with_reducible refine w_block ?_ | (refine w_cond_dec rfl (fun _ => ?_) (fun _ => ?_) <;> try (exfalso; omega)) | (refine w_draw (id := 20) [] (hold []) Fa.mixed (hold_ok (by simp)) ?_; (refine wh_pure 0 rfl (by kernel_rfl) rfl rfl (pvm_move_i rfl) ?_); (refine wh_pure 1 rfl (by kernel_rfl) rfl rfl (pvm_move_s rfl) ?_); (refine wh_pure 2 rfl (by kernel_rfl) rfl rfl (pvm_move_i rfl) ?_); refine wh_pure 3 rfl (by kernel_rfl) rfl rfl (pv_slice_l FaLibW.sl_22 rfl rfl (by omega) (by omega)) ?_; (refine wh_pure 4 rfl (by kernel_rfl) rfl rfl (pvm_move_s rfl) ?_); (refine wh_pure 5 rfl (by kernel_rfl) rfl rfl (pvm_move_i rfl) ?_); refine wh_pure 6 rfl (by kernel_rfl) rfl rfl (pv_slice_h FaLibW.sl_22 rfl rfl (by omega) (by omega)) ?_; refine wh_do 7 (by kernel_rfl) rfl rfl rfl rfl (opw_copy (f := v8) (b := nb) (o := i) (dl := 3584 - i) (dc := 3584 - i) (ys := List.replicate (min (i : Int) 3584).toNat x) 0 FaLibW.sl_22 (fun _ => rfl) (by rw [← hcut]; rfl) rfl (by rw [List.length_replicate]; rfl) (Rd.arr 0 0 rfl (fun k hk => by rw [List.length_replicate] at hk; rw [Nat.zero_add, List.getElem?_append_left (by simp; omega), List.getElem?_replicate, List.getElem?_replicate, if_pos (by omega), if_pos hk])) (by simp; omega) ⟨RoOk.nil, ?_⟩); (refine wh_pure 8 rfl (by kernel_rfl) rfl rfl (pv_iadd rfl rfl (by omega)) ?_); (refine wh_pure 9 rfl (by kernel_rfl) rfl rfl (pvm_assign_i rfl) ?_); (refine wh_done (by kernel_rfl) ?_)) | refine wr (id := 18) rfl ?_ | refine wr (id := 19) rfl ?_)
    refine ⟨i + min i (3584 - i), _, Sub.refl, ⟨by omega, by omega, ⟨rfl, rfl, rfl, ?_, trivial⟩, rfl, ?_⟩, by omega⟩
    · show Value.int .i64 _ = _
      congr 1
      simp; omega
    · show [[(nb, arr v8 5 _)]] = _
      have e1 : min (List.replicate (min (i : Int) 3584).toNat x).length (3584 - i) = min i (3584 - i) := by simp; omega
      rw [e1, List.take_left' (by simp), List.take_replicate, List.drop_append, List.drop_of_length_le (by simp), List.nil_append, List.length_replicate, List.drop_drop, List.replicate_append_replicate]
      have e2 : i + min (min i (3584 - i)) (min (i : Int) 3584).toNat = i + min i (3584 - i) := by omega
      have e3 : i + (i + min i (3584 - i) - i) = i + min i (3584 - i) := by omega
      rw [e2, e3]
  · obtain rfl : i = 3584 := by omega
    repeat' (first | ((with_reducible refine g_wl ?_); (first | refine kN ?_ | ((with_reducible refine g_mv ?_); (first | refine kp (pvm_move_s rfl) ?_ | refine kp (pvm_move_i rfl) ?_)) | ((with_reducible refine g_as ?_); (refine kp (pvm_assign_s rfl) ?_)) | ((with_reducible refine g_bo ?_); refine kp (pv_lss rfl rfl) ?_))) | with_reducible refine w_seq ?_ | with_reducible refine thenP_n ?_ | with_reducible refine thenP_x ?_ | with_reducible refine blockP_eq ?_ | with_reducible refine w_ret ?_ | with_reducible refine w_exit ?_ | refine w_cond_false rfl ?_ | refine wr (id := 18) rfl ?_ | refine wr (id := 21) rfl ?_)
    refine ret_r rfl ⟨nb, _, rfl, rfl, ?_, ?_⟩
    · rw [List.length_append, List.length_replicate]; omega
    · rw [List.take_left' (List.length_replicate ..)]
end Go.Proofs.Ytnohdfhhdppflaa