/- Sums that tell slips, walked: the reference's Put and Right; rows joined by slices.Concat. -/
import Derived.Test.YtnohdfhhdppflaaCrcW2
namespace Go.Proofs.Ytnohdfhhdppflaa
open Go Go.Vc Go.Fl Go.Sha
set_option linter.unusedVariables false
set_option linter.unusedSimpArgs false
set_option maxRecDepth 100000
set_option maxHeartbeats 4000000
namespace FaCrcW3
theorem ca_48 : callable Try.prog 48 = true := by kernel_rfl
theorem ca_82 : callable Try.prog 82 = true := by kernel_rfl
theorem ca_84 : callable Try.prog 84 = true := by kernel_rfl
theorem ei_5 : elemInfo Try.prog 5 = some (1, 1, (.int .u8 0)) := by kernel_rfl
theorem one_22 : isOne Try.prog 22 = true := by kernel_rfl
theorem sl_117 : sliceOf Try.prog 117 = some (22, 1) := by kernel_rfl
theorem sl_22 : sliceOf Try.prog 22 = some (5, 1) := by kernel_rfl
instance : Fb (callable Try.prog 48) := ⟨ca_48⟩
instance : Fb (callable Try.prog 82) := ⟨ca_82⟩
instance : Fb (callable Try.prog 84) := ⟨ca_84⟩
instance : Ft (elemInfo Try.prog 5) (1, 1, (.int .u8 0)) := ⟨ei_5⟩
instance : Fb (isOne Try.prog 22) := ⟨one_22⟩
instance : Ft (sliceOf Try.prog 117) (22, 1) := ⟨sl_117⟩
instance : Ft (sliceOf Try.prog 22) (5, 1) := ⟨sl_22⟩
instance : Ft (Try.prog.underlying 5) (.int .u8) := ⟨Try.underlying5⟩
instance : Ft (Try.prog.underlying 9) (.string) := ⟨Try.underlying9⟩
instance : Ft (Try.prog.underlying 22) (.slice 5) := ⟨Try.underlying22⟩
end FaCrcW3
attribute [local irreducible] PV OpW WL WM WH WZ W C Has RoOk

theorem refPut_c (a : Option Addr) (n c : Nat) (xs : List B) (hn : n = xs.length) (hl : xs.length ≤ 100000) (ro : RO) (hs : SlR v8 (.slice a n c) xs ro) : C Try.prog 69 #[.slice a n c] ro [] fun v own => ∃ g, own = [g] ∧ Sl v8 5 v (Crc.put xs) g := by
  subst hn
  refine c_of_w2 (n := 9) Try.func69 rfl rfl rfl (by rfl) fun E => ?_
  refine w_sub (own' := [[]]) (Sub.flat rfl) ?_
  repeat' (first | ((with_reducible refine g_wl ?_); (first | refine kN ?_ | ((with_reducible refine g_as ?_); (refine kp (pvm_assign_s rfl) ?_)))) | with_reducible refine w_seq ?_ | with_reducible refine thenP_n ?_ | with_reducible refine w_ret ?_ | ((with_reducible refine w_region (id := 1) ?_); (refine wl_pure rfl rfl (pvm_move_s rfl) ?_); (refine wl_do rfl rfl (opw_append (f := v8) (xs := []) (ys := xs) 0 FaCrcW3.sl_22 FaCrcW3.ei_5 (fun _ => rfl) 0 rfl rfl Sl.nil rfl rfl (SlR.rd hs _) (by show (_ + _) * 1 ≤ _; simp; omega) (by omega) (fun v g h1 => ?_)); rw [List.nil_append] at h1); (refine wl_pure rfl rfl (pvm_move_s rfl) ?_); refine wl_do rfl rfl (opw_call FaCrcW3.ca_82 rfl [] (refCrc_c a _ c xs rfl hl _ hs) RoOk.self (fun v own h => ?_)); obtain ⟨rfl, rfl⟩ := h; refine wl_do rfl rfl (opw_call FaCrcW3.ca_48 rfl [] (four_c _ _) RoOk.self (fun v own h => ?_)); obtain ⟨g4, rfl, hg4⟩ := h; obtain ⟨a4, c4, rfl, hle4⟩ := hg4.slice; (refine wl_do rfl rfl (opw_append (f := v8) (xs := xs) (ys := be4 (Crc.crc xs)) 1 FaCrcW3.sl_22 FaCrcW3.ei_5 (fun _ => rfl) 0 rfl rfl h1 rfl rfl (Sl.rd hg4 (i := 0) rfl) (by show (_ + _) * 1 ≤ _; rw [Crc.be4_length]; omega) (by omega) (fun v g h2 => ?_))); (refine wl_pure rfl rfl pv_assign ?_); refine wl_nil ?_) | refine wr (id := 0) rfl ?_)
  exact ret_s [_] rfl (Sub.pk' [1] rfl) ⟨_, rfl, ‹_›⟩
theorem take_drop_eq {xs y : List B} {m : Nat} : xs.take m ++ y = xs ↔ y = xs.drop m := by
  constructor
  · intro h
    have h2 : xs.take m ++ y = xs.take m ++ xs.drop m := by rw [List.take_append_drop]; exact h
    exact List.append_cancel_left h2
  · rintro rfl; exact List.take_append_drop m xs
theorem refRight_c (a : Option Addr) (n c : Nat) (xs : List B) (hn : n = xs.length) (hl : xs.length ≤ 100000) (ro : RO) (hs : SlR v8 (.slice a n c) xs ro) : C Try.prog 63 #[.slice a n c] ro [] fun v own => ∃ bv g, v = .tuple #[bv, .bool (Crc.right xs).isSome] ∧ own = [g] ∧ Sl v8 5 bv ((Crc.right xs).getD []) g := by
  subst hn
  have hle : xs.length ≤ c := by obtain ⟨a', c', h, hle⟩ := hs.slice; simp only [Value.slice.injEq] at h; omega
  by_cases h4 : xs.length < 4
  · have hr : Crc.right xs = none := if_pos h4
    rw [hr]
    refine c_of_w2 (n := 27) Try.func63 rfl rfl rfl (by rfl) fun E => ?_
    repeat' (first | ((with_reducible refine g_wl ?_); (first | refine kN ?_ | ((with_reducible refine g_mv ?_); (refine kp (pvm_move_s rfl) ?_)) | ((with_reducible refine g_as ?_); (first | refine kp (pvm_assign_s rfl) ?_ | refine kp (pvm_assign_b rfl) ?_ | refine kp (pvm_assign_i rfl) ?_)) | ((with_reducible refine g_bo ?_); (refine kp (pv_isub rfl rfl (by omega)) ?_)) | ((with_reducible refine g_cb .len ?_); refine kp (pv_len_slice Ft.h rfl) ?_))) | with_reducible refine w_seq ?_ | with_reducible refine thenP_n ?_ | with_reducible refine thenP_r ?_ | with_reducible refine w_ret ?_ | refine w_cond_true rfl ?_ | (refine w_draw (id := 2) [] (ro) Fa.mixed RoOk.self ?_; all_goals (refine wh_pure 0 rfl (by kernel_rfl) rfl rfl (pvm_move_i rfl) ?_); all_goals (refine wh_pure 1 rfl (by kernel_rfl) rfl rfl (pv_lss_t rfl rfl (by omega)) ?_); all_goals (refine wh_pure 2 rfl (by kernel_rfl) rfl rfl (pvm_move_b rfl) ?_); all_goals (refine wh_skip 3 rfl (by kernel_rfl) rfl rfl ?_); all_goals (refine wh_skip 4 rfl (by kernel_rfl) rfl rfl ?_); all_goals (refine wh_skip 5 rfl (by kernel_rfl) rfl rfl ?_); all_goals (refine wh_skip 9 rfl (by kernel_rfl) rfl rfl ?_); all_goals (refine wh_skip 10 rfl (by kernel_rfl) rfl rfl ?_); all_goals (refine wh_skip 11 rfl (by kernel_rfl) rfl rfl ?_); all_goals (refine wh_skip 12 rfl (by kernel_rfl) rfl rfl ?_); all_goals (refine wh_skip 6 rfl (by kernel_rfl) rfl rfl ?_); all_goals (refine wh_skip 7 rfl (by kernel_rfl) rfl rfl ?_); all_goals (refine wh_skip 8 rfl (by kernel_rfl) rfl rfl ?_); all_goals (refine wh_skip 13 rfl (by kernel_rfl) rfl rfl ?_); all_goals (refine wh_pure 14 rfl (by kernel_rfl) rfl rfl (pvk_t_b rfl rfl) ?_); all_goals (refine wh_done (by kernel_rfl) ?_)) | refine wr (id := 0) rfl ?_ | refine wr (id := 1) rfl ?_ | refine wr (id := 3) rfl ?_)
    all_goals first | (exfalso; omega) | exact ret_s (v := .tuple #[.slice none 0 0, .bool false]) [[]] rfl (Sub.pk' [] rfl) ⟨_, [], rfl, rfl, Sl.nil⟩
  · obtain ⟨m, hm⟩ : ∃ m, xs.length = m + 4 := ⟨xs.length - 4, by omega⟩
    have hmi : ((xs.length : Int) - 4).toNat = m := by omega
    have hst : SlR v8 (.slice a ((xs.length : Int) - 4).toNat c) (xs.take m) ro := by rw [hmi]; exact hs.take' (by omega)
    have htl : (xs.take m).length = ((xs.length : Int) - 4).toNat := by rw [List.length_take]; omega
    have hsd : SlR v8 (.slice (cutAddr a ((xs.length : Int) - 4).toNat 1 c) (xs.length - ((xs.length : Int) - 4).toNat) (c - ((xs.length : Int) - 4).toNat)) (xs.drop m) ro := by rw [hmi]; exact hs.drop' (by omega)
    have hdl : xs.length - ((xs.length : Int) - 4).toNat = (xs.drop m).length := by rw [List.length_drop]; omega
    refine c_of_w2 (n := 27) Try.func63 rfl rfl rfl (by rfl) fun E => ?_
    refine w_sub (own' := [[]]) (Sub.flat rfl) ?_
    repeat' (first | ((with_reducible refine g_wl ?_); (first | refine kN ?_ | ((with_reducible refine g_mv ?_); (first | refine kp (pvm_move_s rfl) ?_ | refine kp (pvm_move_i rfl) ?_)) | ((with_reducible refine g_as ?_); (first | refine kp (pvm_assign_s rfl) ?_ | refine kp (pvm_assign_b rfl) ?_ | refine kp (pvm_assign_i rfl) ?_ | refine kp pv_assign ?_)) | ((with_reducible refine g_bo ?_); (refine kp (pv_isub rfl rfl (by omega)) ?_)) | ((with_reducible refine g_cb .append ?_); (refine kd (opw_append (f := v8) (xs := []) (ys := xs.take m) 1 FaCrcW3.sl_22 FaCrcW3.ei_5 (fun _ => rfl) 0 rfl rfl Sl.nil rfl (by rw [htl]; rfl) (SlR.rd hst _) (by show (_ + _) * 1 ≤ _; simp; omega) (by omega) (fun v g h => ?_)); rw [List.nil_append] at h)) | ((with_reducible refine g_cb .len ?_); refine kp (pv_len_slice Ft.h rfl) ?_) | refine kp (pv_slice_h FaCrcW3.sl_22 rfl rfl (by omega) (by omega)) ?_)) | with_reducible refine w_seq ?_ | with_reducible refine thenP_n ?_ | with_reducible refine thenP_r ?_ | with_reducible refine w_skip ?_ | with_reducible refine w_ret ?_ | (refine w_cond_dec rfl (fun _ => ?_) (fun _ => ?_) <;> try (exfalso; omega)) | (refine w_draw (id := 2) [] (ro) Fa.mixed RoOk.self ?_; all_goals (refine wh_pure 0 rfl (by kernel_rfl) rfl rfl (pvm_move_i rfl) ?_); all_goals (refine wh_pure 1 rfl (by kernel_rfl) rfl rfl (pv_lss_f rfl rfl (by omega)) ?_); all_goals (refine wh_pure 2 rfl (by kernel_rfl) rfl rfl (pvm_move_b rfl) ?_); all_goals (refine wh_pure 3 rfl (by kernel_rfl) rfl rfl (pvm_move_s rfl) ?_); all_goals (refine wh_pure 4 rfl (by kernel_rfl) rfl rfl (pvm_move_i rfl) ?_); all_goals (refine wh_pure 5 rfl (by kernel_rfl) rfl rfl (pv_slice_h FaCrcW3.sl_22 rfl rfl (by omega) (by omega)) ?_); all_goals (refine wh_pure 9 rfl (by kernel_rfl) rfl rfl (pvm_move_s rfl) ?_); all_goals (refine wh_pure 10 rfl (by kernel_rfl) rfl rfl (pvm_move_i rfl) ?_); all_goals (refine wh_pure 11 rfl (by kernel_rfl) rfl rfl (pv_slice_l FaCrcW3.sl_22 rfl rfl (by omega) (by omega)) ?_); all_goals (refine wh_str 12 rfl (by kernel_rfl) rfl rfl Try.underlying22 Try.underlying5 Try.underlying9 rfl hdl (hsd.rd _) ?_); all_goals (refine wh_do 6 (by kernel_rfl) rfl rfl rfl rfl (opw_call FaCrcW3.ca_82 rfl [] (refCrc_c a _ c (xs.take m) htl.symm (by omega) ro hst) RoOk.self (fun v own h => ?_)); obtain ⟨rfl, rfl⟩ := h; refine ⟨RoOk.self, ?_⟩); all_goals (refine wh_do 7 (by kernel_rfl) rfl rfl rfl rfl (opw_call FaCrcW3.ca_48 rfl [] (four_c _ _) RoOk.self (fun v own h => ?_)); obtain ⟨g, rfl, hg⟩ := h; obtain ⟨a2, c2, rfl, hle2⟩ := hg.slice; refine ⟨RoOk.self, ?_⟩); all_goals (refine wh_do 8 (by kernel_rfl) rfl rfl rfl rfl (opw_str Try.underlying22 Try.underlying5 Try.underlying9 rfl rfl (Sl.rd hg (i := 0) rfl) ⟨RoOk.self, ?_⟩)); all_goals (refine wh_pure 13 rfl (by kernel_rfl) rfl rfl (pv_vstr_neq rfl rfl) ?_); all_goals (refine wh_pure 14 rfl (by kernel_rfl) rfl rfl (pvk_f_b rfl rfl) ?_); all_goals (refine wh_done (by kernel_rfl) ?_)) | refine wr rfl ?_)
    · have h : be4 (Crc.crc (xs.take m)) ≠ xs.drop m := ‹_›
      have hr : Crc.right xs = none := by unfold Crc.right; rw [if_neg h4, show xs.length - 4 = m by omega, if_neg (fun hh : Crc.put (xs.take m) = xs => h (take_drop_eq.1 hh))]
      rw [hr]
      exact ret_s (v := .tuple #[.slice none 0 0, .bool false]) [[]] rfl (Sub.pk' [] rfl) ⟨_, [], rfl, rfl, Sl.nil⟩
    · have h : ¬ be4 (Crc.crc (xs.take m)) ≠ xs.drop m := ‹_›
      have hr : Crc.right xs = some (xs.take m) := by unfold Crc.right; rw [if_neg h4, show xs.length - 4 = m by omega, if_pos (show Crc.put (xs.take m) = xs from take_drop_eq.2 (by simpa using h))]
      rw [hr]
      exact ret_s (v := .tuple #[_, .bool true]) [_] rfl (Sub.pk' [1] rfl) ⟨_, _, rfl, rfl, ‹_›⟩
theorem grow_c (m : Nat) (hm : m ≤ 1000000) (ro : RO) : C Try.prog 84 #[.slice none 0 0, .int .i64 m] ro [] fun v own => ∃ g, own = [g] ∧ Sl v8 5 v [] g := by
  refine c_of_w2 (n := 27) Try.func84 rfl rfl rfl (by rfl) fun E => ?_
  by_cases h0 : 0 < m
  · repeat' (first | ((with_reducible refine g_wl ?_); (first | refine kN ?_ | ((with_reducible refine g_mv ?_); (first | refine kp (pvm_move_s rfl) ?_ | refine kp (pvm_move_i rfl) ?_)) | ((with_reducible refine g_as ?_); (refine kp (pvm_assign_s rfl) ?_)) | ((with_reducible refine g_bo ?_); refine kp (pv_lss rfl rfl) ?_) | ((with_reducible refine g_cb .append ?_); refine kd (opw_appendZ (f := v8) (m := m) FaCrcW3.sl_22 FaCrcW3.ei_5 Try.underlying3 0 rfl rfl rfl rfl (by omega) (by omega) (by omega) (fun nb l hl => ?_))) | ((with_reducible refine g_cb .cap ?_); refine kp (pv_cap_slice Ft.h rfl) ?_) | ((with_reducible refine g_cb .len ?_); refine kp (pv_len_slice Ft.h rfl) ?_) | refine kp (pv_slice_h FaCrcW3.sl_22 rfl rfl (by omega) (by omega)) ?_)) | with_reducible refine w_seq ?_ | with_reducible refine thenP_n ?_ | with_reducible refine w_skip ?_ | with_reducible refine w_ret ?_ | refine w_cond_true rfl ?_ | refine w_cond_false rfl ?_ | ((with_reducible refine w_region (id := 3) ?_); (refine wl_pure rfl rfl (pvm_move_i rfl) ?_); (refine wl_pure rfl rfl (pvm_move_s rfl) ?_); refine wl_pure rfl rfl (pv_cap_slice FaCrcW3.sl_22 rfl) ?_; (refine wl_pure rfl rfl (pvm_move_s rfl) ?_); refine wl_pure rfl rfl (pv_len_slice FaCrcW3.sl_22 rfl) ?_; (refine wl_pure rfl rfl (pv_isub rfl rfl (by omega)) ?_); (refine wl_pure rfl rfl (pvi_e (m : Int) (by omega) (pv_isub rfl rfl (by omega))) ?_); (refine wl_pure rfl rfl (pvm_assign_i rfl) ?_); refine wl_nil ?_) | ((with_reducible refine w_region (id := 4) ?_); (refine wl_pure rfl rfl (pvm_move_i rfl) ?_); (refine wl_pure rfl rfl (pv_gtr_t rfl rfl (by omega)) ?_); refine wl_nil ?_) | refine wr (id := 0) rfl ?_ | refine wr (id := 1) rfl ?_ | refine wr (id := 5) rfl ?_ | refine wr (id := 6) rfl ?_)
    exact ret_r rfl ⟨[(nb, arr v8 5 l)], rfl, .inr ⟨nb, l, rfl, rfl, rfl⟩⟩
  · obtain rfl : m = 0 := by omega
    repeat' (first | ((with_reducible refine g_wl ?_); (first | refine kN ?_ | ((with_reducible refine g_mv ?_); (first | refine kp (pvm_move_s rfl) ?_ | refine kp (pvm_move_i rfl) ?_)) | ((with_reducible refine g_as ?_); (refine kp (pvm_assign_s rfl) ?_)) | ((with_reducible refine g_bo ?_); refine kp (pv_lss rfl rfl) ?_))) | with_reducible refine w_seq ?_ | with_reducible refine thenP_n ?_ | with_reducible refine w_skip ?_ | with_reducible refine w_ret ?_ | refine w_cond_false rfl ?_ | ((with_reducible refine w_region (id := 3) ?_); (refine wl_pure rfl rfl (pvm_move_i rfl) ?_); (refine wl_pure rfl rfl (pvm_move_s rfl) ?_); refine wl_pure rfl rfl (pv_cap_slice FaCrcW3.sl_22 rfl) ?_; (refine wl_pure rfl rfl (pvm_move_s rfl) ?_); refine wl_pure rfl rfl (pv_len_slice FaCrcW3.sl_22 rfl) ?_; (refine wl_pure rfl rfl (pv_isub rfl rfl (by omega)) ?_); (refine wl_pure rfl rfl (pvi_e 0 (by omega) (pv_isub rfl rfl (by omega))) ?_); (refine wl_pure rfl rfl (pvm_assign_i rfl) ?_); refine wl_nil ?_) | ((with_reducible refine w_region (id := 4) ?_); (refine wl_pure rfl rfl (pvm_move_i rfl) ?_); (refine wl_pure rfl rfl (pv_gtr_f rfl rfl (by omega)) ?_); refine wl_nil ?_) | refine wr (id := 0) rfl ?_ | refine wr (id := 1) rfl ?_ | refine wr (id := 6) rfl ?_)
    exact ret_s [[]] rfl (Sub.flat rfl) ⟨[], rfl, Sl.nil⟩
theorem concat_c (a : Option Addr) (c : Nat) (es : List BSl) (hl : es.length ≤ 100) (hle : ∀ e ∈ es, e.2.2.length ≤ 1000) (ro : RO) (hs : SlR encS (.slice a es.length c) es ro) (he : ∀ e ∈ es, SlR v8 (encS e) e.2.2 ro) :
    C Try.prog 67 #[.slice a es.length c] ro [] fun v own => ∃ g, own = [g] ∧ Sl v8 5 v (allB es) g := by
  refine c_of_w2 (n := 36) Try.func67 rfl rfl rfl (by rfl) fun E => ?_
  repeat' (first | ((with_reducible refine g_wl ?_); (first | refine kN ?_ | ((with_reducible refine g_mv ?_); (first | refine kp (pvm_move_s rfl) ?_ | refine kp (pvm_move_i rfl) ?_)) | ((with_reducible refine g_as ?_); (first | refine kp (pvm_assign_s rfl) ?_ | refine kp (pvm_assign_i rfl) ?_)) | ((with_reducible refine g_cb .len ?_); refine kp (pv_len_slice Ft.h rfl) ?_))) | with_reducible refine w_seq ?_ | with_reducible refine thenP_n ?_ | with_reducible refine w_block ?_ | refine wr (id := 0) rfl ?_ | refine wr (id := 1) rfl ?_ | refine wr (id := 2) rfl ?_)
  refine w_loop2 (ι := Nat) (fun i ρ ro' own => i ≤ es.length ∧ Kn [(0, .slice a es.length c), (3, .int .i64 (allB (es.take i)).length), (9, .slice a es.length c), (10, .int .i64 es.length), (11, .int .i64 i)] ρ ∧ ro' = ro ∧ own = [] ∧ (allB (es.take i)).length ≤ 1000 * i) (fun i => es.length - i) 0 ⟨Nat.zero_le _, ⟨rfl, rfl, rfl, rfl, rfl, trivial⟩, rfl, rfl, Nat.zero_le _⟩ ?_
  rintro i ρ ro' own ⟨hi, hk, rfl, rfl, hLn⟩
  obtain ⟨ρ', rfl⟩ := hk.ex
  by_cases hlt : i < es.length
  · obtain ⟨b, off, rfl, hhas⟩ := hs.addr (by omega)
    have hx : es[i]? = some (es[i]'hlt) := List.getElem?_eq_getElem hlt
    have hli := hle _ (List.getElem_mem hlt)
    have htk : allB (es.take (i + 1)) = allB (es.take i) ++ (es[i]'hlt).2.2 := by
      unfold allB; rw [List.take_succ_eq_append_getElem hlt, List.flatMap_append]; simp
    repeat' (first | ((with_reducible refine g_wl ?_); (first | refine kN ?_ | ((with_reducible refine g_mv ?_); (first | refine kp (pvm_move_s rfl) ?_ | refine kp (pvm_move_i rfl) ?_)) | ((with_reducible refine g_as ?_); (first | refine kp (pvm_assign_s rfl) ?_ | refine kp (pvm_assign_i rfl) ?_)) | ((with_reducible refine g_bo ?_); (first | refine kp (pv_iadd rfl rfl (by omega)) ?_ | refine kp (pv_lss rfl rfl) ?_)) | ((with_reducible refine g_ld ?_); (refine kd (opw_load Fb.h rfl (hhas _ _ _ hx) ?_))) | ((with_reducible refine g_cb .len ?_); refine kp (pv_len_slice Ft.h rfl) ?_) | refine kp (pv_indexAddr1 FaCrcW3.sl_117 rfl rfl (by omega) (by omega)) ?_)) | with_reducible refine w_seq ?_ | with_reducible refine thenP_n ?_ | with_reducible refine blockP_n ?_ | with_reducible refine w_skip ?_ | with_reducible refine w_block ?_ | refine w_cond_false rfl ?_ | (refine w_cond_dec rfl (fun _ => ?_) (fun _ => ?_) <;> try (exfalso; omega)) | ((with_reducible refine w_region (id := 6) ?_); (refine wl_pure rfl rfl (pvm_move_i rfl) ?_); (refine wl_pure rfl rfl (pv_lss_f rfl rfl (by omega)) ?_); refine wl_nil ?_) | refine wr (id := 3) rfl ?_ | refine wr (id := 4) rfl ?_ | refine wr (id := 5) rfl ?_ | refine wr (id := 8) rfl ?_)
    refine ⟨i + 1, _, Sub.refl, ⟨by omega, ⟨rfl, congrArg (Value.int .i64) ?_, rfl, rfl, rfl, trivial⟩, rfl, rfl, ?_⟩, by omega⟩
    · rw [htk, List.length_append]; push_cast; rfl
    · rw [htk, List.length_append]; omega
  · obtain rfl : i = es.length := by omega
    rw [List.take_length] at hLn ⊢
    have hL : (allB es).length ≤ 100000 := by omega
    repeat' (first | ((with_reducible refine g_wl ?_); (first | refine kN ?_ | ((with_reducible refine g_mv ?_); (first | refine kp (pvm_move_s rfl) ?_ | refine kp (pvm_move_i rfl) ?_)) | ((with_reducible refine g_as ?_); (refine kp pv_assign ?_)) | ((with_reducible refine g_bo ?_); refine kp (pv_lss rfl rfl) ?_) | ((with_reducible refine g_cb .len ?_); refine kp (pv_len_slice Ft.h rfl) ?_) | ((with_reducible refine g_cf 84 ?_); (refine kd (opw_call Fb.h rfl [] (grow_c (allB es).length (by omega) _) RoOk.self (fun v own h => ?_)); obtain ⟨g, rfl, hg⟩ := h)))) | with_reducible refine w_seq ?_ | with_reducible refine thenP_n ?_ | with_reducible refine thenP_x ?_ | with_reducible refine blockP_eq ?_ | with_reducible refine w_exit ?_ | with_reducible refine w_block ?_ | (refine w_cond_dec rfl (fun _ => ?_) (fun _ => ?_) <;> try (exfalso; omega)) | refine wr (id := 3) rfl ?_ | refine wr (id := 9) rfl ?_ | refine wr (id := 10) rfl ?_)
    refine w_loop2 (ι := Nat × Value × Blks) (fun x ρ ro'' own => x.1 ≤ es.length ∧ Kn [(6, x.2.1), (25, .slice a es.length c), (26, .int .i64 es.length), (27, .int .i64 x.1)] ρ ∧ ro'' = ro' ∧ own = [x.2.2] ∧ Sl v8 5 x.2.1 (allB (es.take x.1)) x.2.2 ∧ (allB (es.take x.1)).length ≤ 1000 * x.1) (fun x => es.length - x.1) (0, _, g) ⟨Nat.zero_le _, ⟨rfl, rfl, rfl, rfl, trivial⟩, rfl, rfl, hg, Nat.zero_le _⟩ ?_
    rintro ⟨i, v, g⟩ ρ ro'' own ⟨hi, hk, rfl, rfl, hS, hLn⟩
    obtain ⟨ρ', rfl⟩ := hk.ex
    dsimp only at *
    by_cases hlt : i < es.length
    · obtain ⟨b, off, rfl, hhas⟩ := hs.addr (by omega)
      have hx : es[i]? = some (es[i]'hlt) := List.getElem?_eq_getElem hlt
      have hmem : es[i]'hlt ∈ es := List.getElem_mem hlt
      have hei := he _ hmem
      have hli := hle _ hmem
      have htk : allB (es.take (i + 1)) = allB (es.take i) ++ (es[i]'hlt).2.2 := by
        unfold allB; rw [List.take_succ_eq_append_getElem hlt, List.flatMap_append]; simp
      repeat' (first | ((with_reducible refine g_wl ?_); (first | refine kN ?_ | ((with_reducible refine g_mv ?_); (first | refine kp (pvm_move_s rfl) ?_ | refine kp (pvm_move_i rfl) ?_ | refine kp pv_move ?_)) | ((with_reducible refine g_as ?_); (first | refine kp (pvm_assign_s rfl) ?_ | refine kp pv_assign ?_)) | ((with_reducible refine g_bo ?_); (first | refine kp (pv_iadd rfl rfl (by omega)) ?_ | refine kp (pv_lss rfl rfl) ?_)) | ((with_reducible refine g_ld ?_); (refine kd (opw_load Fb.h rfl (hhas _ _ _ hx) ?_))) | ((with_reducible refine g_cb .append ?_); (refine kd (opw_append (f := v8) (xs := allB (es.take i)) (ys := (es[i]'hlt).2.2) 0 FaCrcW3.sl_22 FaCrcW3.ei_5 (fun _ => rfl) 0 rfl rfl hS rfl rfl (SlR.rd hei _) (by show (_ + _) * 1 ≤ _; omega) (by omega) (fun v g h => ?_)))) | refine kp (pv_indexAddr1 FaCrcW3.sl_117 rfl rfl (by omega) (by omega)) ?_)) | with_reducible refine w_seq ?_ | with_reducible refine thenP_n ?_ | with_reducible refine blockP_n ?_ | with_reducible refine w_skip ?_ | with_reducible refine w_block ?_ | (refine w_cond_dec rfl (fun _ => ?_) (fun _ => ?_) <;> try (exfalso; omega)) | refine wr (id := 11) rfl ?_ | refine wr (id := 12) rfl ?_ | refine wr (id := 13) rfl ?_ | refine wr (id := 14) rfl ?_)
      refine ⟨(i + 1, _, _), [_], Sub.pk' [0] rfl, ⟨by dsimp only; omega, ⟨rfl, rfl, rfl, rfl, trivial⟩, rfl, rfl, ?_, ?_⟩, by dsimp only; omega⟩
      · dsimp only; rw [htk]; assumption
      · dsimp only; rw [htk, List.length_append]; omega
    · repeat' (first | ((with_reducible refine g_wl ?_); (first | refine kN ?_ | ((with_reducible refine g_mv ?_); (refine kp pv_move ?_)) | ((with_reducible refine g_as ?_); (refine kp pv_assign ?_)) | ((with_reducible refine g_bo ?_); refine kp (pv_lss rfl rfl) ?_))) | with_reducible refine w_seq ?_ | with_reducible refine thenP_n ?_ | with_reducible refine thenP_x ?_ | with_reducible refine blockP_eq ?_ | with_reducible refine w_ret ?_ | with_reducible refine w_exit ?_ | (refine w_cond_dec rfl (fun _ => ?_) (fun _ => ?_) <;> try (exfalso; omega)) | refine wr (id := 11) rfl ?_ | refine wr (id := 15) rfl ?_)
      rw [List.take_of_length_le (by omega)] at hS
      exact ret_r rfl ⟨_, rfl, hS⟩
end Go.Proofs.Ytnohdfhhdppflaa
