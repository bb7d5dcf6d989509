/- The reference's flash, walked: it does what the program's does. -/
import Derived.Test.YtnohdfhhdppflaaSlotW2
import Derived.Test.YtnohdfhhdppflaaPlain
namespace Go.Proofs.Ytnohdfhhdppflaa
open Go Go.Vc Go.Fl
set_option linter.unusedVariables false
set_option linter.unusedSimpArgs false
set_option maxRecDepth 100000
set_option maxHeartbeats 4000000
namespace FaReFlash
theorem fo_53_3 : fieldOff Try.prog 53 3 = some 16 := by kernel_rfl
theorem fo_53_4 : fieldOff Try.prog 53 4 = some 17 := by kernel_rfl
theorem fo_53_5 : fieldOff Try.prog 53 5 = some 18 := by kernel_rfl
theorem fo_53_6 : fieldOff Try.prog 53 6 = some 19 := by kernel_rfl
theorem fo_53_7 : fieldOff Try.prog 53 7 = some 20 := by kernel_rfl
theorem one_3 : isOne Try.prog 3 = true := by kernel_rfl
theorem one_4 : isOne Try.prog 4 = true := by kernel_rfl
theorem sz_3 : sz Try.prog 3 = some 1 := by kernel_rfl
theorem sz_4 : sz Try.prog 4 = some 1 := by kernel_rfl
instance : Ft (fieldOff Try.prog 53 3) (16) := ⟨fo_53_3⟩
instance : Ft (fieldOff Try.prog 53 4) (17) := ⟨fo_53_4⟩
instance : Ft (fieldOff Try.prog 53 5) (18) := ⟨fo_53_5⟩
instance : Ft (fieldOff Try.prog 53 6) (19) := ⟨fo_53_6⟩
instance : Ft (fieldOff Try.prog 53 7) (20) := ⟨fo_53_7⟩
instance : Fb (isOne Try.prog 3) := ⟨one_3⟩
instance : Fb (isOne Try.prog 4) := ⟨one_4⟩
instance : Ft (sz Try.prog 3) (1) := ⟨sz_3⟩
instance : Ft (sz Try.prog 4) (1) := ⟨sz_4⟩
end FaReFlash
attribute [local irreducible] PV OpW WL WM WH WZ W C Has RoOk

/-- The reference's flash 't' stands for the program's 's'. -/
structure Rel (s t : Fs) : Prop where
  len : 3584 ≤ s.b.length
  b : t.b = s.bs
  er : t.er = s.er
  wear : t.wear = s.wear
  down : t.down = s.down
  fused : t.fused = s.fused
  torn : t.torn = s.torn
  left : s.fused = true → t.left = s.left
def refObj (q : Nat) (s : Fs) : Obj := .cells #[.slice (some ⟨q, 0, none⟩) 3584 3584, .int .i64 s.wear, .int .i64 (s.er 0), .int .i64 (s.er 1), .int .i64 (s.er 2), .int .i64 (s.er 3), .int .i64 (s.er 4), .int .i64 (s.er 5), .int .i64 (s.er 6), .int .i64 (s.er 7), .int .i64 (s.er 8), .int .i64 (s.er 9), .int .i64 (s.er 10), .int .i64 (s.er 11), .int .i64 (s.er 12), .int .i64 (s.er 13),
  .bool s.down, .int .i64 s.steps, .bool s.fused, .int .i64 s.left, .int .i64 s.torn] 53 (0, 0)
def refG (p q : Nat) (s : Fs) : Blks := [(p, refObj q s), (q, arr v8 5 s.b)]
theorem stepR_c (p q : Nat) (s t : Fs) (h : Rel s t) (hd : s.down = false) (ro : RO) : C Try.prog 55 #[.pointer (some ⟨p, 0, none⟩)] ro [refG p q t] fun v own => ∃ t', v = .bool (!s.stepS.down) ∧ own = [refG p q t'] ∧ Rel s.stepS t' ∧ t'.b = t.b := by
  refine c_of_w2 (n := 30) Try.func55 rfl rfl rfl (by rfl) fun E => ?_
  repeat' (first | ((with_reducible refine g_wl ?_); (first | refine kN ?_ | ((with_reducible refine g_mv ?_); (refine kp (pvm_move_p rfl) ?_)) | ((with_reducible refine g_as ?_); (refine kp (pvm_assign_b rfl) ?_)) | ((with_reducible refine g_bo ?_); (first | refine kp (pv_add rfl rfl) ?_ | refine kp (pv_sub rfl rfl) ?_ | refine kp (pv_lss rfl rfl) ?_)) | ((with_reducible refine g_ld ?_); (refine kd (opw_load Fb.h rfl (Has.own 0 0 rfl rfl) ?_))) | ((with_reducible refine g_st ?_); (refine kn (opw_store 0 0 Ft.h rfl rfl rfl rfl rfl (Nat.le_of_ble_eq_true rfl) (noFr_zero _ _) ?_))) | refine kp (pv_nilCheck rfl) ?_ | refine kp (pv_fieldAddr Ft.h rfl) ?_ | refine kp (pv_not rfl) ?_)) | with_reducible refine w_seq ?_ | with_reducible refine thenP_n ?_ | with_reducible refine thenP_r ?_ | with_reducible refine w_skip ?_ | with_reducible refine w_ret ?_ | (refine w_cond_dec rfl (fun _ => ?_) (fun _ => ?_) <;> try (exfalso; omega)) | refine w_cond_not rfl (fun _ => ?_) (fun _ => ?_) | refine wr rfl ?_)
  · have hf : t.fused = false := ‹_›
    have hs : s.fused = false := h.fused ▸ hf
    have e : s.stepS = s.tick := Fs.stepS_ok hs
    rw [e]
    refine ret_r (v := .bool true) rfl ⟨{ t with steps := w64 (t.steps + 1) }, ?_, rfl, ⟨h.len, h.b, h.er, h.wear, h.down, h.fused, h.torn, fun hh => by rw [show s.tick.fused = s.fused from rfl, hs] at hh; cases hh⟩, rfl⟩
    show _ = Value.bool (!s.down); rw [hd]; rfl
  · have hf : t.fused = true := ‹_›
    have hs : s.fused = true := h.fused ▸ hf
    have hl : w64 (t.left - 1) < 0 := ‹_›
    have e : s.stepS = { s.tick with down := true } := if_pos (by rw [h.left hs] at hl; simp [Fs.blows, hs, hl])
    rw [e]
    exact ret_r (v := .bool false) rfl ⟨{ t with steps := w64 (t.steps + 1), left := w64 (t.left - 1), down := true }, rfl, rfl, ⟨h.len, h.b, h.er, h.wear, rfl, h.fused, h.torn, fun _ => by show w64 (t.left - 1) = w64 (s.left - 1); rw [h.left hs]⟩, rfl⟩
  · have hf : t.fused = true := ‹_›
    have hs : s.fused = true := h.fused ▸ hf
    have hl : ¬ w64 (t.left - 1) < 0 := ‹_›
    have e : s.stepS = s.tick := if_neg (by rw [h.left hs] at hl; simp [Fs.blows, hl])
    rw [e]
    refine ret_r (v := .bool true) rfl ⟨{ t with steps := w64 (t.steps + 1), left := w64 (t.left - 1) }, ?_, rfl, ⟨h.len, h.b, h.er, h.wear, h.down, h.fused, h.torn, fun _ => by show w64 (t.left - 1) = w64 (s.left - 1); rw [h.left hs]⟩, rfl⟩
    show _ = Value.bool (!s.down); rw [hd]; rfl
theorem fuseR_c (p q : Nat) (s t : Fs) (h : Rel s t) (n torn : Int) (ro : RO) : C Try.prog 23 #[.pointer (some ⟨p, 0, none⟩), .int .i64 n, .int .i64 torn] ro [refG p q t] fun v own => ∃ t', own = [refG p q t'] ∧ Rel (s.fuse n torn) t' := by
  refine c_of_w2 (n := 19) Try.func23 rfl rfl rfl (by rfl) fun E => ?_
  repeat' (first | ((with_reducible refine g_wl ?_); (first | refine kN ?_ | ((with_reducible refine g_mv ?_); (first | refine kp (pvm_move_p rfl) ?_ | refine kp (pvm_move_i rfl) ?_)) | ((with_reducible refine g_bo ?_); refine kp (pv_geq rfl rfl) ?_) | ((with_reducible refine g_st ?_); (refine kn (opw_store 0 0 Ft.h rfl rfl rfl rfl rfl (Nat.le_of_ble_eq_true rfl) (noFr_zero _ _) ?_))) | refine kp (pv_nilCheck rfl) ?_ | refine kp (pv_fieldAddr Ft.h rfl) ?_)) | refine wr rfl ?_)
  exact ret_n rfl ⟨{ t with fused := decide (0 ≤ n), left := n, torn := torn }, rfl, ⟨h.len, h.b, h.er, h.wear, h.down, rfl, rfl, fun _ => rfl⟩⟩
theorem startR_c (p q : Nat) (s t : Fs) (h : Rel s t) (ro : RO) : C Try.prog 25 #[.pointer (some ⟨p, 0, none⟩)] ro [refG p q t] fun v own => ∃ t', own = [refG p q t'] ∧ Rel s.start t' := by
  refine c_of_w2 (n := 19) Try.func25 rfl rfl rfl (by rfl) fun E => ?_
  repeat' (first | ((with_reducible refine g_wl ?_); (first | refine kN ?_ | ((with_reducible refine g_gd ?_); (first | refine kg rfl ?_ | refine ks rfl ?_ | refine kb rfl rfl rfl (fun _ => ?_) (fun _ => ?_))) | ((with_reducible refine g_mv ?_); (first | refine kp (pvm_move_p rfl) ?_ | refine kp (pvm_move_b rfl) ?_)) | ((with_reducible refine g_pk ?_); (first | refine kp (pvk_t_b rfl rfl) ?_ | refine kp (pvk_f_b rfl rfl) ?_)) | ((with_reducible refine g_bo ?_); refine kp (pv_geq rfl rfl) ?_) | ((with_reducible refine g_ld ?_); (refine kd (opw_load Fb.h rfl (Has.own 0 0 rfl rfl) ?_))) | ((with_reducible refine g_st ?_); (refine kn (opw_store 0 0 Ft.h rfl rfl rfl rfl rfl (Nat.le_of_ble_eq_true rfl) (noFr_zero _ _) ?_))) | refine kp (pv_nilCheck rfl) ?_ | refine kp (pv_fieldAddr Ft.h rfl) ?_)) | refine wr rfl ?_)
  · have hf : t.fused = true := ‹_›
    have hs : s.fused = true := h.fused ▸ hf
    have e : s.start = { s with down := false, fused := decide (0 ≤ s.left) } := by simp [Fs.start, hs]
    rw [e]
    exact ret_n rfl ⟨{ t with down := false, fused := decide (0 ≤ t.left) }, rfl, ⟨h.len, h.b, h.er, h.wear, rfl, by rw [h.left hs], h.torn, fun _ => h.left hs⟩⟩
  · have hf : t.fused = false := ‹_›
    have hs : s.fused = false := h.fused ▸ hf
    have e : s.start = { s with down := false, fused := false } := by simp [Fs.start, hs]
    rw [e]
    exact ret_n rfl ⟨{ t with down := false, fused := false }, rfl, ⟨h.len, h.b, h.er, h.wear, rfl, rfl, h.torn, fun hh => by cases hh⟩⟩
theorem there_c (at_ n : Int) (ro : RO) : C Try.prog 54 #[.int .i64 at_, .int .i64 n] ro [] fun v own => v = .bool (decide (0 ≤ n ∧ n ≤ 3584 ∧ 0 ≤ at_ ∧ at_ ≤ 3584 - n)) ∧ own = [] := by
  refine c_of_w2 (n := 21) Try.func54 rfl rfl rfl (by rfl) fun E => ?_
  repeat' (first | ((with_reducible refine g_wl ?_); (first | refine kN ?_ | ((with_reducible refine g_gd ?_); (first | refine kg rfl ?_ | refine ks rfl ?_ | refine kc rfl rfl rfl (fun _ => ?_) (fun _ => ?_))) | ((with_reducible refine g_mv ?_); (first | refine kp (pvm_move_b rfl) ?_ | refine kp (pvm_move_i rfl) ?_)) | ((with_reducible refine g_as ?_); (refine kp (pvm_assign_b rfl) ?_)) | ((with_reducible refine g_pk ?_); (first | refine kp (pvk_t_b rfl rfl) ?_ | refine kp (pvk_f_b rfl rfl) ?_)) | ((with_reducible refine g_bo ?_); (first | refine kp (pv_isub rfl rfl (by omega)) ?_ | refine kp (pv_geq rfl rfl) ?_ | refine kp (pv_leq rfl rfl) ?_)))) | with_reducible refine w_seq ?_ | with_reducible refine thenP_n ?_ | with_reducible refine w_ret ?_ | refine wr rfl ?_)
  all_goals refine ret_r (v := .bool _) rfl ⟨?_, rfl⟩
  all_goals congr 1
  all_goals first | (rw [decide_eq_decide]; omega) | (symm; rw [decide_eq_false_iff_not]; omega)
end Go.Proofs.Ytnohdfhhdppflaa
