/- Functions of package slices at []byte, walked. -/
import Derived.Test.YtnohdfhhdppflaaVcFacts
namespace Go.Proofs.Ytnohdfhhdppflaa
open Go Go.Vc
set_option linter.unusedVariables false
set_option linter.unusedSimpArgs false
set_option maxRecDepth 100000

theorem SlR_none {α : Type} {f : α → Value} {n c : Nat} {xs : List α} {ro : RO} (h : SlR f (.slice none n c) xs ro) : xs = [] := by
  rcases h with ⟨h, _⟩ | ⟨b, off, c, p, h, _⟩
  · exact h
  · simp at h

theorem clone8_c (a : Option Addr) (c : Nat) (xs : List (BitVec 8)) (hl : xs.length ≤ 1000000) (ro : RO) (hs : SlR v8 (.slice a xs.length c) xs ro) :
    C Try.prog 45 #[.slice a xs.length c] ro [] fun v own => ∃ g, own = [g] ∧ Sl v8 5 v xs g := by
  cases a with
  | none =>
    obtain rfl := SlR_none hs
    refine c_of_w2 (n := 8) Try.func45 rfl rfl rfl (by rfl) fun E => ?_
    repeat' (first
      | with_reducible refine w_seq ?_
      | with_reducible refine thenP_n ?_
      | with_reducible refine thenP_x ?_
      | with_reducible refine thenP_r ?_
      | with_reducible refine blockP_n ?_
      | with_reducible refine blockP_r ?_
      | with_reducible refine blockP_eq ?_
      | with_reducible refine blockP_ne (by rfl) ?_
      | with_reducible refine w_skip ?_
      | with_reducible refine w_ret ?_
      | with_reducible refine w_exit ?_
      | with_reducible refine w_block ?_
      | refine w_cond_true rfl ?_
      | refine w_cond_false rfl ?_
      | (refine w_cond_dec rfl (fun _ => ?_) (fun _ => ?_) <;> try (exfalso; omega))
      | (refine w_cond_ndec rfl (fun _ => ?_) (fun _ => ?_) <;> try (exfalso; omega))
      | refine w_cond_not rfl (fun _ => ?_) (fun _ => ?_)
      | refine w_cond rfl (fun _ => ?_) (fun _ => ?_)
      | ((with_reducible refine w_region (id := 0) ?_); (first | (refine wl_pure rfl rfl (pvm_assign_s rfl) ?_) | (refine wl_pure rfl rfl pv_assign ?_)); refine wl_nil ?_)
      | ((with_reducible refine w_region (id := 1) ?_); (first | (refine wl_pure rfl rfl (pvm_move_s rfl) ?_) | (refine wl_pure rfl rfl pv_move ?_)); refine wl_pure rfl rfl (pv_slice_nil Try.underlying22 rfl rfl) ?_; refine wl_nil ?_)
      | ((with_reducible refine w_region (id := 2) ?_); (first | (refine wl_pure rfl rfl (pvm_assign_s rfl) ?_) | (refine wl_pure rfl rfl pv_assign ?_)); refine wl_nil ?_)
      | ((with_reducible refine w_region (id := 3) ?_); refine wl_do rfl rfl (opw_buildSlice0 Try.underlying22 Fa.sz_5 fun nb => ?_); (first | (refine wl_pure rfl rfl (pvm_move_s rfl) ?_) | (refine wl_pure rfl rfl pv_move ?_)); fail "no way: call"; (first | (refine wl_pure rfl rfl (pvm_assign_s rfl) ?_) | (refine wl_pure rfl rfl pv_assign ?_)); refine wl_nil ?_))
    exact ret_s [[]] rfl (Sub.flat rfl) ⟨[], rfl, Sl.nil⟩
  | some ad =>
    refine c_of_w2 (n := 8) Try.func45 rfl rfl rfl (by rfl) fun E => ?_
    repeat' (first
      | with_reducible refine w_seq ?_
      | with_reducible refine thenP_n ?_
      | with_reducible refine thenP_x ?_
      | with_reducible refine thenP_r ?_
      | with_reducible refine blockP_n ?_
      | with_reducible refine blockP_r ?_
      | with_reducible refine blockP_eq ?_
      | with_reducible refine blockP_ne (by rfl) ?_
      | with_reducible refine w_skip ?_
      | with_reducible refine w_ret ?_
      | with_reducible refine w_exit ?_
      | with_reducible refine w_block ?_
      | refine w_cond_true rfl ?_
      | refine w_cond_false rfl ?_
      | (refine w_cond_dec rfl (fun _ => ?_) (fun _ => ?_) <;> try (exfalso; omega))
      | (refine w_cond_ndec rfl (fun _ => ?_) (fun _ => ?_) <;> try (exfalso; omega))
      | refine w_cond_not rfl (fun _ => ?_) (fun _ => ?_)
      | refine w_cond rfl (fun _ => ?_) (fun _ => ?_)
      | ((with_reducible refine w_region (id := 0) ?_); (first | (refine wl_pure rfl rfl (pvm_assign_s rfl) ?_) | (refine wl_pure rfl rfl pv_assign ?_)); refine wl_nil ?_)
      | ((with_reducible refine w_region (id := 1) ?_); (first | (refine wl_pure rfl rfl (pvm_move_s rfl) ?_) | (refine wl_pure rfl rfl pv_move ?_)); refine wl_pure rfl rfl (pv_slice_nil Try.underlying22 rfl rfl) ?_; refine wl_nil ?_)
      | ((with_reducible refine w_region (id := 2) ?_); (first | (refine wl_pure rfl rfl (pvm_assign_s rfl) ?_) | (refine wl_pure rfl rfl pv_assign ?_)); refine wl_nil ?_)
      | ((with_reducible refine w_region (id := 3) ?_); refine wl_do rfl rfl (opw_buildSlice0 Try.underlying22 Fa.sz_5 fun nb => ?_); (first | (refine wl_pure rfl rfl (pvm_move_s rfl) ?_) | (refine wl_pure rfl rfl pv_move ?_)); refine wl_do rfl rfl (opw_append (f := v8) (xs := []) (ys := xs) 0 Fa.sl_22 Fa.ei_5 (fun _ => rfl) 0 rfl rfl (.inr ⟨_, [], rfl, rfl, rfl⟩) rfl rfl (hs.rd _) (by simp; omega) (by omega) (fun v g h => ?_)); rw [List.nil_append] at h; (first | (refine wl_pure rfl rfl (pvm_assign_s rfl) ?_) | (refine wl_pure rfl rfl pv_assign ?_)); refine wl_nil ?_))
    exact ret_s [_] rfl Sub.refl ⟨_, rfl, ‹_›⟩

def anyB (p : BitVec 8 → Bool) (xs : List (BitVec 8)) : Bool := xs.any p
/-- IndexFunc with a function of one byte that only computes. -/
theorem indexFunc8_c (fn : Nat) (p : BitVec 8 → Bool) (hp : ∀ x ro, C Try.prog fn #[v8 x] ro [] fun v own => v = .bool (p x) ∧ own = []) (hca : callable Try.prog fn = true) (a : Option Addr) (c : Nat) (xs : List (BitVec 8)) (hl : xs.length ≤ 1000000) (ro : RO) (hs : SlR v8 (.slice a xs.length c) xs ro) :
    C Try.prog 93 #[.slice a xs.length c, .func (.func fn) #[] #[]] ro [] fun v own => (∃ k : Int, v = .int .i64 k ∧ (0 ≤ k ↔ xs.any p = true)) ∧ own = [] := by
  refine c_of_w2 (n := 19) Try.func93 rfl rfl rfl (by rfl) fun E => ?_
  repeat' (first
    | with_reducible refine w_seq ?_
    | with_reducible refine thenP_n ?_
    | with_reducible refine thenP_x ?_
    | with_reducible refine thenP_r ?_
    | with_reducible refine blockP_n ?_
    | with_reducible refine blockP_r ?_
    | with_reducible refine blockP_eq ?_
    | with_reducible refine blockP_ne (by rfl) ?_
    | with_reducible refine w_skip ?_
    | with_reducible refine w_ret ?_
    | with_reducible refine w_exit ?_
    | with_reducible refine w_block ?_
    | refine w_cond_true rfl ?_
    | refine w_cond_false rfl ?_
    | (refine w_cond_dec rfl (fun _ => ?_) (fun _ => ?_) <;> try (exfalso; omega))
    | (refine w_cond_ndec rfl (fun _ => ?_) (fun _ => ?_) <;> try (exfalso; omega))
    | refine w_cond_not rfl (fun _ => ?_) (fun _ => ?_)
    | refine w_cond rfl (fun _ => ?_) (fun _ => ?_)
    | ((with_reducible refine w_region (id := 0) ?_); (first | (refine wl_pure rfl rfl (pvm_assign_i rfl) ?_) | (refine wl_pure rfl rfl pv_assign ?_)); refine wl_nil ?_)
    | ((with_reducible refine w_region (id := 1) ?_); (first | (refine wl_pure rfl rfl (pvm_move_s rfl) ?_) | (refine wl_pure rfl rfl pv_move ?_)); refine wl_pure rfl rfl (pv_len_slice Fa.sl_22 rfl) ?_; (first | (refine wl_pure rfl rfl (pvm_move_i rfl) ?_) | (refine wl_pure rfl rfl pv_move ?_)); refine wl_nil ?_)
    | ((with_reducible refine w_region (id := 2) ?_); refine wl_pure rfl rfl (pv_lss rfl rfl) ?_; refine wl_nil ?_)
    | ((with_reducible refine w_region (id := 3) ?_); (first | (refine wl_pure rfl rfl (pvm_move_i rfl) ?_) | (refine wl_pure rfl rfl pv_move ?_)); (first | (refine wl_pure rfl rfl (pvm_assign_i rfl) ?_) | (refine wl_pure rfl rfl pv_assign ?_)); refine wl_nil ?_)
    | ((with_reducible refine w_region (id := 4) ?_); (first | (refine wl_pure rfl rfl (pvm_move_f rfl) ?_) | (refine wl_pure rfl rfl pv_move ?_)); (first | (refine wl_pure rfl rfl (pvm_move_s rfl) ?_) | (refine wl_pure rfl rfl pv_move ?_)); (first | (refine wl_pure rfl rfl (pvm_move_i rfl) ?_) | (refine wl_pure rfl rfl pv_move ?_)); refine wl_pure rfl rfl (pv_indexAddr1 Fa.sl_22 rfl rfl (by omega) (by omega)) ?_; (first | (refine wl_do rfl rfl (opw_load Fa.one_5 rfl (Has.own 0 0 rfl rfl) ?_)) | (refine wl_do rfl rfl (opw_load Fa.one_5 rfl (Has.own 1 0 rfl rfl) ?_)) | (refine wl_do rfl rfl (opw_load Fa.one_5 rfl (Has.own 2 0 rfl rfl) ?_)) | (refine wl_do rfl rfl (opw_load Fa.one_5 rfl (Has.own 3 0 rfl rfl) ?_)) | (refine wl_do rfl rfl (opw_load Fa.one_5 rfl (Has.own 0 1 rfl rfl) ?_)) | (refine wl_do rfl rfl (opw_load Fa.one_5 rfl (Has.own 1 1 rfl rfl) ?_)) | (refine wl_do rfl rfl (opw_load Fa.one_5 rfl (Has.own 4 0 rfl rfl) ?_)) | (refine wl_do rfl rfl (opw_load Fa.one_5 rfl (Has.own 2 1 rfl rfl) ?_)) | (refine wl_do rfl rfl (opw_load Fa.one_5 rfl (Has.own 5 0 rfl rfl) ?_))); fail "no way: call"; refine wl_nil ?_)
    | ((with_reducible refine w_region (id := 5) ?_); (first | (refine wl_pure rfl rfl (pvm_move_i rfl) ?_) | (refine wl_pure rfl rfl pv_move ?_)); (first | (refine wl_pure rfl rfl (pvm_assign_i rfl) ?_) | (refine wl_pure rfl rfl pv_assign ?_)); refine wl_nil ?_)
    | ((with_reducible refine w_region (id := 6) ?_); (first | (refine wl_pure rfl rfl (pv_iadd rfl rfl (by omega)) ?_) | (refine wl_pure rfl rfl (pv_add rfl rfl) ?_)); (first | (refine wl_pure rfl rfl (pvm_move_i rfl) ?_) | (refine wl_pure rfl rfl pv_move ?_)); refine wl_nil ?_)
    | ((with_reducible refine w_region (id := 7) ?_); (first | (refine wl_pure rfl rfl (pvm_assign_i rfl) ?_) | (refine wl_pure rfl rfl pv_assign ?_)); refine wl_nil ?_))
  refine w_loop2 (ι := Nat) (fun i ρ ro' own => i ≤ xs.length ∧ Kn [(0, .slice a xs.length c), (1, .func (.func fn) #[] #[]), (7, .int .i64 xs.length), (8, .int .i64 i)] ρ ∧ ro' = ro ∧ own = [] ∧ (xs.take i).any p = false) (fun i => xs.length - i) 0 ⟨Nat.zero_le _, ⟨rfl, rfl, rfl, rfl, trivial⟩, rfl, rfl, rfl⟩ ?_
  rintro i ρ ro' own ⟨hi, hk, rfl, rfl, hany⟩
  obtain ⟨ρ', rfl⟩ := hk.ex
  by_cases hlt : i < xs.length
  · obtain ⟨b, off, rfl, hhas⟩ := hs.addr (by omega)
    have hx : xs[i]? = some (xs[i]'hlt) := List.getElem?_eq_getElem hlt
    have htk : xs.take (i + 1) = xs.take i ++ [xs[i]'hlt] := by rw [List.take_succ_eq_append_getElem hlt]
    repeat' (first
        | with_reducible refine w_seq ?_
        | with_reducible refine thenP_n ?_
        | with_reducible refine thenP_x ?_
        | with_reducible refine thenP_r ?_
        | with_reducible refine blockP_n ?_
        | with_reducible refine blockP_r ?_
        | with_reducible refine blockP_eq ?_
        | with_reducible refine blockP_ne (by rfl) ?_
        | with_reducible refine w_skip ?_
        | with_reducible refine w_ret ?_
        | with_reducible refine w_exit ?_
        | with_reducible refine w_block ?_
        | refine w_cond_true rfl ?_
        | refine w_cond_false rfl ?_
        | (refine w_cond_dec rfl (fun _ => ?_) (fun _ => ?_) <;> try (exfalso; omega))
        | (refine w_cond_ndec rfl (fun _ => ?_) (fun _ => ?_) <;> try (exfalso; omega))
        | refine w_cond_not rfl (fun _ => ?_) (fun _ => ?_)
        | refine w_cond rfl (fun _ => ?_) (fun _ => ?_)
        | ((with_reducible refine w_region (id := 0) ?_); (first | (refine wl_pure rfl rfl (pvm_assign_i rfl) ?_) | (refine wl_pure rfl rfl pv_assign ?_)); refine wl_nil ?_)
        | ((with_reducible refine w_region (id := 1) ?_); (first | (refine wl_pure rfl rfl (pvm_move_s rfl) ?_) | (refine wl_pure rfl rfl pv_move ?_)); refine wl_pure rfl rfl (pv_len_slice Fa.sl_22 rfl) ?_; (first | (refine wl_pure rfl rfl (pvm_move_i rfl) ?_) | (refine wl_pure rfl rfl pv_move ?_)); refine wl_nil ?_)
        | ((with_reducible refine w_region (id := 2) ?_); refine wl_pure rfl rfl (pv_lss rfl rfl) ?_; refine wl_nil ?_)
        | ((with_reducible refine w_region (id := 3) ?_); (first | (refine wl_pure rfl rfl (pvm_move_i rfl) ?_) | (refine wl_pure rfl rfl pv_move ?_)); (first | (refine wl_pure rfl rfl (pvm_assign_i rfl) ?_) | (refine wl_pure rfl rfl pv_assign ?_)); refine wl_nil ?_)
        | ((with_reducible refine w_region (id := 4) ?_); (first | (refine wl_pure rfl rfl (pvm_move_f rfl) ?_) | (refine wl_pure rfl rfl pv_move ?_)); (first | (refine wl_pure rfl rfl (pvm_move_s rfl) ?_) | (refine wl_pure rfl rfl pv_move ?_)); (first | (refine wl_pure rfl rfl (pvm_move_i rfl) ?_) | (refine wl_pure rfl rfl pv_move ?_)); refine wl_pure rfl rfl (pv_indexAddr1 Fa.sl_22 rfl rfl (by omega) (by omega)) ?_; (first | (refine wl_do rfl rfl (opw_load Fa.one_5 rfl (hhas _ _ _ hx) ?_)) | (refine wl_do rfl rfl (opw_load Fa.one_5 rfl (Has.own 0 0 rfl rfl) ?_)) | (refine wl_do rfl rfl (opw_load Fa.one_5 rfl (Has.own 1 0 rfl rfl) ?_)) | (refine wl_do rfl rfl (opw_load Fa.one_5 rfl (Has.own 2 0 rfl rfl) ?_)) | (refine wl_do rfl rfl (opw_load Fa.one_5 rfl (Has.own 3 0 rfl rfl) ?_)) | (refine wl_do rfl rfl (opw_load Fa.one_5 rfl (Has.own 0 1 rfl rfl) ?_)) | (refine wl_do rfl rfl (opw_load Fa.one_5 rfl (Has.own 1 1 rfl rfl) ?_)) | (refine wl_do rfl rfl (opw_load Fa.one_5 rfl (Has.own 4 0 rfl rfl) ?_)) | (refine wl_do rfl rfl (opw_load Fa.one_5 rfl (Has.own 2 1 rfl rfl) ?_)) | (refine wl_do rfl rfl (opw_load Fa.one_5 rfl (Has.own 5 0 rfl rfl) ?_))); refine wl_do rfl rfl (opw_callv rfl hca rfl [] (hp _ _) RoOk.self (fun v own h => ?_)); obtain ⟨rfl, rfl⟩ := h; refine wl_nil ?_)
        | ((with_reducible refine w_region (id := 5) ?_); (first | (refine wl_pure rfl rfl (pvm_move_i rfl) ?_) | (refine wl_pure rfl rfl pv_move ?_)); (first | (refine wl_pure rfl rfl (pvm_assign_i rfl) ?_) | (refine wl_pure rfl rfl pv_assign ?_)); refine wl_nil ?_)
        | ((with_reducible refine w_region (id := 6) ?_); (first | (refine wl_pure rfl rfl (pv_iadd rfl rfl (by omega)) ?_) | (refine wl_pure rfl rfl (pv_add rfl rfl) ?_)); (first | (refine wl_pure rfl rfl (pvm_move_i rfl) ?_) | (refine wl_pure rfl rfl pv_move ?_)); refine wl_nil ?_)
        | ((with_reducible refine w_region (id := 7) ?_); (first | (refine wl_pure rfl rfl (pvm_assign_i rfl) ?_) | (refine wl_pure rfl rfl pv_assign ?_)); refine wl_nil ?_))
    · refine ret_r (v := .int .i64 _) rfl ⟨⟨i, rfl, ?_⟩, rfl⟩
      refine ⟨fun _ => List.any_eq_true.2 ⟨xs[i]'hlt, List.getElem_mem hlt, ‹_›⟩, fun _ => by omega⟩
    · refine ⟨i + 1, [], Sub.refl, ⟨by omega, ⟨rfl, rfl, rfl, rfl, trivial⟩, rfl, rfl, ?_⟩, by omega⟩
      rw [htk, List.any_append, hany]; simp; assumption
  · repeat' (first
        | with_reducible refine w_seq ?_
        | with_reducible refine thenP_n ?_
        | with_reducible refine thenP_x ?_
        | with_reducible refine thenP_r ?_
        | with_reducible refine blockP_n ?_
        | with_reducible refine blockP_r ?_
        | with_reducible refine blockP_eq ?_
        | with_reducible refine blockP_ne (by rfl) ?_
        | with_reducible refine w_skip ?_
        | with_reducible refine w_ret ?_
        | with_reducible refine w_exit ?_
        | with_reducible refine w_block ?_
        | refine w_cond_true rfl ?_
        | refine w_cond_false rfl ?_
        | (refine w_cond_dec rfl (fun _ => ?_) (fun _ => ?_) <;> try (exfalso; omega))
        | (refine w_cond_ndec rfl (fun _ => ?_) (fun _ => ?_) <;> try (exfalso; omega))
        | refine w_cond_not rfl (fun _ => ?_) (fun _ => ?_)
        | refine w_cond rfl (fun _ => ?_) (fun _ => ?_)
        | ((with_reducible refine w_region (id := 0) ?_); (first | (refine wl_pure rfl rfl (pvm_assign_i rfl) ?_) | (refine wl_pure rfl rfl pv_assign ?_)); refine wl_nil ?_)
        | ((with_reducible refine w_region (id := 1) ?_); (first | (refine wl_pure rfl rfl (pvm_move_s rfl) ?_) | (refine wl_pure rfl rfl pv_move ?_)); refine wl_pure rfl rfl (pv_len_slice Fa.sl_22 rfl) ?_; (first | (refine wl_pure rfl rfl (pvm_move_i rfl) ?_) | (refine wl_pure rfl rfl pv_move ?_)); refine wl_nil ?_)
        | ((with_reducible refine w_region (id := 2) ?_); refine wl_pure rfl rfl (pv_lss rfl rfl) ?_; refine wl_nil ?_)
        | ((with_reducible refine w_region (id := 3) ?_); (first | (refine wl_pure rfl rfl (pvm_move_i rfl) ?_) | (refine wl_pure rfl rfl pv_move ?_)); (first | (refine wl_pure rfl rfl (pvm_assign_i rfl) ?_) | (refine wl_pure rfl rfl pv_assign ?_)); refine wl_nil ?_)
        | ((with_reducible refine w_region (id := 4) ?_); (first | (refine wl_pure rfl rfl (pvm_move_f rfl) ?_) | (refine wl_pure rfl rfl pv_move ?_)); (first | (refine wl_pure rfl rfl (pvm_move_s rfl) ?_) | (refine wl_pure rfl rfl pv_move ?_)); (first | (refine wl_pure rfl rfl (pvm_move_i rfl) ?_) | (refine wl_pure rfl rfl pv_move ?_)); refine wl_pure rfl rfl (pv_indexAddr1 Fa.sl_22 rfl rfl (by omega) (by omega)) ?_; (first | (refine wl_do rfl rfl (opw_load Fa.one_5 rfl (Has.own 0 0 rfl rfl) ?_)) | (refine wl_do rfl rfl (opw_load Fa.one_5 rfl (Has.own 1 0 rfl rfl) ?_)) | (refine wl_do rfl rfl (opw_load Fa.one_5 rfl (Has.own 2 0 rfl rfl) ?_)) | (refine wl_do rfl rfl (opw_load Fa.one_5 rfl (Has.own 3 0 rfl rfl) ?_)) | (refine wl_do rfl rfl (opw_load Fa.one_5 rfl (Has.own 0 1 rfl rfl) ?_)) | (refine wl_do rfl rfl (opw_load Fa.one_5 rfl (Has.own 1 1 rfl rfl) ?_)) | (refine wl_do rfl rfl (opw_load Fa.one_5 rfl (Has.own 4 0 rfl rfl) ?_)) | (refine wl_do rfl rfl (opw_load Fa.one_5 rfl (Has.own 2 1 rfl rfl) ?_)) | (refine wl_do rfl rfl (opw_load Fa.one_5 rfl (Has.own 5 0 rfl rfl) ?_))); fail "no way: call"; refine wl_nil ?_)
        | ((with_reducible refine w_region (id := 5) ?_); (first | (refine wl_pure rfl rfl (pvm_move_i rfl) ?_) | (refine wl_pure rfl rfl pv_move ?_)); (first | (refine wl_pure rfl rfl (pvm_assign_i rfl) ?_) | (refine wl_pure rfl rfl pv_assign ?_)); refine wl_nil ?_)
        | ((with_reducible refine w_region (id := 6) ?_); (first | (refine wl_pure rfl rfl (pv_iadd rfl rfl (by omega)) ?_) | (refine wl_pure rfl rfl (pv_add rfl rfl) ?_)); (first | (refine wl_pure rfl rfl (pvm_move_i rfl) ?_) | (refine wl_pure rfl rfl pv_move ?_)); refine wl_nil ?_)
        | ((with_reducible refine w_region (id := 7) ?_); (first | (refine wl_pure rfl rfl (pvm_assign_i rfl) ?_) | (refine wl_pure rfl rfl pv_assign ?_)); refine wl_nil ?_))
    refine ret_r (v := .int .i64 _) rfl ⟨⟨-1, rfl, ?_⟩, rfl⟩
    rw [List.take_of_length_le (by omega)] at hany
    rw [hany]; simp
theorem containsFunc8_c (fn : Nat) (p : BitVec 8 → Bool) (hp : ∀ x ro, C Try.prog fn #[v8 x] ro [] fun v own => v = .bool (p x) ∧ own = []) (hca : callable Try.prog fn = true) (a : Option Addr) (c : Nat) (xs : List (BitVec 8)) (hl : xs.length ≤ 1000000) (ro : RO) (hs : SlR v8 (.slice a xs.length c) xs ro) :
    C Try.prog 80 #[.slice a xs.length c, .func (.func fn) #[] #[]] ro [] fun v own => v = .bool (xs.any p) ∧ own = [] := by
  refine c_of_w2 (n := 9) Try.func80 rfl rfl rfl (by rfl) fun E => ?_
  repeat' (first
    | with_reducible refine w_seq ?_
    | with_reducible refine thenP_n ?_
    | with_reducible refine thenP_x ?_
    | with_reducible refine thenP_r ?_
    | with_reducible refine blockP_n ?_
    | with_reducible refine blockP_r ?_
    | with_reducible refine blockP_eq ?_
    | with_reducible refine blockP_ne (by rfl) ?_
    | with_reducible refine w_skip ?_
    | with_reducible refine w_ret ?_
    | with_reducible refine w_exit ?_
    | with_reducible refine w_block ?_
    | refine w_cond_true rfl ?_
    | refine w_cond_false rfl ?_
    | (refine w_cond_dec rfl (fun _ => ?_) (fun _ => ?_) <;> try (exfalso; omega))
    | (refine w_cond_ndec rfl (fun _ => ?_) (fun _ => ?_) <;> try (exfalso; omega))
    | refine w_cond_not rfl (fun _ => ?_) (fun _ => ?_)
    | refine w_cond rfl (fun _ => ?_) (fun _ => ?_)
    | ((with_reducible refine w_region (id := 0) ?_); (first | (refine wl_pure rfl rfl (pvm_assign_b rfl) ?_) | (refine wl_pure rfl rfl pv_assign ?_)); refine wl_nil ?_)
    | ((with_reducible refine w_region (id := 1) ?_); (first | (refine wl_pure rfl rfl (pvm_move_s rfl) ?_) | (refine wl_pure rfl rfl pv_move ?_)); (first | (refine wl_pure rfl rfl (pvm_move_f rfl) ?_) | (refine wl_pure rfl rfl pv_move ?_)); refine wl_do rfl rfl (opw_call Fa.ca_93 rfl [] (indexFunc8_c fn p hp hca a c xs hl ro hs) RoOk.self (fun v own h => ?_)); obtain ⟨⟨k, rfl, hk⟩, rfl⟩ := h; refine wl_pure rfl rfl (pv_geq rfl rfl) ?_; (first | (refine wl_pure rfl rfl (pvm_assign_b rfl) ?_) | (refine wl_pure rfl rfl pv_assign ?_)); refine wl_nil ?_))
  refine ret_r (v := .bool _) rfl ⟨?_, rfl⟩
  congr 1
  rw [Bool.eq_iff_iff, decide_eq_true_iff]
  exact hk
theorem equal8_c (a a' : Option Addr) (c c' : Nat) (xs ys : List (BitVec 8)) (hl : xs.length ≤ 1000000) (hl' : ys.length ≤ 1000000) (ro : RO) (hs : SlR v8 (.slice a xs.length c) xs ro) (hs' : SlR v8 (.slice a' ys.length c') ys ro) :
    C Try.prog 41 #[.slice a xs.length c, .slice a' ys.length c'] ro [] fun v own => v = .bool (decide (xs = ys)) ∧ own = [] := by
  by_cases hle : xs.length = ys.length
  · refine c_of_w2 (n := 26) Try.func41 rfl rfl rfl (by rfl) fun E => ?_
    repeat' (first
        | with_reducible refine w_seq ?_
        | with_reducible refine thenP_n ?_
        | with_reducible refine thenP_x ?_
        | with_reducible refine thenP_r ?_
        | with_reducible refine blockP_n ?_
        | with_reducible refine blockP_r ?_
        | with_reducible refine blockP_eq ?_
        | with_reducible refine blockP_ne (by rfl) ?_
        | with_reducible refine w_skip ?_
        | with_reducible refine w_ret ?_
        | with_reducible refine w_exit ?_
        | with_reducible refine w_block ?_
        | refine w_cond_true rfl ?_
        | refine w_cond_false rfl ?_
        | (refine w_cond_dec rfl (fun _ => ?_) (fun _ => ?_) <;> try (exfalso; omega))
        | (refine w_cond_ndec rfl (fun _ => ?_) (fun _ => ?_) <;> try (exfalso; omega))
        | refine w_cond_not rfl (fun _ => ?_) (fun _ => ?_)
        | refine w_cond rfl (fun _ => ?_) (fun _ => ?_)
        | ((with_reducible refine w_region (id := 0) ?_); (first | (refine wl_pure rfl rfl (pvm_assign_b rfl) ?_) | (refine wl_pure rfl rfl pv_assign ?_)); refine wl_nil ?_)
        | ((with_reducible refine w_region (id := 1) ?_); (first | (refine wl_pure rfl rfl (pvm_move_s rfl) ?_) | (refine wl_pure rfl rfl pv_move ?_)); refine wl_pure rfl rfl (pv_len_slice Fa.sl_22 rfl) ?_; (first | (refine wl_pure rfl rfl (pvm_move_s rfl) ?_) | (refine wl_pure rfl rfl pv_move ?_)); refine wl_pure rfl rfl (pv_len_slice Fa.sl_22 rfl) ?_; refine wl_pure rfl rfl (pv_neq rfl rfl) ?_; refine wl_nil ?_)
        | ((with_reducible refine w_region (id := 2) ?_); (first | (refine wl_pure rfl rfl (pvm_assign_b rfl) ?_) | (refine wl_pure rfl rfl pv_assign ?_)); refine wl_nil ?_)
        | ((with_reducible refine w_region (id := 3) ?_); (first | (refine wl_pure rfl rfl (pvm_move_s rfl) ?_) | (refine wl_pure rfl rfl pv_move ?_)); refine wl_pure rfl rfl (pv_len_slice Fa.sl_22 rfl) ?_; (first | (refine wl_pure rfl rfl (pvm_move_i rfl) ?_) | (refine wl_pure rfl rfl pv_move ?_)); refine wl_nil ?_)
        | ((with_reducible refine w_region (id := 4) ?_); refine wl_pure rfl rfl (pv_lss rfl rfl) ?_; refine wl_nil ?_)
        | ((with_reducible refine w_region (id := 5) ?_); (first | (refine wl_pure rfl rfl (pvm_move_i rfl) ?_) | (refine wl_pure rfl rfl pv_move ?_)); (first | (refine wl_pure rfl rfl (pvm_assign_i rfl) ?_) | (refine wl_pure rfl rfl pv_assign ?_)); refine wl_nil ?_)
        | (refine w_draw (id := 6) [] (hold []) Fa.mixed (hold_ok (by simp)) ?_; (first | (refine wh_pure 0 rfl (by kernel_rfl) rfl rfl (pvm_move_s rfl) ?_) | (refine wh_pure 0 rfl (by kernel_rfl) rfl rfl pv_move ?_)); (first | (refine wh_pure 1 rfl (by kernel_rfl) rfl rfl (pvm_move_i rfl) ?_) | (refine wh_pure 1 rfl (by kernel_rfl) rfl rfl pv_move ?_)); refine wh_pure 2 rfl (by kernel_rfl) rfl rfl (pv_indexAddr1 Fa.sl_22 rfl rfl (by omega) (by omega)) ?_; (first | (refine wh_load 3 rfl (by kernel_rfl) rfl rfl Fa.one_5 rfl (Has.hold 0 rfl rfl) ?_) | (refine wh_load 3 rfl (by kernel_rfl) rfl rfl Fa.one_5 rfl (Has.hold 1 rfl rfl) ?_) | (refine wh_load 3 rfl (by kernel_rfl) rfl rfl Fa.one_5 rfl (Has.hold 2 rfl rfl) ?_) | (refine wh_load 3 rfl (by kernel_rfl) rfl rfl Fa.one_5 rfl (Has.hold 3 rfl rfl) ?_)); (first | (refine wh_pure 4 rfl (by kernel_rfl) rfl rfl (pvm_move_s rfl) ?_) | (refine wh_pure 4 rfl (by kernel_rfl) rfl rfl pv_move ?_)); (first | (refine wh_pure 5 rfl (by kernel_rfl) rfl rfl (pvm_move_i rfl) ?_) | (refine wh_pure 5 rfl (by kernel_rfl) rfl rfl pv_move ?_)); refine wh_pure 6 rfl (by kernel_rfl) rfl rfl (pv_indexAddr1 Fa.sl_22 rfl rfl (by omega) (by omega)) ?_; (first | (refine wh_load 7 rfl (by kernel_rfl) rfl rfl Fa.one_5 rfl (Has.hold 0 rfl rfl) ?_) | (refine wh_load 7 rfl (by kernel_rfl) rfl rfl Fa.one_5 rfl (Has.hold 1 rfl rfl) ?_) | (refine wh_load 7 rfl (by kernel_rfl) rfl rfl Fa.one_5 rfl (Has.hold 2 rfl rfl) ?_) | (refine wh_load 7 rfl (by kernel_rfl) rfl rfl Fa.one_5 rfl (Has.hold 3 rfl rfl) ?_)); refine wh_pure 8 rfl (by kernel_rfl) rfl rfl (pv8_neq rfl rfl) ?_; first | (refine wh_done (by kernel_rfl) ?_) | (refine wz_done (by kernel_rfl) ?_))
        | ((with_reducible refine w_region (id := 7) ?_); (first | (refine wl_pure rfl rfl (pvm_assign_b rfl) ?_) | (refine wl_pure rfl rfl pv_assign ?_)); refine wl_nil ?_)
        | ((with_reducible refine w_region (id := 8) ?_); (first | (refine wl_pure rfl rfl (pv_iadd rfl rfl (by omega)) ?_) | (refine wl_pure rfl rfl (pv_add rfl rfl) ?_)); (first | (refine wl_pure rfl rfl (pvm_move_i rfl) ?_) | (refine wl_pure rfl rfl pv_move ?_)); refine wl_nil ?_)
        | ((with_reducible refine w_region (id := 9) ?_); (first | (refine wl_pure rfl rfl (pvm_assign_b rfl) ?_) | (refine wl_pure rfl rfl pv_assign ?_)); refine wl_nil ?_))
    refine w_loop2 (ι := Nat) (fun i ρ ro' own => i ≤ xs.length ∧ Kn [(0, .slice a xs.length c), (1, .slice a' ys.length c'), (12, .int .i64 xs.length), (13, .int .i64 i)] ρ ∧ ro' = ro ∧ own = [] ∧ xs.take i = ys.take i) (fun i => xs.length - i) 0 ⟨Nat.zero_le _, ⟨rfl, rfl, rfl, rfl, trivial⟩, rfl, rfl, rfl⟩ ?_
    rintro i ρ ro' own ⟨hi, hk, rfl, rfl, heq⟩
    obtain ⟨ρ', rfl⟩ := hk.ex
    by_cases hlt : i < xs.length
    · obtain ⟨b, off, rfl, hhas⟩ := hs.addr (by omega)
      obtain ⟨b', off', rfl, hhas'⟩ := hs'.addr (by omega)
      have hx : xs[i]? = some (xs[i]'hlt) := List.getElem?_eq_getElem hlt
      have hx' : ys[i]? = some (ys[i]'(by omega)) := List.getElem?_eq_getElem _
      repeat' (first
          | with_reducible refine w_seq ?_
          | with_reducible refine thenP_n ?_
          | with_reducible refine thenP_x ?_
          | with_reducible refine thenP_r ?_
          | with_reducible refine blockP_n ?_
          | with_reducible refine blockP_r ?_
          | with_reducible refine blockP_eq ?_
          | with_reducible refine blockP_ne (by rfl) ?_
          | with_reducible refine w_skip ?_
          | with_reducible refine w_ret ?_
          | with_reducible refine w_exit ?_
          | with_reducible refine w_block ?_
          | refine w_cond_true rfl ?_
          | refine w_cond_false rfl ?_
          | (refine w_cond_dec rfl (fun _ => ?_) (fun _ => ?_) <;> try (exfalso; omega))
          | (refine w_cond_ndec rfl (fun _ => ?_) (fun _ => ?_) <;> try (exfalso; omega))
          | refine w_cond_not rfl (fun _ => ?_) (fun _ => ?_)
          | refine w_cond rfl (fun _ => ?_) (fun _ => ?_)
          | ((with_reducible refine w_region (id := 0) ?_); (first | (refine wl_pure rfl rfl (pvm_assign_b rfl) ?_) | (refine wl_pure rfl rfl pv_assign ?_)); refine wl_nil ?_)
          | ((with_reducible refine w_region (id := 1) ?_); (first | (refine wl_pure rfl rfl (pvm_move_s rfl) ?_) | (refine wl_pure rfl rfl pv_move ?_)); refine wl_pure rfl rfl (pv_len_slice Fa.sl_22 rfl) ?_; (first | (refine wl_pure rfl rfl (pvm_move_s rfl) ?_) | (refine wl_pure rfl rfl pv_move ?_)); refine wl_pure rfl rfl (pv_len_slice Fa.sl_22 rfl) ?_; refine wl_pure rfl rfl (pv_neq rfl rfl) ?_; refine wl_nil ?_)
          | ((with_reducible refine w_region (id := 2) ?_); (first | (refine wl_pure rfl rfl (pvm_assign_b rfl) ?_) | (refine wl_pure rfl rfl pv_assign ?_)); refine wl_nil ?_)
          | ((with_reducible refine w_region (id := 3) ?_); (first | (refine wl_pure rfl rfl (pvm_move_s rfl) ?_) | (refine wl_pure rfl rfl pv_move ?_)); refine wl_pure rfl rfl (pv_len_slice Fa.sl_22 rfl) ?_; (first | (refine wl_pure rfl rfl (pvm_move_i rfl) ?_) | (refine wl_pure rfl rfl pv_move ?_)); refine wl_nil ?_)
          | ((with_reducible refine w_region (id := 4) ?_); refine wl_pure rfl rfl (pv_lss rfl rfl) ?_; refine wl_nil ?_)
          | ((with_reducible refine w_region (id := 5) ?_); (first | (refine wl_pure rfl rfl (pvm_move_i rfl) ?_) | (refine wl_pure rfl rfl pv_move ?_)); (first | (refine wl_pure rfl rfl (pvm_assign_i rfl) ?_) | (refine wl_pure rfl rfl pv_assign ?_)); refine wl_nil ?_)
          | (refine w_draw (id := 6) [] (ro') Fa.mixed RoOk.self ?_; (first | (refine wh_pure 0 rfl (by kernel_rfl) rfl rfl (pvm_move_s rfl) ?_) | (refine wh_pure 0 rfl (by kernel_rfl) rfl rfl pv_move ?_)); (first | (refine wh_pure 1 rfl (by kernel_rfl) rfl rfl (pvm_move_i rfl) ?_) | (refine wh_pure 1 rfl (by kernel_rfl) rfl rfl pv_move ?_)); refine wh_pure 2 rfl (by kernel_rfl) rfl rfl (pv_indexAddr1 Fa.sl_22 rfl rfl (by omega) (by omega)) ?_; (first | (refine wh_load 3 rfl (by kernel_rfl) rfl rfl Fa.one_5 rfl (hhas _ _ _ hx) ?_) | (refine wh_load 3 rfl (by kernel_rfl) rfl rfl Fa.one_5 rfl (hhas' _ _ _ hx') ?_) | (refine wh_load 3 rfl (by kernel_rfl) rfl rfl Fa.one_5 rfl (Has.hold 0 rfl rfl) ?_) | (refine wh_load 3 rfl (by kernel_rfl) rfl rfl Fa.one_5 rfl (Has.hold 1 rfl rfl) ?_) | (refine wh_load 3 rfl (by kernel_rfl) rfl rfl Fa.one_5 rfl (Has.hold 2 rfl rfl) ?_) | (refine wh_load 3 rfl (by kernel_rfl) rfl rfl Fa.one_5 rfl (Has.hold 3 rfl rfl) ?_)); (first | (refine wh_pure 4 rfl (by kernel_rfl) rfl rfl (pvm_move_s rfl) ?_) | (refine wh_pure 4 rfl (by kernel_rfl) rfl rfl pv_move ?_)); (first | (refine wh_pure 5 rfl (by kernel_rfl) rfl rfl (pvm_move_i rfl) ?_) | (refine wh_pure 5 rfl (by kernel_rfl) rfl rfl pv_move ?_)); refine wh_pure 6 rfl (by kernel_rfl) rfl rfl (pv_indexAddr1 Fa.sl_22 rfl rfl (by omega) (by omega)) ?_; (first | (refine wh_load 7 rfl (by kernel_rfl) rfl rfl Fa.one_5 rfl (hhas _ _ _ hx) ?_) | (refine wh_load 7 rfl (by kernel_rfl) rfl rfl Fa.one_5 rfl (hhas' _ _ _ hx') ?_) | (refine wh_load 7 rfl (by kernel_rfl) rfl rfl Fa.one_5 rfl (Has.hold 0 rfl rfl) ?_) | (refine wh_load 7 rfl (by kernel_rfl) rfl rfl Fa.one_5 rfl (Has.hold 1 rfl rfl) ?_) | (refine wh_load 7 rfl (by kernel_rfl) rfl rfl Fa.one_5 rfl (Has.hold 2 rfl rfl) ?_) | (refine wh_load 7 rfl (by kernel_rfl) rfl rfl Fa.one_5 rfl (Has.hold 3 rfl rfl) ?_)); refine wh_pure 8 rfl (by kernel_rfl) rfl rfl (pv8_neq rfl rfl) ?_; first | (refine wh_done (by kernel_rfl) ?_) | (refine wz_done (by kernel_rfl) ?_))
          | ((with_reducible refine w_region (id := 7) ?_); (first | (refine wl_pure rfl rfl (pvm_assign_b rfl) ?_) | (refine wl_pure rfl rfl pv_assign ?_)); refine wl_nil ?_)
          | ((with_reducible refine w_region (id := 8) ?_); (first | (refine wl_pure rfl rfl (pv_iadd rfl rfl (by omega)) ?_) | (refine wl_pure rfl rfl (pv_add rfl rfl) ?_)); (first | (refine wl_pure rfl rfl (pvm_move_i rfl) ?_) | (refine wl_pure rfl rfl pv_move ?_)); refine wl_nil ?_)
          | ((with_reducible refine w_region (id := 9) ?_); (first | (refine wl_pure rfl rfl (pvm_assign_b rfl) ?_) | (refine wl_pure rfl rfl pv_assign ?_)); refine wl_nil ?_))
      · refine ret_r (v := .bool _) rfl ⟨?_, rfl⟩
        have hne : xs[i] ≠ ys[i] := ‹_›
        rw [decide_eq_false (fun h => hne (by subst h; rfl))]
      · have hne : ¬ xs[i] ≠ ys[i] := ‹_›
        refine ⟨i + 1, [], Sub.refl, ⟨by omega, ⟨rfl, rfl, rfl, rfl, trivial⟩, rfl, rfl, ?_⟩, by omega⟩
        rw [List.take_succ_eq_append_getElem hlt, List.take_succ_eq_append_getElem (by omega), heq, Decidable.not_not.1 hne]
    · repeat' (first
          | with_reducible refine w_seq ?_
          | with_reducible refine thenP_n ?_
          | with_reducible refine thenP_x ?_
          | with_reducible refine thenP_r ?_
          | with_reducible refine blockP_n ?_
          | with_reducible refine blockP_r ?_
          | with_reducible refine blockP_eq ?_
          | with_reducible refine blockP_ne (by rfl) ?_
          | with_reducible refine w_skip ?_
          | with_reducible refine w_ret ?_
          | with_reducible refine w_exit ?_
          | with_reducible refine w_block ?_
          | refine w_cond_true rfl ?_
          | refine w_cond_false rfl ?_
          | (refine w_cond_dec rfl (fun _ => ?_) (fun _ => ?_) <;> try (exfalso; omega))
          | (refine w_cond_ndec rfl (fun _ => ?_) (fun _ => ?_) <;> try (exfalso; omega))
          | refine w_cond_not rfl (fun _ => ?_) (fun _ => ?_)
          | refine w_cond rfl (fun _ => ?_) (fun _ => ?_)
          | ((with_reducible refine w_region (id := 0) ?_); (first | (refine wl_pure rfl rfl (pvm_assign_b rfl) ?_) | (refine wl_pure rfl rfl pv_assign ?_)); refine wl_nil ?_)
          | ((with_reducible refine w_region (id := 1) ?_); (first | (refine wl_pure rfl rfl (pvm_move_s rfl) ?_) | (refine wl_pure rfl rfl pv_move ?_)); refine wl_pure rfl rfl (pv_len_slice Fa.sl_22 rfl) ?_; (first | (refine wl_pure rfl rfl (pvm_move_s rfl) ?_) | (refine wl_pure rfl rfl pv_move ?_)); refine wl_pure rfl rfl (pv_len_slice Fa.sl_22 rfl) ?_; refine wl_pure rfl rfl (pv_neq rfl rfl) ?_; refine wl_nil ?_)
          | ((with_reducible refine w_region (id := 2) ?_); (first | (refine wl_pure rfl rfl (pvm_assign_b rfl) ?_) | (refine wl_pure rfl rfl pv_assign ?_)); refine wl_nil ?_)
          | ((with_reducible refine w_region (id := 3) ?_); (first | (refine wl_pure rfl rfl (pvm_move_s rfl) ?_) | (refine wl_pure rfl rfl pv_move ?_)); refine wl_pure rfl rfl (pv_len_slice Fa.sl_22 rfl) ?_; (first | (refine wl_pure rfl rfl (pvm_move_i rfl) ?_) | (refine wl_pure rfl rfl pv_move ?_)); refine wl_nil ?_)
          | ((with_reducible refine w_region (id := 4) ?_); refine wl_pure rfl rfl (pv_lss rfl rfl) ?_; refine wl_nil ?_)
          | ((with_reducible refine w_region (id := 5) ?_); (first | (refine wl_pure rfl rfl (pvm_move_i rfl) ?_) | (refine wl_pure rfl rfl pv_move ?_)); (first | (refine wl_pure rfl rfl (pvm_assign_i rfl) ?_) | (refine wl_pure rfl rfl pv_assign ?_)); refine wl_nil ?_)
          | (refine w_draw (id := 6) [] (hold []) Fa.mixed (hold_ok (by simp)) ?_; (first | (refine wh_pure 0 rfl (by kernel_rfl) rfl rfl (pvm_move_s rfl) ?_) | (refine wh_pure 0 rfl (by kernel_rfl) rfl rfl pv_move ?_)); (first | (refine wh_pure 1 rfl (by kernel_rfl) rfl rfl (pvm_move_i rfl) ?_) | (refine wh_pure 1 rfl (by kernel_rfl) rfl rfl pv_move ?_)); refine wh_pure 2 rfl (by kernel_rfl) rfl rfl (pv_indexAddr1 Fa.sl_22 rfl rfl (by omega) (by omega)) ?_; (first | (refine wh_load 3 rfl (by kernel_rfl) rfl rfl Fa.one_5 rfl (Has.hold 0 rfl rfl) ?_) | (refine wh_load 3 rfl (by kernel_rfl) rfl rfl Fa.one_5 rfl (Has.hold 1 rfl rfl) ?_) | (refine wh_load 3 rfl (by kernel_rfl) rfl rfl Fa.one_5 rfl (Has.hold 2 rfl rfl) ?_) | (refine wh_load 3 rfl (by kernel_rfl) rfl rfl Fa.one_5 rfl (Has.hold 3 rfl rfl) ?_)); (first | (refine wh_pure 4 rfl (by kernel_rfl) rfl rfl (pvm_move_s rfl) ?_) | (refine wh_pure 4 rfl (by kernel_rfl) rfl rfl pv_move ?_)); (first | (refine wh_pure 5 rfl (by kernel_rfl) rfl rfl (pvm_move_i rfl) ?_) | (refine wh_pure 5 rfl (by kernel_rfl) rfl rfl pv_move ?_)); refine wh_pure 6 rfl (by kernel_rfl) rfl rfl (pv_indexAddr1 Fa.sl_22 rfl rfl (by omega) (by omega)) ?_; (first | (refine wh_load 7 rfl (by kernel_rfl) rfl rfl Fa.one_5 rfl (Has.hold 0 rfl rfl) ?_) | (refine wh_load 7 rfl (by kernel_rfl) rfl rfl Fa.one_5 rfl (Has.hold 1 rfl rfl) ?_) | (refine wh_load 7 rfl (by kernel_rfl) rfl rfl Fa.one_5 rfl (Has.hold 2 rfl rfl) ?_) | (refine wh_load 7 rfl (by kernel_rfl) rfl rfl Fa.one_5 rfl (Has.hold 3 rfl rfl) ?_)); refine wh_pure 8 rfl (by kernel_rfl) rfl rfl (pv8_neq rfl rfl) ?_; first | (refine wh_done (by kernel_rfl) ?_) | (refine wz_done (by kernel_rfl) ?_))
          | ((with_reducible refine w_region (id := 7) ?_); (first | (refine wl_pure rfl rfl (pvm_assign_b rfl) ?_) | (refine wl_pure rfl rfl pv_assign ?_)); refine wl_nil ?_)
          | ((with_reducible refine w_region (id := 8) ?_); (first | (refine wl_pure rfl rfl (pv_iadd rfl rfl (by omega)) ?_) | (refine wl_pure rfl rfl (pv_add rfl rfl) ?_)); (first | (refine wl_pure rfl rfl (pvm_move_i rfl) ?_) | (refine wl_pure rfl rfl pv_move ?_)); refine wl_nil ?_)
          | ((with_reducible refine w_region (id := 9) ?_); (first | (refine wl_pure rfl rfl (pvm_assign_b rfl) ?_) | (refine wl_pure rfl rfl pv_assign ?_)); refine wl_nil ?_))
      refine ret_r (v := .bool _) rfl ⟨?_, rfl⟩
      rw [List.take_of_length_le (by omega), List.take_of_length_le (by omega)] at heq
      simp [heq]
  · refine c_of_w2 (n := 26) Try.func41 rfl rfl rfl (by rfl) fun E => ?_
    repeat' (first
        | with_reducible refine w_seq ?_
        | with_reducible refine thenP_n ?_
        | with_reducible refine thenP_x ?_
        | with_reducible refine thenP_r ?_
        | with_reducible refine blockP_n ?_
        | with_reducible refine blockP_r ?_
        | with_reducible refine blockP_eq ?_
        | with_reducible refine blockP_ne (by rfl) ?_
        | with_reducible refine w_skip ?_
        | with_reducible refine w_ret ?_
        | with_reducible refine w_exit ?_
        | with_reducible refine w_block ?_
        | refine w_cond_true rfl ?_
        | refine w_cond_false rfl ?_
        | (refine w_cond_dec rfl (fun _ => ?_) (fun _ => ?_) <;> try (exfalso; omega))
        | (refine w_cond_ndec rfl (fun _ => ?_) (fun _ => ?_) <;> try (exfalso; omega))
        | refine w_cond_not rfl (fun _ => ?_) (fun _ => ?_)
        | refine w_cond rfl (fun _ => ?_) (fun _ => ?_)
        | ((with_reducible refine w_region (id := 0) ?_); (first | (refine wl_pure rfl rfl (pvm_assign_b rfl) ?_) | (refine wl_pure rfl rfl pv_assign ?_)); refine wl_nil ?_)
        | ((with_reducible refine w_region (id := 1) ?_); (first | (refine wl_pure rfl rfl (pvm_move_s rfl) ?_) | (refine wl_pure rfl rfl pv_move ?_)); refine wl_pure rfl rfl (pv_len_slice Fa.sl_22 rfl) ?_; (first | (refine wl_pure rfl rfl (pvm_move_s rfl) ?_) | (refine wl_pure rfl rfl pv_move ?_)); refine wl_pure rfl rfl (pv_len_slice Fa.sl_22 rfl) ?_; refine wl_pure rfl rfl (pv_neq rfl rfl) ?_; refine wl_nil ?_)
        | ((with_reducible refine w_region (id := 2) ?_); (first | (refine wl_pure rfl rfl (pvm_assign_b rfl) ?_) | (refine wl_pure rfl rfl pv_assign ?_)); refine wl_nil ?_)
        | ((with_reducible refine w_region (id := 3) ?_); (first | (refine wl_pure rfl rfl (pvm_move_s rfl) ?_) | (refine wl_pure rfl rfl pv_move ?_)); refine wl_pure rfl rfl (pv_len_slice Fa.sl_22 rfl) ?_; (first | (refine wl_pure rfl rfl (pvm_move_i rfl) ?_) | (refine wl_pure rfl rfl pv_move ?_)); refine wl_nil ?_)
        | ((with_reducible refine w_region (id := 4) ?_); refine wl_pure rfl rfl (pv_lss rfl rfl) ?_; refine wl_nil ?_)
        | ((with_reducible refine w_region (id := 5) ?_); (first | (refine wl_pure rfl rfl (pvm_move_i rfl) ?_) | (refine wl_pure rfl rfl pv_move ?_)); (first | (refine wl_pure rfl rfl (pvm_assign_i rfl) ?_) | (refine wl_pure rfl rfl pv_assign ?_)); refine wl_nil ?_)
        | (refine w_draw (id := 6) [] (hold []) Fa.mixed (hold_ok (by simp)) ?_; (first | (refine wh_pure 0 rfl (by kernel_rfl) rfl rfl (pvm_move_s rfl) ?_) | (refine wh_pure 0 rfl (by kernel_rfl) rfl rfl pv_move ?_)); (first | (refine wh_pure 1 rfl (by kernel_rfl) rfl rfl (pvm_move_i rfl) ?_) | (refine wh_pure 1 rfl (by kernel_rfl) rfl rfl pv_move ?_)); refine wh_pure 2 rfl (by kernel_rfl) rfl rfl (pv_indexAddr1 Fa.sl_22 rfl rfl (by omega) (by omega)) ?_; (first | (refine wh_load 3 rfl (by kernel_rfl) rfl rfl Fa.one_5 rfl (Has.hold 0 rfl rfl) ?_) | (refine wh_load 3 rfl (by kernel_rfl) rfl rfl Fa.one_5 rfl (Has.hold 1 rfl rfl) ?_) | (refine wh_load 3 rfl (by kernel_rfl) rfl rfl Fa.one_5 rfl (Has.hold 2 rfl rfl) ?_) | (refine wh_load 3 rfl (by kernel_rfl) rfl rfl Fa.one_5 rfl (Has.hold 3 rfl rfl) ?_)); (first | (refine wh_pure 4 rfl (by kernel_rfl) rfl rfl (pvm_move_s rfl) ?_) | (refine wh_pure 4 rfl (by kernel_rfl) rfl rfl pv_move ?_)); (first | (refine wh_pure 5 rfl (by kernel_rfl) rfl rfl (pvm_move_i rfl) ?_) | (refine wh_pure 5 rfl (by kernel_rfl) rfl rfl pv_move ?_)); refine wh_pure 6 rfl (by kernel_rfl) rfl rfl (pv_indexAddr1 Fa.sl_22 rfl rfl (by omega) (by omega)) ?_; (first | (refine wh_load 7 rfl (by kernel_rfl) rfl rfl Fa.one_5 rfl (Has.hold 0 rfl rfl) ?_) | (refine wh_load 7 rfl (by kernel_rfl) rfl rfl Fa.one_5 rfl (Has.hold 1 rfl rfl) ?_) | (refine wh_load 7 rfl (by kernel_rfl) rfl rfl Fa.one_5 rfl (Has.hold 2 rfl rfl) ?_) | (refine wh_load 7 rfl (by kernel_rfl) rfl rfl Fa.one_5 rfl (Has.hold 3 rfl rfl) ?_)); refine wh_pure 8 rfl (by kernel_rfl) rfl rfl (pv8_neq rfl rfl) ?_; first | (refine wh_done (by kernel_rfl) ?_) | (refine wz_done (by kernel_rfl) ?_))
        | ((with_reducible refine w_region (id := 7) ?_); (first | (refine wl_pure rfl rfl (pvm_assign_b rfl) ?_) | (refine wl_pure rfl rfl pv_assign ?_)); refine wl_nil ?_)
        | ((with_reducible refine w_region (id := 8) ?_); (first | (refine wl_pure rfl rfl (pv_iadd rfl rfl (by omega)) ?_) | (refine wl_pure rfl rfl (pv_add rfl rfl) ?_)); (first | (refine wl_pure rfl rfl (pvm_move_i rfl) ?_) | (refine wl_pure rfl rfl pv_move ?_)); refine wl_nil ?_)
        | ((with_reducible refine w_region (id := 9) ?_); (first | (refine wl_pure rfl rfl (pvm_assign_b rfl) ?_) | (refine wl_pure rfl rfl pv_assign ?_)); refine wl_nil ?_))
    refine ret_r (v := .bool _) rfl ⟨?_, rfl⟩
    rw [decide_eq_false (fun h => hle (by rw [h]))]

theorem mul64_1 (ro : RO) : C Try.prog 86 #[v64 1#64, v64 3584#64] ro [] fun v own => v = .tuple #[v64 0#64, v64 3584#64] ∧ own = [] := by
  refine c_of_w2 (n := 51) Try.func86 rfl rfl rfl (by rfl) fun E => ?_
  repeat' (first
    | with_reducible refine w_seq ?_
    | with_reducible refine thenP_n ?_
    | with_reducible refine thenP_x ?_
    | with_reducible refine thenP_r ?_
    | with_reducible refine blockP_n ?_
    | with_reducible refine blockP_r ?_
    | with_reducible refine blockP_eq ?_
    | with_reducible refine blockP_ne (by rfl) ?_
    | with_reducible refine w_skip ?_
    | with_reducible refine w_ret ?_
    | with_reducible refine w_exit ?_
    | with_reducible refine w_block ?_
    | refine w_cond_true rfl ?_
    | refine w_cond_false rfl ?_
    | (refine w_cond_dec rfl (fun _ => ?_) (fun _ => ?_) <;> try (exfalso; omega))
    | (refine w_cond_ndec rfl (fun _ => ?_) (fun _ => ?_) <;> try (exfalso; omega))
    | refine w_cond_not rfl (fun _ => ?_) (fun _ => ?_)
    | refine w_cond rfl (fun _ => ?_) (fun _ => ?_)
    | ((with_reducible refine w_region (id := 0) ?_); (first | (refine wl_pure rfl rfl (pvm_assign_64 rfl) ?_) | (refine wl_pure rfl rfl pv_assign ?_)); (first | (refine wl_pure rfl rfl (pvm_assign_64 rfl) ?_) | (refine wl_pure rfl rfl pv_assign ?_)); refine wl_nil ?_)
    | ((with_reducible refine w_region (id := 1) ?_); (first | (refine wl_pure rfl rfl (pvm_move_64 rfl) ?_) | (refine wl_pure rfl rfl pv_move ?_)); refine wl_pure rfl rfl (pv64_and rfl (v64_lit 4294967295 rfl (by omega))) ?_; (first | (refine wl_pure rfl rfl (pvm_assign_64 rfl) ?_) | (refine wl_pure rfl rfl pv_assign ?_)); refine wl_nil ?_)
    | ((with_reducible refine w_region (id := 2) ?_); (first | (refine wl_pure rfl rfl (pvm_move_64 rfl) ?_) | (refine wl_pure rfl rfl pv_move ?_)); refine wl_pure rfl rfl (pv64_shr rfl rfl (by omega)) ?_; (first | (refine wl_pure rfl rfl (pvm_assign_64 rfl) ?_) | (refine wl_pure rfl rfl pv_assign ?_)); refine wl_nil ?_)
    | ((with_reducible refine w_region (id := 3) ?_); (first | (refine wl_pure rfl rfl (pvm_move_64 rfl) ?_) | (refine wl_pure rfl rfl pv_move ?_)); refine wl_pure rfl rfl (pv64_and rfl (v64_lit 4294967295 rfl (by omega))) ?_; (first | (refine wl_pure rfl rfl (pvm_assign_64 rfl) ?_) | (refine wl_pure rfl rfl pv_assign ?_)); refine wl_nil ?_)
    | ((with_reducible refine w_region (id := 4) ?_); (first | (refine wl_pure rfl rfl (pvm_move_64 rfl) ?_) | (refine wl_pure rfl rfl pv_move ?_)); refine wl_pure rfl rfl (pv64_shr rfl rfl (by omega)) ?_; (first | (refine wl_pure rfl rfl (pvm_assign_64 rfl) ?_) | (refine wl_pure rfl rfl pv_assign ?_)); refine wl_nil ?_)
    | ((with_reducible refine w_region (id := 5) ?_); (first | (refine wl_pure rfl rfl (pvm_move_64 rfl) ?_) | (refine wl_pure rfl rfl pv_move ?_)); (first | (refine wl_pure rfl rfl (pvm_move_64 rfl) ?_) | (refine wl_pure rfl rfl pv_move ?_)); refine wl_pure rfl rfl (pv64_mul rfl rfl) ?_; (first | (refine wl_pure rfl rfl (pvm_assign_64 rfl) ?_) | (refine wl_pure rfl rfl pv_assign ?_)); refine wl_nil ?_)
    | ((with_reducible refine w_region (id := 6) ?_); (first | (refine wl_pure rfl rfl (pvm_move_64 rfl) ?_) | (refine wl_pure rfl rfl pv_move ?_)); (first | (refine wl_pure rfl rfl (pvm_move_64 rfl) ?_) | (refine wl_pure rfl rfl pv_move ?_)); refine wl_pure rfl rfl (pv64_mul rfl rfl) ?_; (first | (refine wl_pure rfl rfl (pvm_move_64 rfl) ?_) | (refine wl_pure rfl rfl pv_move ?_)); refine wl_pure rfl rfl (pv64_shr rfl rfl (by omega)) ?_; refine wl_pure rfl rfl (pv64_add rfl rfl) ?_; (first | (refine wl_pure rfl rfl (pvm_assign_64 rfl) ?_) | (refine wl_pure rfl rfl pv_assign ?_)); refine wl_nil ?_)
    | ((with_reducible refine w_region (id := 7) ?_); (first | (refine wl_pure rfl rfl (pvm_move_64 rfl) ?_) | (refine wl_pure rfl rfl pv_move ?_)); refine wl_pure rfl rfl (pv64_and rfl (v64_lit 4294967295 rfl (by omega))) ?_; (first | (refine wl_pure rfl rfl (pvm_assign_64 rfl) ?_) | (refine wl_pure rfl rfl pv_assign ?_)); refine wl_nil ?_)
    | ((with_reducible refine w_region (id := 8) ?_); (first | (refine wl_pure rfl rfl (pvm_move_64 rfl) ?_) | (refine wl_pure rfl rfl pv_move ?_)); refine wl_pure rfl rfl (pv64_shr rfl rfl (by omega)) ?_; (first | (refine wl_pure rfl rfl (pvm_assign_64 rfl) ?_) | (refine wl_pure rfl rfl pv_assign ?_)); refine wl_nil ?_)
    | ((with_reducible refine w_region (id := 9) ?_); (first | (refine wl_pure rfl rfl (pvm_move_64 rfl) ?_) | (refine wl_pure rfl rfl pv_move ?_)); (first | (refine wl_pure rfl rfl (pvm_move_64 rfl) ?_) | (refine wl_pure rfl rfl pv_move ?_)); (first | (refine wl_pure rfl rfl (pvm_move_64 rfl) ?_) | (refine wl_pure rfl rfl pv_move ?_)); refine wl_pure rfl rfl (pv64_mul rfl rfl) ?_; refine wl_pure rfl rfl (pv64_add rfl rfl) ?_; (first | (refine wl_pure rfl rfl (pvm_assign_64 rfl) ?_) | (refine wl_pure rfl rfl pv_assign ?_)); refine wl_nil ?_)
    | ((with_reducible refine w_region (id := 10) ?_); (first | (refine wl_pure rfl rfl (pvm_move_64 rfl) ?_) | (refine wl_pure rfl rfl pv_move ?_)); (first | (refine wl_pure rfl rfl (pvm_move_64 rfl) ?_) | (refine wl_pure rfl rfl pv_move ?_)); refine wl_pure rfl rfl (pv64_mul rfl rfl) ?_; (first | (refine wl_pure rfl rfl (pvm_move_64 rfl) ?_) | (refine wl_pure rfl rfl pv_move ?_)); refine wl_pure rfl rfl (pv64_add rfl rfl) ?_; (first | (refine wl_pure rfl rfl (pvm_move_64 rfl) ?_) | (refine wl_pure rfl rfl pv_move ?_)); refine wl_pure rfl rfl (pv64_shr rfl rfl (by omega)) ?_; refine wl_pure rfl rfl (pv64_add rfl rfl) ?_; (first | (refine wl_pure rfl rfl (pvm_assign_64 rfl) ?_) | (refine wl_pure rfl rfl pv_assign ?_)); refine wl_nil ?_)
    | ((with_reducible refine w_region (id := 11) ?_); (first | (refine wl_pure rfl rfl (pvm_move_64 rfl) ?_) | (refine wl_pure rfl rfl pv_move ?_)); (first | (refine wl_pure rfl rfl (pvm_move_64 rfl) ?_) | (refine wl_pure rfl rfl pv_move ?_)); refine wl_pure rfl rfl (pv64_mul rfl rfl) ?_; (first | (refine wl_pure rfl rfl (pvm_assign_64 rfl) ?_) | (refine wl_pure rfl rfl pv_assign ?_)); refine wl_nil ?_))
  exact ret_r rfl ⟨rfl, rfl⟩
theorem mul_1 (ro : RO) : C Try.prog 71 #[v64 1#64, v64 3584#64] ro [] fun v own => v = .tuple #[v64 0#64, v64 3584#64] ∧ own = [] := by
  refine c_of_w2 (n := 30) Try.func71 rfl rfl rfl (by rfl) fun E => ?_
  repeat' (first
    | with_reducible refine w_seq ?_
    | with_reducible refine thenP_n ?_
    | with_reducible refine thenP_x ?_
    | with_reducible refine thenP_r ?_
    | with_reducible refine blockP_n ?_
    | with_reducible refine blockP_r ?_
    | with_reducible refine blockP_eq ?_
    | with_reducible refine blockP_ne (by rfl) ?_
    | with_reducible refine w_skip ?_
    | with_reducible refine w_ret ?_
    | with_reducible refine w_exit ?_
    | with_reducible refine w_block ?_
    | refine w_cond_true rfl ?_
    | refine w_cond_false rfl ?_
    | (refine w_cond_dec rfl (fun _ => ?_) (fun _ => ?_) <;> try (exfalso; omega))
    | (refine w_cond_ndec rfl (fun _ => ?_) (fun _ => ?_) <;> try (exfalso; omega))
    | refine w_cond_not rfl (fun _ => ?_) (fun _ => ?_)
    | refine w_cond rfl (fun _ => ?_) (fun _ => ?_)
    | ((with_reducible refine w_region (id := 0) ?_); (first | (refine wl_pure rfl rfl (pvm_assign_64 rfl) ?_) | (refine wl_pure rfl rfl pv_assign ?_)); (first | (refine wl_pure rfl rfl (pvm_assign_64 rfl) ?_) | (refine wl_pure rfl rfl pv_assign ?_)); refine wl_nil ?_)
    | ((with_reducible refine w_region (id := 1) ?_); (first | (refine wl_pure rfl rfl (pvm_move_64 rfl) ?_) | (refine wl_pure rfl rfl pv_move ?_)); refine wl_pure rfl rfl (pvc_64_32 Try.underlying91 Try.underlying35 rfl) ?_; (first | (refine wl_pure rfl rfl (pvm_move_64 rfl) ?_) | (refine wl_pure rfl rfl pv_move ?_)); refine wl_pure rfl rfl (pvc_64_32 Try.underlying91 Try.underlying35 rfl) ?_; fail "no way: call"; (first | (refine wl_pure rfl rfl (pvm_move_t rfl) ?_) | (refine wl_pure rfl rfl pv_move ?_)); refine wl_pure rfl rfl (pv_extract rfl rfl) ?_; refine wl_pure rfl rfl (pv_extract rfl rfl) ?_; (first | (refine wl_pure rfl rfl (pvm_assign_32 rfl) ?_) | (refine wl_pure rfl rfl pv_assign ?_)); (first | (refine wl_pure rfl rfl (pvm_assign_32 rfl) ?_) | (refine wl_pure rfl rfl pv_assign ?_)); refine wl_nil ?_)
    | ((with_reducible refine w_region (id := 2) ?_); (first | (refine wl_pure rfl rfl (pvm_move_32 rfl) ?_) | (refine wl_pure rfl rfl pv_move ?_)); refine wl_pure rfl rfl (pvc_32_64 Try.underlying35 Try.underlying91 rfl) ?_; (first | (refine wl_pure rfl rfl (pvm_move_32 rfl) ?_) | (refine wl_pure rfl rfl pv_move ?_)); refine wl_pure rfl rfl (pvc_32_64 Try.underlying35 Try.underlying91 rfl) ?_; (first | (refine wl_pure rfl rfl (pvm_assign_64 rfl) ?_) | (refine wl_pure rfl rfl pv_assign ?_)); (first | (refine wl_pure rfl rfl (pvm_assign_64 rfl) ?_) | (refine wl_pure rfl rfl pv_assign ?_)); refine wl_nil ?_)
    | ((with_reducible refine w_region (id := 3) ?_); (first | (refine wl_pure rfl rfl (pvm_move_64 rfl) ?_) | (refine wl_pure rfl rfl pv_move ?_)); (first | (refine wl_pure rfl rfl (pvm_move_64 rfl) ?_) | (refine wl_pure rfl rfl pv_move ?_)); refine wl_do rfl rfl (opw_call Fa.ca_86 rfl [] (mul64_1 ro) RoOk.self (fun v own h => ?_)); obtain ⟨rfl, rfl⟩ := h; (first | (refine wl_pure rfl rfl (pvm_move_t rfl) ?_) | (refine wl_pure rfl rfl pv_move ?_)); refine wl_pure rfl rfl (pv_extract rfl rfl) ?_; refine wl_pure rfl rfl (pv_extract rfl rfl) ?_; (first | (refine wl_pure rfl rfl (pvm_assign_64 rfl) ?_) | (refine wl_pure rfl rfl pv_assign ?_)); (first | (refine wl_pure rfl rfl (pvm_assign_64 rfl) ?_) | (refine wl_pure rfl rfl pv_assign ?_)); refine wl_nil ?_)
    | ((with_reducible refine w_region (id := 4) ?_); (first | (refine wl_pure rfl rfl (pvm_move_64 rfl) ?_) | (refine wl_pure rfl rfl pv_move ?_)); (first | (refine wl_pure rfl rfl (pvm_move_64 rfl) ?_) | (refine wl_pure rfl rfl pv_move ?_)); (first | (refine wl_pure rfl rfl (pvm_assign_64 rfl) ?_) | (refine wl_pure rfl rfl pv_assign ?_)); (first | (refine wl_pure rfl rfl (pvm_assign_64 rfl) ?_) | (refine wl_pure rfl rfl pv_assign ?_)); refine wl_nil ?_))
  exact ret_n rfl ⟨rfl, rfl⟩
theorem mnz : IsExt Try.prog 72 (Extern.BytealgMakeNoZero.makeNoZero #[3] #[22]) := ⟨_, Try.func72, by kernel_rfl, by kernel_rfl, by kernel_rfl, by kernel_rfl⟩
/-- bytes.Repeat of one byte, as flash.New asks for it. -/
theorem repeat_c (x : BitVec 8) (ad : Addr) (c : Nat) (ro : RO) (hs : SlR v8 (.slice (some ad) 1 c) [x] ro) : C Try.prog 36 #[.slice (some ad) 1 c, .int .i64 3584] ro [] fun v own =>
    ∃ (nb : Nat) (l : List (BitVec 8)), v = .slice (some ⟨nb, 0, none⟩) 3584 3584 ∧ own = [[(nb, arr v8 5 l)]] ∧ 3584 ≤ l.length ∧ l.take 3584 = List.replicate 3584 x := by
  refine c_of_w2 (n := 77) Try.func36 rfl rfl rfl (by rfl) fun E => ?_
  repeat' (first
    | with_reducible refine w_seq ?_
    | with_reducible refine thenP_n ?_
    | with_reducible refine thenP_x ?_
    | with_reducible refine thenP_r ?_
    | with_reducible refine blockP_n ?_
    | with_reducible refine blockP_r ?_
    | with_reducible refine blockP_eq ?_
    | with_reducible refine blockP_ne (by rfl) ?_
    | with_reducible refine w_skip ?_
    | with_reducible refine w_ret ?_
    | with_reducible refine w_exit ?_
    | with_reducible refine w_block ?_
    | refine w_cond_true rfl ?_
    | refine w_cond_false rfl ?_
    | (refine w_cond_dec rfl (fun _ => ?_) (fun _ => ?_) <;> try (exfalso; omega))
    | (refine w_cond_ndec rfl (fun _ => ?_) (fun _ => ?_) <;> try (exfalso; omega))
    | refine w_cond_not rfl (fun _ => ?_) (fun _ => ?_)
    | refine w_cond rfl (fun _ => ?_) (fun _ => ?_)
    | ((with_reducible refine w_region (id := 0) ?_); (first | (refine wl_pure rfl rfl (pvm_assign_s rfl) ?_) | (refine wl_pure rfl rfl pv_assign ?_)); refine wl_nil ?_)
    | ((with_reducible refine w_region (id := 1) ?_); (first | (refine wl_pure rfl rfl (pvm_move_i rfl) ?_) | (refine wl_pure rfl rfl pv_move ?_)); refine wl_pure rfl rfl (pv_eql rfl rfl) ?_; refine wl_nil ?_)
    | ((with_reducible refine w_region (id := 2) ?_); refine wl_do rfl rfl (opw_buildSlice0 Try.underlying22 Fa.sz_5 fun nb => ?_); (first | (refine wl_pure rfl rfl (pvm_assign_s rfl) ?_) | (refine wl_pure rfl rfl pv_assign ?_)); refine wl_nil ?_)
    | ((with_reducible refine w_region (id := 3) ?_); (first | (refine wl_pure rfl rfl (pvm_move_i rfl) ?_) | (refine wl_pure rfl rfl pv_move ?_)); refine wl_pure rfl rfl (pv_lss rfl rfl) ?_; refine wl_nil ?_)
    | ((with_reducible refine w_region (id := 4) ?_); fail "no way: makeInterface"; fail "no way: panic"; refine wl_nil ?_)
    | ((with_reducible refine w_region (id := 5) ?_); (first | (refine wl_pure rfl rfl (pvm_move_s rfl) ?_) | (refine wl_pure rfl rfl pv_move ?_)); refine wl_pure rfl rfl (pv_len_slice Fa.sl_22 rfl) ?_; refine wl_pure rfl rfl (pvc_i_64 Try.underlying3 Try.underlying91 rfl) ?_; (first | (refine wl_pure rfl rfl (pvm_move_i rfl) ?_) | (refine wl_pure rfl rfl pv_move ?_)); refine wl_pure rfl rfl (pvc_i_64 Try.underlying3 Try.underlying91 rfl) ?_; refine wl_do rfl rfl (opw_call Fa.ca_71 rfl [] (mul_1 ro) RoOk.self (fun v own h => ?_)); obtain ⟨rfl, rfl⟩ := h; (first | (refine wl_pure rfl rfl (pvm_move_t rfl) ?_) | (refine wl_pure rfl rfl pv_move ?_)); refine wl_pure rfl rfl (pv_extract rfl rfl) ?_; refine wl_pure rfl rfl (pv_extract rfl rfl) ?_; (first | (refine wl_pure rfl rfl (pvm_assign_64 rfl) ?_) | (refine wl_pure rfl rfl pv_assign ?_)); (first | (refine wl_pure rfl rfl (pvm_assign_64 rfl) ?_) | (refine wl_pure rfl rfl pv_assign ?_)); refine wl_nil ?_)
    | ((with_reducible refine w_region (id := 6) ?_); all_goals (first | (refine wl_pure rfl rfl (pvm_move_64 rfl) ?_) | (refine wl_pure rfl rfl pv_move ?_)); all_goals (refine wl_pure rfl rfl (pv64_gtr rfl (v64_lit 0 rfl (by omega))) ?_); all_goals (first | (refine wl_pure rfl rfl (pvm_move_b rfl) ?_) | (refine wl_pure rfl rfl pv_move ?_)); all_goals (first | (refine wl_skipd rfl rfl ?_) | (refine wl_pure rfl rfl (pvm_move_64 rfl) ?_) | (refine wl_pure rfl rfl pv_move ?_) | ((refine wl_split_dec rfl rfl rfl (fun _ => ?_) (fun _ => ?_)) <;> (first | (refine wl_skipd rfl rfl ?_) | (refine wl_pure rfl rfl (pvm_move_64 rfl) ?_) | (refine wl_pure rfl rfl pv_move ?_))) | ((refine wl_split rfl rfl rfl (fun _ => ?_) (fun _ => ?_)) <;> (first | (refine wl_skipd rfl rfl ?_) | (refine wl_pure rfl rfl (pvm_move_64 rfl) ?_) | (refine wl_pure rfl rfl pv_move ?_)))); all_goals (first | (refine wl_skipd rfl rfl ?_) | (refine wl_pure rfl rfl (pv64_gtr rfl (v64_lit 9223372036854775807 rfl (by omega))) ?_) | ((refine wl_split_dec rfl rfl rfl (fun _ => ?_) (fun _ => ?_)) <;> (first | (refine wl_skipd rfl rfl ?_) | (refine wl_pure rfl rfl (pv64_gtr rfl (v64_lit 9223372036854775807 rfl (by omega))) ?_))) | ((refine wl_split rfl rfl rfl (fun _ => ?_) (fun _ => ?_)) <;> (first | (refine wl_skipd rfl rfl ?_) | (refine wl_pure rfl rfl (pv64_gtr rfl (v64_lit 9223372036854775807 rfl (by omega))) ?_)))); all_goals (first | (refine wl_pure rfl rfl (pvk_t_b rfl rfl) ?_) | (refine wl_pure rfl rfl (pvk_f_b rfl rfl) ?_) | (refine wl_pure rfl rfl (pv_pick_t rfl) ?_) | (refine wl_pure rfl rfl (pv_pick_f rfl) ?_) | (refine wl_pure rfl rfl (pvk_and rfl rfl) ?_) | (refine wl_pure rfl rfl (pvk_or rfl rfl) ?_) | (refine wl_pure rfl rfl (pv_pick rfl) ?_)); all_goals (refine wl_nil ?_))
    | ((with_reducible refine w_region (id := 7) ?_); fail "no way: makeInterface"; fail "no way: panic"; refine wl_nil ?_)
    | ((with_reducible refine w_region (id := 8) ?_); (first | (refine wl_pure rfl rfl (pvm_move_64 rfl) ?_) | (refine wl_pure rfl rfl pv_move ?_)); (first | (refine wl_pure rfl rfl (pvc_64_n 3584 Try.underlying91 Try.underlying3 rfl rfl (by omega)) ?_) | (refine wl_pure rfl rfl (pvc_u_i Try.underlying91 Try.underlying3 rfl (by omega)) ?_)); (first | (refine wl_pure rfl rfl (pvm_assign_i rfl) ?_) | (refine wl_pure rfl rfl pv_assign ?_)); refine wl_nil ?_)
    | ((with_reducible refine w_region (id := 9) ?_); (first | (refine wl_pure rfl rfl (pvm_move_s rfl) ?_) | (refine wl_pure rfl rfl pv_move ?_)); refine wl_pure rfl rfl (pv_len_slice Fa.sl_22 rfl) ?_; refine wl_pure rfl rfl (pv_eql rfl rfl) ?_; refine wl_nil ?_)
    | ((with_reducible refine w_region (id := 10) ?_); refine wl_do rfl rfl (opw_buildSlice0 Try.underlying22 Fa.sz_5 fun nb => ?_); (first | (refine wl_pure rfl rfl (pvm_assign_s rfl) ?_) | (refine wl_pure rfl rfl pv_assign ?_)); refine wl_nil ?_)
    | ((with_reducible refine w_region (id := 11) ?_); (first | (refine wl_pure rfl rfl (pvm_move_i rfl) ?_) | (refine wl_pure rfl rfl pv_move ?_)); (first | (refine wl_pure rfl rfl (pvm_assign_i rfl) ?_) | (refine wl_pure rfl rfl pv_assign ?_)); refine wl_nil ?_)
    | ((with_reducible refine w_region (id := 12) ?_); (first | (refine wl_pure rfl rfl (pvm_move_i rfl) ?_) | (refine wl_pure rfl rfl pv_move ?_)); refine wl_pure rfl rfl (pv_gtr rfl rfl) ?_; refine wl_nil ?_)
    | ((with_reducible refine w_region (id := 13) ?_); (first | (refine wl_pure rfl rfl (pvm_move_s rfl) ?_) | (refine wl_pure rfl rfl pv_move ?_)); refine wl_pure rfl rfl (pv_len_slice Fa.sl_22 rfl) ?_; (first | (refine wl_pure rfl rfl (pv_iquo rfl rfl (by omega)) ?_) | (refine wl_pure rfl rfl (pv_quo rfl rfl (by omega)) ?_)); (first | (refine wl_pure rfl rfl (pvm_move_s rfl) ?_) | (refine wl_pure rfl rfl pv_move ?_)); refine wl_pure rfl rfl (pv_len_slice Fa.sl_22 rfl) ?_; (first | (refine wl_pure rfl rfl (pv_imul rfl rfl (by omega)) ?_) | (refine wl_pure rfl rfl (pv_mul rfl rfl) ?_)); (first | (refine wl_pure rfl rfl (pvm_assign_i rfl) ?_) | (refine wl_pure rfl rfl pv_assign ?_)); refine wl_nil ?_)
    | ((with_reducible refine w_region (id := 14) ?_); (first | (refine wl_pure rfl rfl (pvm_move_i rfl) ?_) | (refine wl_pure rfl rfl pv_move ?_)); refine wl_pure rfl rfl (pv_eql rfl rfl) ?_; refine wl_nil ?_)
    | ((with_reducible refine w_region (id := 15) ?_); (first | (refine wl_pure rfl rfl (pvm_move_s rfl) ?_) | (refine wl_pure rfl rfl pv_move ?_)); refine wl_pure rfl rfl (pv_len_slice Fa.sl_22 rfl) ?_; (first | (refine wl_pure rfl rfl (pvm_assign_i rfl) ?_) | (refine wl_pure rfl rfl pv_assign ?_)); refine wl_nil ?_)
    | ((with_reducible refine w_region (id := 16) ?_); (first | (refine wl_pure rfl rfl (pvm_move_i rfl) ?_) | (refine wl_pure rfl rfl pv_move ?_)); refine wl_do rfl rfl (opw_makeNoZero (m := 3584) mnz Try.underlying22 rfl (by omega) fun nb l hl => ?_); skip; (first | (refine wl_pure rfl rfl (pvm_move_i rfl) ?_) | (refine wl_pure rfl rfl pv_move ?_)); (first | (refine wl_pure rfl rfl (pvm_move_i rfl) ?_) | (refine wl_pure rfl rfl pv_move ?_)); refine wl_pure rfl rfl (pv_slice_hm Fa.sl_22 rfl rfl rfl (by omega) (by omega) (by omega)) ?_; (first | (refine wl_pure rfl rfl (pvm_assign_s rfl) ?_) | (refine wl_pure rfl rfl pv_assign ?_)); refine wl_nil ?_)
    | ((with_reducible refine w_region (id := 17) ?_); (first | (refine wl_pure rfl rfl (pvm_move_s rfl) ?_) | (refine wl_pure rfl rfl pv_move ?_)); (first | (refine wl_pure rfl rfl (pvm_move_s rfl) ?_) | (refine wl_pure rfl rfl pv_move ?_)); refine wl_do rfl rfl (opw_copy (f := v8) (ys := [x]) 0 Fa.sl_22 (fun _ => rfl) rfl rfl rfl (hs.rd _) (by simp; omega) ?_); (first | (refine wl_pure rfl rfl (pvm_assign_i rfl) ?_) | (refine wl_pure rfl rfl pv_assign ?_)); refine wl_nil ?_))
  refine w_loop2 (ι := Nat) (fun i ρ ro' own => 1 ≤ i ∧ i ≤ 3584 ∧ Kn [(7, .int .i64 3584), (8, .int .i64 3584), (9, .slice (some ⟨nb, 0, none⟩) 3584 3584), (10, .int .i64 i)] ρ ∧ ro' = ro ∧ own = [[(nb, arr v8 5 (List.replicate i x ++ l.drop i))]]) (fun i => 3584 - i) 1 ⟨by omega, by omega, ⟨rfl, rfl, rfl, rfl, trivial⟩, rfl, rfl⟩ ?_
  rintro i ρ ro' own ⟨hi1, hi, hk, rfl, rfl⟩
  obtain ⟨ρ', rfl⟩ := hk.ex
  by_cases hlt : i < 3584
  · have hcut : cutAddr (some ⟨nb, 0, none⟩) i 1 3584 = some ⟨nb, i, none⟩ := by rw [cutAddr_some, if_neg (by omega), Nat.zero_add, Nat.mul_one]
    repeat' (first
        | with_reducible refine w_seq ?_
        | with_reducible refine thenP_n ?_
        | with_reducible refine thenP_x ?_
        | with_reducible refine thenP_r ?_
        | with_reducible refine blockP_n ?_
        | with_reducible refine blockP_r ?_
        | with_reducible refine blockP_eq ?_
        | with_reducible refine blockP_ne (by rfl) ?_
        | with_reducible refine w_skip ?_
        | with_reducible refine w_ret ?_
        | with_reducible refine w_exit ?_
        | with_reducible refine w_block ?_
        | refine w_cond_true rfl ?_
        | refine w_cond_false rfl ?_
        | (refine w_cond_dec rfl (fun _ => ?_) (fun _ => ?_) <;> try (exfalso; omega))
        | (refine w_cond_ndec rfl (fun _ => ?_) (fun _ => ?_) <;> try (exfalso; omega))
        | refine w_cond_not rfl (fun _ => ?_) (fun _ => ?_)
        | refine w_cond rfl (fun _ => ?_) (fun _ => ?_)
        | ((with_reducible refine w_region (id := 18) ?_); (first | (refine wl_pure rfl rfl (pvm_move_i rfl) ?_) | (refine wl_pure rfl rfl pv_move ?_)); (first | (refine wl_pure rfl rfl (pvm_move_i rfl) ?_) | (refine wl_pure rfl rfl pv_move ?_)); refine wl_pure rfl rfl (pv_lss rfl rfl) ?_; refine wl_nil ?_)
        | ((with_reducible refine w_region (id := 19) ?_); (first | (refine wl_pure rfl rfl (pvm_move_i rfl) ?_) | (refine wl_pure rfl rfl pv_move ?_)); (first | (refine wl_pure rfl rfl (pvm_move_i rfl) ?_) | (refine wl_pure rfl rfl pv_move ?_)); refine wl_pure rfl rfl (pv_min rfl rfl) ?_; (first | (refine wl_pure rfl rfl (pvm_assign_i rfl) ?_) | (refine wl_pure rfl rfl pv_assign ?_)); refine wl_nil ?_)
        | (refine w_draw (id := 20) [] (hold []) Fa.mixed (hold_ok (by simp)) ?_; (first | (refine wh_pure 0 rfl (by kernel_rfl) rfl rfl (pvm_move_i rfl) ?_) | (refine wh_pure 0 rfl (by kernel_rfl) rfl rfl pv_move ?_)); (first | (refine wh_pure 1 rfl (by kernel_rfl) rfl rfl (pvm_move_s rfl) ?_) | (refine wh_pure 1 rfl (by kernel_rfl) rfl rfl pv_move ?_)); (first | (refine wh_pure 2 rfl (by kernel_rfl) rfl rfl (pvm_move_i rfl) ?_) | (refine wh_pure 2 rfl (by kernel_rfl) rfl rfl pv_move ?_)); refine wh_pure 3 rfl (by kernel_rfl) rfl rfl (pv_slice_l Fa.sl_22 rfl rfl (by omega) (by omega)) ?_; (first | (refine wh_pure 4 rfl (by kernel_rfl) rfl rfl (pvm_move_s rfl) ?_) | (refine wh_pure 4 rfl (by kernel_rfl) rfl rfl pv_move ?_)); (first | (refine wh_pure 5 rfl (by kernel_rfl) rfl rfl (pvm_move_i rfl) ?_) | (refine wh_pure 5 rfl (by kernel_rfl) rfl rfl pv_move ?_)); refine wh_pure 6 rfl (by kernel_rfl) rfl rfl (pv_slice_h Fa.sl_22 rfl rfl (by omega) (by omega)) ?_; refine wh_do 7 (by kernel_rfl) rfl rfl rfl rfl (opw_copy (f := v8) (b := nb) (o := i) (dl := 3584 - i) (dc := 3584 - i) (ys := List.replicate (min (i : Int) 3584).toNat x) 0 Fa.sl_22 (fun _ => rfl) (by rw [← hcut]; rfl) rfl (by rw [List.length_replicate]; rfl) (Rd.arr 0 0 rfl (fun k hk => by rw [List.length_replicate] at hk; rw [Nat.zero_add, List.getElem?_append_left (by simp; omega), List.getElem?_replicate, List.getElem?_replicate, if_pos (by omega), if_pos hk])) (by simp; omega) ⟨RoOk.nil, ?_⟩); (first | (refine wh_pure 8 rfl (by kernel_rfl) rfl rfl (pv_iadd rfl rfl (by omega)) ?_) | (refine wh_pure 8 rfl (by kernel_rfl) rfl rfl (pv_add rfl rfl) ?_)); (first | (refine wh_pure 9 rfl (by kernel_rfl) rfl rfl (pvm_assign_i rfl) ?_) | (refine wh_pure 9 rfl (by kernel_rfl) rfl rfl pv_assign ?_)); first | (refine wh_done (by kernel_rfl) ?_) | (refine wz_done (by kernel_rfl) ?_)))
    refine ⟨i + min i (3584 - i), _, Sub.refl, ⟨by omega, by omega, ⟨rfl, rfl, rfl, ?_, trivial⟩, rfl, ?_⟩, by omega⟩
    · show Value.int .i64 _ = _
      congr 1
      simp; omega
    · show [[(nb, arr v8 5 _)]] = _
      have e1 : min (List.replicate (min (i : Int) 3584).toNat x).length (3584 - i) = min i (3584 - i) := by simp; omega
      rw [e1, List.take_left' (by simp), List.take_replicate, List.drop_append, List.drop_of_length_le (by simp), List.nil_append, List.length_replicate, List.drop_drop, List.replicate_append_replicate]
      have e2 : i + min (min i (3584 - i)) (min (i : Int) 3584).toNat = i + min i (3584 - i) := by omega
      have e3 : i + (i + min i (3584 - i) - i) = i + min i (3584 - i) := by omega
      rw [e2, e3]
  · obtain rfl : i = 3584 := by omega
    repeat' (first
        | with_reducible refine w_seq ?_
        | with_reducible refine thenP_n ?_
        | with_reducible refine thenP_x ?_
        | with_reducible refine thenP_r ?_
        | with_reducible refine blockP_n ?_
        | with_reducible refine blockP_r ?_
        | with_reducible refine blockP_eq ?_
        | with_reducible refine blockP_ne (by rfl) ?_
        | with_reducible refine w_skip ?_
        | with_reducible refine w_ret ?_
        | with_reducible refine w_exit ?_
        | with_reducible refine w_block ?_
        | refine w_cond_true rfl ?_
        | refine w_cond_false rfl ?_
        | (refine w_cond_dec rfl (fun _ => ?_) (fun _ => ?_) <;> try (exfalso; omega))
        | (refine w_cond_ndec rfl (fun _ => ?_) (fun _ => ?_) <;> try (exfalso; omega))
        | refine w_cond_not rfl (fun _ => ?_) (fun _ => ?_)
        | refine w_cond rfl (fun _ => ?_) (fun _ => ?_)
        | ((with_reducible refine w_region (id := 18) ?_); (first | (refine wl_pure rfl rfl (pvm_move_i rfl) ?_) | (refine wl_pure rfl rfl pv_move ?_)); (first | (refine wl_pure rfl rfl (pvm_move_i rfl) ?_) | (refine wl_pure rfl rfl pv_move ?_)); refine wl_pure rfl rfl (pv_lss rfl rfl) ?_; refine wl_nil ?_)
        | ((with_reducible refine w_region (id := 19) ?_); (first | (refine wl_pure rfl rfl (pvm_move_i rfl) ?_) | (refine wl_pure rfl rfl pv_move ?_)); (first | (refine wl_pure rfl rfl (pvm_move_i rfl) ?_) | (refine wl_pure rfl rfl pv_move ?_)); refine wl_pure rfl rfl (pv_min rfl rfl) ?_; (first | (refine wl_pure rfl rfl (pvm_assign_i rfl) ?_) | (refine wl_pure rfl rfl pv_assign ?_)); refine wl_nil ?_)
        | ((with_reducible refine w_region (id := 21) ?_); (first | (refine wl_pure rfl rfl (pvm_move_s rfl) ?_) | (refine wl_pure rfl rfl pv_move ?_)); (first | (refine wl_pure rfl rfl (pvm_assign_s rfl) ?_) | (refine wl_pure rfl rfl pv_assign ?_)); refine wl_nil ?_))
    refine ret_r rfl ⟨nb, _, rfl, rfl, ?_, ?_⟩
    · rw [List.length_append, List.length_replicate]; omega
    · rw [List.take_left' (List.length_replicate ..)]
end Go.Proofs.Ytnohdfhhdppflaa